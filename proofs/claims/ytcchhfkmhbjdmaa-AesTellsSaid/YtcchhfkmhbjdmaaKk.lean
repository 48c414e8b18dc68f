/- The document's answers: awake. -/
import Derived.Test.YtcchhfkmhbjdmaaKi
import Derived.Test.YtcchhfkmhbjdmaaKj
import Derived.Laws.MakeOwn
set_option linter.unusedVariables false
set_option linter.unusedSimpArgs false
set_option pp.deepTerms true
set_option pp.maxSteps 100000
namespace Go.Proofs.Ytcchhfkmhbjdmaa
open Go.RowKit
def cnt (f : UInt8) (i : Nat) : UInt8 := f + UInt8.ofNat i
theorem made_bytes (n : Nat) : madeCells #[.int .u8 0] n = (bcells (List.replicate n 0)).toArray := by
  rw [← Array.toArray_toList (xs := madeCells _ _), toList_madeCells_one]
  simp [bcells]
theorem cnt_int (f : UInt8) (i : Nat) : ((f.toNat : Int) + (i : Int) % 256) % 256 = ((cnt f i).toNat : Int) := by
  unfold cnt
  rw [UInt8.toNat_add]
  simp
set_option maxRecDepth 20000 in
set_option maxHeartbeats 4000000 in
theorem counted_calls (f : UInt8) (n : Nat) (hn : n ≤ 1000) (w : World) : Calls Try.prog 68 #[.int .u8 (f.toNat : Int), .int .i64 n] w fun e w' => e = .returned (.string (str (full (cnt f) n))) ∧ Fr (fun _ => False) w w' := by
  have hmk : (Instr.makeSlice 27 (.int .i64 n) (.int .i64 n)).run Try.prog w = .ok (.slice (some ⟨w.heap.size, 0, none⟩) n n) (w.alloc (.cells (bcells (List.replicate n 0)).toArray 5)) := by
    have := run_make_row' (P := Try.prog) 27 5 (.int .u8 0) 1 Try.underlying27 (by kernel_rfl) rfl .i64 .i64 n (by omega) (by omega) w
    rw [made_bytes] at this
    exact this
  go_enter Try.func68, Try.ntmps68
  go_wp2
  have hN := heap_alloc_new w (.cells (bcells (List.replicate n 0)).toArray 5)
  have hf : Fr (fun _ => False) w (w.alloc (.cells (bcells (List.replicate n 0)).toArray 5)) := (Fr.refl _ _).alloc _
  generalize w.alloc (.cells (bcells (List.replicate n 0)).toArray 5) = w1 at hN hf ⊢
  obtain ⟨B, hB⟩ : ∃ B, B = w.heap.size := ⟨_, rfl⟩
  rw [← hB] at hN ⊢
  have HN := Lib.hid hN
  have HF := Lib.hid hf
  have HBd := Lib.hid hB
  clear hN hf hB hmk
  go_loopw [6] (fun v wr => ∃ i : Nat, i ≤ n ∧ v = .int .i64 i ∧ wr.heap[B]? = some (.cells (bcells (upd (cnt f) (List.replicate n 0) i)).toArray 5 (0, 0)) ∧ Fr (fun _ => False) w wr) (fun v _ => n - (intOf v).toNat)
  case atStart => exact ⟨0, Nat.zero_le _, rfl, by rw [upd_zero]; exact HN.out, HF.out⟩
  case round =>
    obtain ⟨i, hi, rfl, hN, hf⟩ := hrel
    have HN' := Lib.hid hN
    have HF' := Lib.hid hf
    clear hN hf HN HF
    by_cases hlt : i < n
    · have c1 := bcells_cell HN'.out i _ (upd_get (cnt f) (List.replicate n 0) i i (by simpa using hlt))
      rw [if_neg (by omega)] at c1
      have hz : wr.frozen? ⟨B, i, none⟩ = false := frozen_of_row wr _ _ _ _ HN'.out
      have HN1 := Lib.hid (bcells_set HN'.out i (cnt f i))
      rw [upd_set _ _ _ (by simpa using hlt)] at HN1
      have hx := cnt_int f i
      obtain ⟨z, hzd⟩ : ∃ z, z = cnt f i := ⟨_, rfl⟩
      rw [← hzd] at hx HN1
      clear hzd
      generalize (List.replicate n 0).getD i 0 = y at c1
      have b1 := f.toNat_lt
      have b2 := z.toNat_lt
      go_wp2
      go_roundw
      case rel =>
        exact ⟨i + 1, by omega, by go_num, HN1.out, HF'.out.setCell _ _ (.inr (by have := HBd.out; simp; omega))⟩
      case measure => simp [intOf]; omega
    · have hin : i = n := by omega
      rw [hin, upd_all _ _ n (by simp)] at HN'
      clear hin
      have hcv := run_convert_str (P := Try.prog) wr 27 5 Try.underlying27 Try.underlying5 B 0 n n (full (cnt f) n) (full_length _ _) (fun j v hj => by
        rw [Nat.zero_add, cell_of_row wr B j _ _ _ HN'.out]; simpa using hj) 9 Try.underlying9
      go_wp2
      go_ret
      exact ⟨rfl, HF'.out⟩
theorem ka_key : full (cnt 0) 32 = kaKey := by decide +kernel
theorem str_text : (⟨#[0, 17, 34, 51, 68, 85, 102, 119, 136, 153, 170, 187, 204, 221, 238, 255]⟩ : ByteArray) = str kaText := rfl
theorem ka_ans : str (press (words kaKey 52) kaText) = ⟨#[142, 162, 183, 202, 81, 103, 69, 191, 234, 252, 73, 144, 75, 73, 96, 137]⟩ := by rw [ka]; rfl
set_option maxRecDepth 20000 in
set_option maxHeartbeats 8000000 in
theorem awake_true (w : World) : Calls Try.prog 17 #[] w fun e w' => e = .returned (.bool true) ∧ Fr (fun _ => False) w w' := by
  go_enter Try.func17, Try.ntmps17
  go_wp2_with fail
  refine (counted_calls 0 32 (by omega) w).mono ?_
  rintro e w1 ⟨rfl, h1⟩
  have HF1 := Lib.hid h1
  clear h1
  rw [ka_key]
  go_wp2_with fail
  refine (new_yes kaKey rfl w1).mono ?_
  rintro e w2 ⟨C, rfl, hC, _, h2⟩
  have HC := Lib.hid hC
  have HF2 := Lib.hid (HF1.out.trans h2 (fun i hi => hi.elim))
  clear hC h2
  go_wp2_with fail
  refine (new_no ⟨#[]⟩ (by decide) (by decide) w2).mono ?_
  rintro e w3 ⟨rfl, rfl⟩
  go_wp2_with fail
  rw [str_text]
  refine (press_yes C (words kaKey 52) kaText rfl w2 HC.out).mono ?_
  rintro e w3 ⟨rfl, h3⟩
  rw [ka_ans]
  have HF3 := Lib.hid (HF2.out.trans h3 (fun i hi => hi.elim))
  clear h3
  go_wp2_with fail
  refine (press_no C ⟨#[]⟩ (by decide) w3).mono ?_
  rintro e w4 ⟨rfl, rfl⟩
  go_wp2_with fail
  refine (box_calls 0 w3).mono ?_
  rintro e w4 ⟨rfl, h4⟩
  rw [ka_box0]
  have HF4 := Lib.hid (HF3.out.trans h4 (fun i hi => hi.elim))
  clear h4
  go_wp2_with fail
  refine (box_calls 0x53 w4).mono ?_
  rintro e w5 ⟨rfl, h5⟩
  rw [ka_box53]
  have HF5 := Lib.hid (HF4.out.trans h5 (fun i hi => hi.elim))
  clear h5
  go_wp2_with fail
  refine (mul_calls 0x57 0x83 w5).mono ?_
  rintro e w6 ⟨rfl, rfl⟩
  rw [ka_mul]
  go_wp2_with fail
  go_ret
  exact ⟨rfl, HF5.out⟩
end Go.Proofs.Ytcchhfkmhbjdmaa
