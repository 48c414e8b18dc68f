/- Blocks: Product, turn, fill. -/
import Derived.Test.YtcchhfkmhbjdmaaPg2
import Derived.Test.YtcchhfkmhbjdmaaJj
set_option linter.unusedVariables false
set_option linter.unusedSimpArgs false
set_option pp.deepTerms true
set_option pp.maxSteps 100000
namespace Go.Proofs.Ytcchhfkmhbjdmaa
open Go.RowKit
def prodL (a b : List UInt8) : List UInt8 := textL (W2.times (loadL a) (loadL b))
set_option maxRecDepth 20000 in
set_option maxHeartbeats 1000000 in
theorem product_yes (a b : List UInt8) (ha : a.length = 16) (hb : b.length = 16) (w : World) : Calls Try.prog 45 #[.string (str a), .string (str b)] w fun e w' => e = .returned (.tuple #[.string (str (prodL a b)), .int .i64 0]) ∧ Fr (fun _ => False) w w' := by
  obtain ⟨A, hA⟩ : ∃ s, s = str a := ⟨_, rfl⟩
  obtain ⟨B, hB⟩ : ∃ s, s = str b := ⟨_, rfl⟩
  have h1 : ((A.size : Int) != 16) = false := by rw [hA, str_size, ha]; rfl
  have h2 : ((B.size : Int) != 16) = false := by rw [hB, str_size, hb]; rfl
  have HLA := Lib.hid (show ∀ w, Calls Try.prog 89 #[.string A] w fun e w' => e = .returned (.agg (vals (loadL a))) ∧ Fr (fun _ => False) w w' from fun w => by rw [hA]; exact load_calls a ha w)
  have HLB := Lib.hid (show ∀ w, Calls Try.prog 89 #[.string B] w fun e w' => e = .returned (.agg (vals (loadL b))) ∧ Fr (fun _ => False) w w' from fun w => by rw [hB]; exact load_calls b hb w)
  rw [← hA, ← hB]
  clear hA hB ha hb
  go_enter Try.func45, Try.ntmps45
  go_wp2_with fail
  refine (HLA.out w).mono ?_
  rintro e w1 ⟨rfl, f1⟩
  have F1 := Lib.hid f1
  clear f1
  go_wp2_with fail
  refine (HLB.out w1).mono ?_
  rintro e w2 ⟨rfl, f2⟩
  have F2 := Lib.hid (F1.out.trans f2 (fun i hi => hi.elim))
  clear f2
  go_wp2_with fail
  refine (times_calls (loadL a) (loadL b) w2).mono ?_
  rintro e w3 ⟨rfl, f3⟩
  have F3 := Lib.hid (F2.out.trans f3 (fun i hi => hi.elim))
  clear f3
  go_wp2_with fail
  refine (text_calls (W2.times (loadL a) (loadL b)) w3).mono ?_
  rintro e w4 ⟨rfl, f4⟩
  have F4 := Lib.hid (F3.out.trans f4 (fun i hi => hi.elim))
  clear f4
  go_wp2_with fail
  go_ret2
  exact ⟨rfl, F4.out⟩
set_option maxRecDepth 20000 in
set_option maxHeartbeats 1000000 in
theorem product_no (A B : ByteArray) (h : A.size ≠ 16 ∨ B.size ≠ 16) (w : World) : Calls Try.prog 45 #[.string A, .string B] w fun e w' => e = .returned (.tuple #[.string ⟨#[]⟩, .int .i64 2]) ∧ w = w' := by
  by_cases h0 : A.size = 16
  · have h1 : ((A.size : Int) != 16) = false := by rw [h0]; rfl
    have h2 : ((B.size : Int) != 16) = true := by simp; omega
    clear h h0
    go_enter Try.func45, Try.ntmps45
    go_wp2_with fail
    go_ret2
    exact ⟨rfl, rfl⟩
  · have h1 : ((A.size : Int) != 16) = true := by simp; omega
    clear h h0
    go_enter Try.func45, Try.ntmps45
    go_wp2_with fail
    go_ret2
    exact ⟨rfl, rfl⟩
def turnG (a b : List UInt8) (i : Nat) : UInt8 := a.getD i 0 ^^^ b.getD i 0
def turnL (a b : List UInt8) : List UInt8 := full (turnG a b) (min a.length b.length)
set_option maxRecDepth 20000 in
set_option maxHeartbeats 1000000 in
theorem gturn_calls (a b : List UInt8) (ha : a.length ≤ 100000) (hb : b.length ≤ 100000) (w : World) : Calls Try.prog 117 #[.string (str a), .string (str b)] w fun e w' => e = .returned (.string (str (turnL a b))) ∧ Fr (fun _ => False) w w' := by
  obtain ⟨A, hA⟩ : ∃ s, s = str a := ⟨_, rfl⟩
  obtain ⟨B, hB⟩ : ∃ s, s = str b := ⟨_, rfl⟩
  obtain ⟨la, hla⟩ : ∃ n, n = a.length := ⟨_, rfl⟩
  obtain ⟨lb, hlb⟩ : ∃ n, n = b.length := ⟨_, rfl⟩
  obtain ⟨m, hm⟩ : ∃ m, m = min a.length b.length := ⟨_, rfl⟩
  have hsa : A.size = la := by rw [hA, str_size, hla]
  have hsb : B.size = lb := by rw [hB, str_size, hlb]
  have hmin : min (la : Int) (lb : Int) = (m : Int) := by omega
  have hmk := make_zeros m (by omega) w
  have HA := Lib.hid hA
  have HB := Lib.hid hB
  have HM := Lib.hid (show m = min a.length b.length ∧ m ≤ la ∧ m ≤ lb ∧ m ≤ 100000 by omega)
  have hm1 : m ≤ la := HM.out.2.1
  have hm2 : m ≤ lb := HM.out.2.2.1
  have hm3 : m ≤ 100000 := HM.out.2.2.2
  rw [← hA, ← hB]
  clear hA hB hla hlb hm ha hb
  go_enter Try.func117, Try.ntmps117
  go_wp2_with fail
  have hR := heap_alloc_new w (.cells (bcells (List.replicate m 0)).toArray 5)
  have hf : Fr (fun _ => False) w (w.alloc (.cells (bcells (List.replicate m 0)).toArray 5)) := (Fr.refl _ _).alloc _
  obtain ⟨R, hRd⟩ : ∃ R, R = w.heap.size := ⟨_, rfl⟩
  rw [← hRd] at hR ⊢
  generalize w.alloc (.cells (bcells (List.replicate m 0)).toArray 5) = w1 at hR hf ⊢
  have HR := Lib.hid hR
  have HF := Lib.hid hf
  have HRW := Lib.hid (show w.heap.size ≤ R by omega)
  clear hR hf hRd hmk hmin
  go_loopw [15] (fun v wr => ∃ i : Nat, i ≤ m ∧ v = .int .i64 i ∧ wr.heap[R]? = some (.cells (bcells (upd (turnG a b) (List.replicate m 0) i)).toArray 5 (0, 0)) ∧ Fr (fun _ => False) w wr) (fun v _ => m - (intOf v).toNat)
  case atStart => exact ⟨0, Nat.zero_le _, rfl, by rw [upd_zero]; exact HR.out, HF.out⟩
  case round =>
    obtain ⟨i, hi, rfl, hr, hf⟩ := hrel
    have HRr := Lib.hid hr
    have HFr := Lib.hid hf
    clear hr hf HR HF
    by_cases hlt : i < m
    · have hx : (i : Int) < (m : Int) := by omega
      have hxa : (i : Int) < (la : Int) := by omega
      have hxb : (i : Int) < (lb : Int) := by omega
      obtain ⟨x, hxd⟩ : ∃ x, x = a.getD i 0 := ⟨_, rfl⟩
      obtain ⟨y, hyd⟩ : ∃ x, x = b.getD i 0 := ⟨_, rfl⟩
      obtain ⟨z, hz⟩ : ∃ z, z = x ^^^ y := ⟨_, rfl⟩
      have e1 := xor_u8 x y
      rw [← hz] at e1
      have hAs : ∀ h, A[i]'h = x := by
        intro h
        have hk := HA.out
        subst hk
        rw [str_at32, hxd]
      have hBs : ∀ h, B[i]'h = y := by
        intro h
        have hk := HB.out
        subst hk
        rw [str_at32, hyd]
      have cR : wr.drew.cell? ⟨R, i, none⟩ = some (.int .u8 ((0 : UInt8).toNat : Int)) := bcells_cell (w := wr.drew) HRr.out i 0 (by rw [upd_get _ _ _ _ (by simp; omega), if_neg (by omega), List.getD_eq_getElem?_getD, List.getElem?_replicate, if_pos hlt]; rfl)
      have fR : wr.drew.frozen? ⟨R, i, none⟩ = false := frozen_of_row wr.drew _ _ _ _ HRr.out
      have HR2 := Lib.hid (show (wr.drew.setCell ⟨R, i, none⟩ (.int .u8 (z.toNat : Int))).heap[R]? = some (.cells (bcells (upd (turnG a b) (List.replicate m 0) (i + 1))).toArray 5 (0, 0)) by
        rw [← upd_set _ _ _ (by simp; omega), show turnG a b i = z by rw [hz, hxd, hyd]; rfl]
        exact bcells_set (w := wr.drew) HRr.out i z)
      have HF2 := Lib.hid (HFr.out.drew.setCell ⟨R, i, none⟩ (.int .u8 (z.toNat : Int)) (.inr HRW.out))
      have bx := x.toNat_lt
      have by' := y.toNat_lt
      have bz := z.toNat_lt
      clear hxd hyd hz
      go_wp2
      refine wp_region_still_tail 10 (by kernel_rfl) (by kernel_rfl) ?_
      simp only [List.take_succ_cons, List.take_zero, List.drop_succ_cons, List.drop_zero]
      change wpStill _ _ wr.drew (fun a' => wpList _ _ _ _ a' wr.drew) _ _
      repeat still_step
      refine wpStill_nil ?_
      go_wp2
      go_roundw
      case rel => exact ⟨i + 1, by omega, by go_num, HR2.out, HF2.out⟩
      case measure => simp [intOf]; omega
    · have him : i = m := by omega
      have HRz := Lib.hid (show wr.heap[R]? = some (.cells (bcells (turnL a b)).toArray 5 (0, 0)) by
        have := HRr.out
        rw [him, upd_all _ _ m (by simp), HM.out.1] at this
        exact this)
      have hcv := run_convert_str (P := Try.prog) wr 27 5 Try.underlying27 Try.underlying5 R 0 m m (turnL a b) (by rw [HM.out.1]; exact full_length _ _) (fun j v hj => by
        rw [Nat.zero_add, cell_of_row wr R j _ _ _ HRz.out]; simpa using hj) 9 Try.underlying9
      clear him
      go_wp2
      go_ret
      exact ⟨rfl, HFr.out⟩
def fillL (s : List UInt8) : List UInt8 := s ++ List.replicate ((16 - s.length % 16) % 16) 0
theorem fill_idx (n : Nat) (hn : n ≤ 1000000) : ∃ q r p : Nat, (n : Int).tmod 16 = (q : Int) ∧ (n : Int) % 16 = (q : Int) ∧ IntKind.i64.wrap (q : Int) = (q : Int) ∧ IntKind.i64.wrap (16 - (q : Int)) = (r : Int) ∧ IntKind.i64.wrap (r : Int) = (r : Int) ∧ (r : Int).tmod 16 = (p : Int) ∧ (r : Int) % 16 = (p : Int) ∧ IntKind.i64.wrap (p : Int) = (p : Int) ∧ p < 16 ∧ p = (16 - n % 16) % 16 := by
  refine ⟨n % 16, 16 - n % 16, (16 - n % 16) % 16, ?_, by omega, IntWalk.i64_in _ (by omega), ?_, IntWalk.i64_in _ (by omega), ?_, by omega, IntWalk.i64_in _ (by omega), by omega, rfl⟩
  · rw [Int.tmod_eq_emod_of_nonneg (by omega)]; omega
  · rw [IntWalk.i64_in _ (by omega)]; omega
  · rw [Int.tmod_eq_emod_of_nonneg (by omega)]; omega
set_option maxRecDepth 20000 in
set_option maxHeartbeats 1000000 in
theorem fill_calls (s : List UInt8) (hs : s.length ≤ 1000000) (w : World) : Calls Try.prog 118 #[.string (str s)] w fun e w' => e = .returned (.string (str (fillL s))) ∧ Fr (fun _ => False) w w' := by
  obtain ⟨S, hS⟩ : ∃ t, t = str s := ⟨_, rfl⟩
  obtain ⟨n, hn⟩ : ∃ n, n = s.length := ⟨_, rfl⟩
  have hsz : S.size = n := by rw [hS, str_size, hn]
  obtain ⟨q, r, p, hq1, hq2, hq3, hr1, hr2, hp1, hp2, hp3, hp16, hpd⟩ := fill_idx n (by omega)
  obtain ⟨Z, hZ⟩ : ∃ t, t = str (List.replicate p 0) := ⟨_, rfl⟩
  obtain ⟨O, hO⟩ : ∃ t, t = str (fillL s) := ⟨_, rfl⟩
  have hap : S ++ Z = O := by rw [hS, hZ, hO, jstr_append, hpd, hn]; rfl
  have hzs : Z.size = p := by rw [hZ, str_size, List.length_replicate]
  have hb1 : ¬ 9223372036854775807 < S.size + Z.size := by omega
  have hb2 : S.size + Z.size ≤ 9223372036854775807 := by omega
  have hb3 : n + Z.size ≤ 9223372036854775807 := by omega
  have HRep := Lib.hid (show ∀ w, Calls Try.prog 80 #[.string ⟨#[0]⟩, .int .i64 (p : Int)] w fun e w' => e = .returned (.string Z) ∧ Fr (fun _ => False) w w' from fun w => by rw [hZ]; exact repeat_zeros p (by omega) w)
  rw [← hS, ← hO]
  clear hS hn hZ hO hpd hs
  go_enter Try.func118, Try.ntmps118
  go_wp2_with fail
  refine (HRep.out w).mono ?_
  rintro e w1 ⟨rfl, f1⟩
  have F1 := Lib.hid f1
  clear f1
  go_wp2_with fail
  go_ret
  exact ⟨rfl, F1.out⟩
end Go.Proofs.Ytcchhfkmhbjdmaa
