/- The cipher's functions walked: New, Press. -/
import Derived.Lib.ConvBytes
import Derived.Test.YtcchhfkmhbjdmaaGreatPm1
/-! Kf -/
set_option linter.unusedVariables false
set_option linter.unusedSimpArgs false
set_option pp.deepTerms true
set_option pp.maxSteps 100000
namespace Go.Proofs.YtcchhfkmhbjdmaaGreat
open Go.RowKit
/-- A cipher in memory. -/
def Cip (w : World) (C : Nat) (W : List UInt8) : Prop := w.heap[C]? = some (.cells (bcells (boxT ++ W)).toArray 120 (0, 0)) ∧ W.length = 240
theorem Cip.fr {F : Nat → Prop} {w w' : World} {C : Nat} {W : List UInt8} (h : Cip w C W) (hf : Fr F w w') (hn : ¬ F C) : Cip w' C W := ⟨hf.heap h.1 hn, h.2⟩
theorem Cip.word {w : World} {C : Nat} {W : List UInt8} (h : Cip w C W) (k : Nat) (hk : k < 240) : w.cell? ⟨C, 256 + k, none⟩ = some (.int .u8 ((W.getD k 0).toNat : Int)) := by
  refine bcells_cell h.1 _ _ ?_
  rw [List.getElem?_append_right (by rw [boxT_length]; omega), boxT_length, Nat.add_sub_cancel_left, List.getD_eq_getElem?_getD]
  have : k < W.length := by rw [h.2]; exact hk
  simp [List.getElem?_eq_getElem this]
theorem Cip.box {w : World} {C : Nat} {W : List UInt8} (h : Cip w C W) (b : UInt8) : w.cell? ⟨C, b.toNat, none⟩ = some (.int .u8 ((box b).toNat : Int)) := by
  refine bcells_cell h.1 _ _ ?_
  rw [List.getElem?_append_left (by rw [boxT_length]; exact b.toNat_lt)]
  exact boxT_get b
theorem Cip.lt {w : World} {C : Nat} {W : List UInt8} (h : Cip w C W) : C < w.heap.size := lt_of_heap h.1
/-- A block of 16. -/
def Blk (w : World) (S : Nat) (s : List UInt8) : Prop := w.heap[S]? = some (.cells (bcells s).toArray 123 (0, 0))
theorem Blk.at {w : World} {S : Nat} {f : Nat → UInt8} {s : List UInt8} {i : Nat} (h : Blk w S (upd f s i)) (j : Nat) (hj : j < s.length) : w.cell? ⟨S, j, none⟩ = some (.int .u8 ((if j < i then f j else s.getD j 0).toNat : Int)) :=
  bcells_cell h j _ (upd_get f s i j hj)
theorem Blk.step {w : World} {S : Nat} {f : Nat → UInt8} {s : List UInt8} {i : Nat} (h : Blk w S (upd f s i)) (hi : i < s.length) : Blk (w.setCell ⟨S, i, none⟩ (.int .u8 ((f i).toNat : Int))) S (upd f s (i + 1)) := by
  rw [← upd_set f s i hi]
  exact bcells_set h i (f i)
set_option maxRecDepth 20000 in
set_option maxHeartbeats 4000000 in
theorem add_calls (C S : Nat) (W s : List UInt8) (r : Nat) (hr : r ≤ 14) (hs : s.length = 16) (hne : C ≠ S) (w : World) (hC : Cip w C W) (hS : Blk w S s) :
    Calls Tryz.prog 75 #[.pointer (some ⟨C, 0, none⟩), .pointer (some ⟨S, 0, none⟩), .int .i64 r] w fun e w' => e = .returned (.tuple #[]) ∧ Blk w' S (addL W r s) ∧ Fr (fun i => i = S) w w' := by
  have HC := Lib.hid hC
  have HS := Lib.hid hS
  clear hC hS
  go_enter Tryz.func75, Tryz.ntmps75
  go_wp2
  go_loopw [7] (fun v wr => ∃ i : Nat, i ≤ 16 ∧ v = .int .i64 i ∧ Blk wr S (upd (addF W r s) s i) ∧ Fr (fun i => i = S) w wr) (fun v _ => 16 - (intOf v).toNat)
  case atStart => exact ⟨0, Nat.zero_le _, rfl, by rw [upd_zero]; exact HS.out, Fr.refl _ _⟩
  case round =>
    obtain ⟨i, hi, rfl, hB, hf⟩ := hrel
    have HB := Lib.hid hB
    have HF := Lib.hid hf
    clear hB hf
    by_cases hlt : i < 16
    · have c1 : wr.cell? ⟨S, i, none⟩ = some (.int .u8 ((s.getD i 0).toNat : Int)) := by
        have := HB.out.at i (by omega)
        rwa [if_neg (by omega)] at this
      have c2 : wr.cell? ⟨C, 256 + (4 * (r : Int) + (i : Int) / 4).toNat * 4 + ((i : Int) % 4).toNat, none⟩ = some (.int .u8 ((W.getD (16 * r + i) 0).toNat : Int)) := by
        rw [show 256 + (4 * (r : Int) + (i : Int) / 4).toNat * 4 + ((i : Int) % 4).toNat = 256 + (16 * r + i) by omega]
        exact (HC.out.fr HF.out hne).word _ (by omega)
      have htm : (i : Int).tmod 4 = (i : Int) % 4 := Int.tmod_eq_emod_of_nonneg (by omega)
      have hz : wr.frozen? ⟨S, i, none⟩ = false := frozen_of_row wr S _ _ _ HB.out
      have hw1 : IntKind.i64.wrap (4 * (r : Int)) = 4 * (r : Int) := IntWalk.i64_in _ (by omega)
      have hw2 : IntKind.i64.wrap ((i : Int) / 4) = (i : Int) / 4 := IntWalk.i64_in _ (by omega)
      have hw3 : IntKind.i64.wrap ((i : Int) % 4) = (i : Int) % 4 := IntWalk.i64_in _ (by omega)
      have hw4 : IntKind.i64.wrap (4 * (r : Int) + (i : Int) / 4) = 4 * (r : Int) + (i : Int) / 4 := IntWalk.i64_in _ (by omega)
      have hb1 : (0 : Int) ≤ 4 * (r : Int) + (i : Int) / 4 := by omega
      have hb2 : 4 * (r : Int) + (i : Int) / 4 < 60 := by omega
      have hb3 : (0 : Int) ≤ (i : Int) % 4 := by omega
      have hb4 : (i : Int) % 4 < 4 := by omega
      have hfi : addF W r s i = s.getD i 0 ^^^ W.getD (16 * r + i) 0 := rfl
      have hx := xor_u8 (s.getD i 0) (W.getD (16 * r + i) 0)
      rw [← hfi] at hx
      have HB1 := Lib.hid (HB.out.step (by omega))
      clear hfi
      generalize s.getD i 0 = x at c1 hx
      generalize W.getD (16 * r + i) 0 = y at c2 hx
      generalize addF W r s i = z at hx HB1
      have bx := x.toNat_lt
      have by' := y.toNat_lt
      go_wp2
      refine wp_region_still_tail 21 (by kernel_rfl) (by kernel_rfl) ?_
      simp only [List.take_succ_cons, List.take_zero, List.drop_succ_cons, List.drop_zero]
      change wpStill _ _ wr.drew (fun a' => wpList _ _ _ _ a' wr.drew) _ _
      repeat still_step
      refine wpStill_nil ?_
      have c1' : wr.drew.cell? ⟨S, i, none⟩ = some (.int .u8 (x.toNat : Int)) := c1
      have hz' : wr.drew.frozen? ⟨S, i, none⟩ = false := hz
      go_wp2
      go_roundw
      case rel => exact ⟨i + 1, by omega, by go_num, HB1.out, HF.out.drew.setCell _ _ (.inl rfl)⟩
      case measure => simp [intOf]; omega
    · have h16 : i = 16 := by omega
      rw [h16] at HB
      clear h16
      go_wp2
      go_end0
      refine ⟨rfl, ?_, HF.out⟩
      have := HB.out
      rwa [upd_all _ _ _ hs] at this
set_option maxRecDepth 20000 in
set_option maxHeartbeats 4000000 in
theorem shift_calls (C : Nat) (W s : List UInt8) (hs : s.length = 16) (w : World) (hC : Cip w C W) :
    Calls Tryz.prog 76 #[.pointer (some ⟨C, 0, none⟩), .agg (bcells s).toArray] w fun e w' => e = .returned (.agg (bcells (shiftL s)).toArray) ∧ Fr (fun _ => False) w w' := by
  have HC := Lib.hid hC
  go_enter Tryz.func76, Tryz.ntmps76
  go_wp2
  obtain ⟨P, hP⟩ : ∃ P, P = w.heap.size := ⟨_, rfl⟩
  have hz : (#[.int .u8 0, .int .u8 0, .int .u8 0, .int .u8 0, .int .u8 0, .int .u8 0, .int .u8 0, .int .u8 0, .int .u8 0, .int .u8 0, .int .u8 0, .int .u8 0, .int .u8 0, .int .u8 0, .int .u8 0, .int .u8 0] : Array Value) = (bcells (List.replicate 16 0)).toArray := rfl
  rw [hz]
  have hA := heap_alloc_new w (.cells (bcells s).toArray 123)
  have hB := heap_alloc_new (w.alloc (.cells (bcells s).toArray 123)) (.cells (bcells (List.replicate 16 0)).toArray 123)
  have hD := heap_alloc_new ((w.alloc (.cells (bcells s).toArray 123)).alloc (.cells (bcells (List.replicate 16 0)).toArray 123)) (.cells (bcells (List.replicate 16 0)).toArray 123)
  have hf : Fr (fun _ => False) w (((w.alloc (.cells (bcells s).toArray 123)).alloc (.cells (bcells (List.replicate 16 0)).toArray 123)).alloc (.cells (bcells (List.replicate 16 0)).toArray 123)) := (((Fr.refl _ _).alloc _).alloc _).alloc _
  have hA2 := (((Fr.refl (fun _ => False) (w.alloc (.cells (bcells s).toArray 123))).alloc (.cells (bcells (List.replicate 16 0)).toArray 123)).alloc (.cells (bcells (List.replicate 16 0)).toArray 123)).heap hA id
  have hB2 := ((Fr.refl (fun _ => False) ((w.alloc (.cells (bcells s).toArray 123)).alloc (.cells (bcells (List.replicate 16 0)).toArray 123))).alloc (.cells (bcells (List.replicate 16 0)).toArray 123)).heap hB id
  simp only [World.size_alloc] at hA2 hB2 hD
  generalize ((w.alloc (.cells (bcells s).toArray 123)).alloc (.cells (bcells (List.replicate 16 0)).toArray 123)).alloc (.cells (bcells (List.replicate 16 0)).toArray 123) = w1 at hA2 hB2 hD hf ⊢
  rw [← hP] at hA2 hB2 hD ⊢
  have HA := Lib.hid hA2
  have HB := Lib.hid hB2
  have HD := Lib.hid hD
  have HF := Lib.hid hf
  have HP := Lib.hid hP
  have hne : C ≠ P := by have := hC.lt; omega
  clear hA hB hA2 hB2 hD hf hP hC hz
  go_loopw [7] (fun v wr => ∃ i : Nat, i ≤ 16 ∧ v = .int .i64 i ∧ Blk wr P s ∧ Blk wr (P + 1) (List.replicate 16 0) ∧ Blk wr (P + 1 + 1) (upd (shiftF s) (List.replicate 16 0) i) ∧ Fr (fun _ => False) w wr) (fun v _ => 16 - (intOf v).toNat)
  case atStart => exact ⟨0, Nat.zero_le _, rfl, HA.out, HB.out, by rw [upd_zero]; exact HD.out, HF.out⟩
  case round =>
    obtain ⟨i, hi, rfl, hA, hB, hD, hf⟩ := hrel
    have HA' := Lib.hid hA
    have HB' := Lib.hid hB
    have HD' := Lib.hid hD
    have HF' := Lib.hid hf
    clear hA hB hD hf HA HB HD HF
    by_cases hlt : i < 16
    · have hj : (i + 4 * (i % 4)) % 16 < s.length := by omega
      have c1 : wr.cell? ⟨P, (((i : Int) + 4 * ((i : Int) % 4)) % 16).toNat, none⟩ = some (.int .u8 ((s.getD ((i + 4 * (i % 4)) % 16) 0).toNat : Int)) := by
        rw [show (((i : Int) + 4 * ((i : Int) % 4)) % 16).toNat = (i + 4 * (i % 4)) % 16 by omega]
        exact bcells_cell HA'.out _ _ (by rw [List.getD_eq_getElem?_getD, List.getElem?_eq_getElem hj]; rfl)
      have hfi : shiftF s i = box (s.getD ((i + 4 * (i % 4)) % 16) 0) := rfl
      have HD1 := Lib.hid (HD'.out.step (by simp; omega))
      have c3 : wr.cell? ⟨P + 1 + 1, i, none⟩ = some (.int .u8 ((0 : UInt8).toNat : Int)) := by
        have := HD'.out.at i (by simp; omega)
        rw [if_neg (by omega)] at this
        rw [this, List.getD_eq_getElem?_getD, List.getElem?_replicate, if_pos hlt]
        rfl
      have hz : wr.frozen? ⟨P + 1 + 1, i, none⟩ = false := frozen_of_row wr _ _ _ _ HD'.out
      rw [hfi] at HD1
      generalize s.getD ((i + 4 * (i % 4)) % 16) 0 = x at c1 HD1
      have c2 := (HC.out.fr HF'.out id).box x
      have bx := x.toNat_lt
      have bx2 : (x.toNat : Int) < 256 := by omega
      have hw2 : IntKind.i64.wrap ((i : Int) % 4) = (i : Int) % 4 := IntWalk.i64_in _ (by omega)
      have hw3 : IntKind.i64.wrap (4 * ((i : Int) % 4)) = 4 * ((i : Int) % 4) := IntWalk.i64_in _ (by omega)
      have hw4 : IntKind.i64.wrap ((i : Int) + 4 * ((i : Int) % 4)) = (i : Int) + 4 * ((i : Int) % 4) := IntWalk.i64_in _ (by omega)
      have hw5 : IntKind.i64.wrap (((i : Int) + 4 * ((i : Int) % 4)) % 16) = ((i : Int) + 4 * ((i : Int) % 4)) % 16 := IntWalk.i64_in _ (by omega)
      have ht1 : (i : Int).tmod 4 = (i : Int) % 4 := Int.tmod_eq_emod_of_nonneg (by omega)
      have ht2 : ((i : Int) + 4 * ((i : Int) % 4)).tmod 16 = ((i : Int) + 4 * ((i : Int) % 4)) % 16 := Int.tmod_eq_emod_of_nonneg (by omega)
      have hb3 : (0 : Int) ≤ ((i : Int) + 4 * ((i : Int) % 4)) % 16 := by omega
      have hb4 : ((i : Int) + 4 * ((i : Int) % 4)) % 16 < 16 := by omega
      clear hj hfi
      go_wp2
      refine wp_region_still_tail 15 (by kernel_rfl) (by kernel_rfl) ?_
      simp only [List.take_succ_cons, List.take_zero, List.drop_succ_cons, List.drop_zero]
      change wpStill _ _ wr.drew (fun a' => wpList _ _ _ _ a' wr.drew) _ _
      repeat still_step
      refine wpStill_nil ?_
      have c3' : wr.drew.cell? ⟨P + 1 + 1, i, none⟩ = some (.int .u8 ((0 : UInt8).toNat : Int)) := c3
      have hz' : wr.drew.frozen? ⟨P + 1 + 1, i, none⟩ = false := hz
      go_wp2
      go_roundw
      case rel =>
        refine ⟨i + 1, by omega, by go_num, ?_, ?_, HD1.out, HF'.out.drew.setCell _ _ (.inr (by have := HP.out; simp; omega))⟩
        · exact (heap_setCell_other _ _ _ _ (by simp; omega)).trans HA'.out
        · exact (heap_setCell_other _ _ _ _ (by simp)).trans HB'.out
      case measure => simp [intOf]; omega
    · have h16 : i = 16 := by omega
      rw [h16] at HD'
      clear h16
      have hu := upd_all (shiftF s) (List.replicate 16 0) 16 (by simp)
      rw [hu] at HD'
      have HL := Lib.hid (show (full (shiftF s) 16).length = 16 from full_length _ _)
      have HDh := Lib.hid (show wr.heap[P + 1 + 1]? = some (.cells (bcells (full (shiftF s) 16)).toArray 123 (0, 0)) from HD'.out)
      have HBh := Lib.hid (show wr.heap[P + 1]? = some (.cells (bcells (List.replicate 16 0)).toArray 123 (0, 0)) from HB'.out)
      go_wp2_with (first
        | (with_reducible refine wpList_load_bytes (op := ⟨some 26, _, _, _, _, _⟩) rfl 123 _ rfl (P + 1 + 1) rfl 123 (full (shiftF s) 16) _ _ HDh.out Tryz.underlying123 rfl 16 (by kernel_rfl) HL.out ?_)
        | (with_reducible refine wpList_store_bytes (op := ⟨none, .store 123 _ _, _, _, _, _⟩) rfl 123 _ _ rfl (P + 1) rfl 123 _ (full (shiftF s) 16) rfl HBh.out 16 (by kernel_rfl) (by simp) HL.out ?_))
      refine bodyPost_ret (results_cell_row rfl _ _ (P + 1) 123 (bcells (full (shiftF s) 16)).toArray (0, 0) _ rfl (setRow_heap HBh.out) Tryz.underlying123 rfl (by rw [show (bcells (full (shiftF s) 16)).toArray.size = 16 by simp [bcells_length, full_length]]; kernel_rfl)) rfl ?_
      exact ⟨rfl, HF'.out.setRow _ _ (.inr (by have := HP.out; omega))⟩
end Go.Proofs.YtcchhfkmhbjdmaaGreat
/-! Kg -/
set_option linter.unusedVariables false
set_option linter.unusedSimpArgs false
set_option pp.deepTerms true
set_option pp.maxSteps 100000
namespace Go.Proofs.YtcchhfkmhbjdmaaGreat
open Go.RowKit
set_option maxRecDepth 20000 in
set_option maxHeartbeats 4000000 in
theorem mix_calls (S : Nat) (s : List UInt8) (hs : s.length = 16) (w : World) (hS : Blk w S s) :
    Calls Tryz.prog 77 #[.pointer (some ⟨S, 0, none⟩)] w fun e w' => e = .returned (.tuple #[]) ∧ Blk w' S (mixL s) ∧ Fr (fun i => i = S) w w' := by
  have HS := Lib.hid hS
  clear hS
  go_enter Tryz.func77, Tryz.ntmps77
  go_wp2
  go_loopw [2] (fun v wr => ∃ c : Nat, c ≤ 4 ∧ v = .int .i64 ((4 * c : Nat) : Int) ∧ Blk wr S (upd (mixF s) s (4 * c)) ∧ Fr (fun i => i = S) w wr) (fun v _ => 16 - (intOf v).toNat)
  case atStart => exact ⟨0, Nat.zero_le _, rfl, by rw [upd_zero]; exact HS.out, Fr.refl _ _⟩
  case round =>
    obtain ⟨c, hc, rfl, hB, hf⟩ := hrel
    have HB := Lib.hid hB
    have HF := Lib.hid hf
    clear hB hf
    by_cases hlt : c < 4
    · obtain ⟨i, hi⟩ : ∃ i, i = 4 * c := ⟨_, rfl⟩
      rw [← hi] at HB ⊢
      have hi16 : i + 4 ≤ 16 := by omega
      have hj1 : (i : Int) + 4 ≤ 16 := by omega
      have hj3 : decide ((i : Int) < 16) = true := decide_eq_true (by omega)
      have hj2 : (i : Int) ≤ (i : Int) + 4 := by omega
      have hsl : (Instr.sliceAt 123 (.pointer (some ⟨S, 0, none⟩)) (some (.int .i64 i)) (some (.int .i64 ((i : Int) + 4))) none).run Tryz.prog wr = .ok (.slice (some ⟨S, i, none⟩) 4 (16 - i)) wr := by
        have hl : Tryz.prog.arrayLen 123 = 16 := by kernel_rfl
        have he : Tryz.prog.elem 123 = 5 := by kernel_rfl
        have hu : Tryz.prog.underlying 123 = some (.array (Tryz.prog.arrayLen 123) (Tryz.prog.elem 123)) := by rw [hl, he]; exact Tryz.underlying123
        rw [run_sliceAt_array_lh wr 123 ⟨S, 0, none⟩ hu .i64 .i64 i (i + 4) (by omega) (by omega) (by rw [hl]; omega), he, hl]
        have hs1 : (sizeOf 5).run Tryz.prog wr = .ok 1 wr := by kernel_rfl
        rw [hs1]
        show Result.ok (slicedAt ⟨S, 0, none⟩ (i : Int).toNat ((i : Int) + 4).toNat 16 1) wr = _
        unfold slicedAt
        rw [if_neg (by omega), Addr.add_mid]
        congr 1
        congr 1
        · congr 2; omega
        · omega
      have hsa : (Instr.arrayAt 117 (.slice (some ⟨S, i, none⟩) 4 (16 - i))).run Tryz.prog wr = .ok (.pointer (some ⟨S, i, none⟩)) wr := by
        simp [Instr.arrayAt, run_underlying Tryz.underlying117]
      have hget : ∀ j, j < 4 → (upd (mixF s) s i)[i + j]? = some (s.getD (i + j) 0) := fun j hj => by rw [upd_get _ _ _ _ (by omega), if_neg (by omega)]
      obtain ⟨a0, h0⟩ : ∃ a, a = s.getD i 0 := ⟨_, rfl⟩
      obtain ⟨a1, h1⟩ : ∃ a, a = s.getD (i + 1) 0 := ⟨_, rfl⟩
      obtain ⟨a2, h2⟩ : ∃ a, a = s.getD (i + 2) 0 := ⟨_, rfl⟩
      obtain ⟨a3, h3⟩ : ∃ a, a = s.getD (i + 3) 0 := ⟨_, rfl⟩
      have c0 : wr.cell? ⟨S, i, none⟩ = some (.int .u8 (a0.toNat : Int)) := bcells_cell HB.out i a0 (by rw [h0]; exact hget 0 (by omega))
      have c1 : wr.cell? ⟨S, i + 1, none⟩ = some (.int .u8 (a1.toNat : Int)) := bcells_cell HB.out (i + 1) a1 (by rw [h1]; exact hget 1 (by omega))
      have c2 : wr.cell? ⟨S, i + 2, none⟩ = some (.int .u8 (a2.toNat : Int)) := bcells_cell HB.out (i + 2) a2 (by rw [h2]; exact hget 2 (by omega))
      have c3 : wr.cell? ⟨S, i + 3, none⟩ = some (.int .u8 (a3.toNat : Int)) := bcells_cell HB.out (i + 3) a3 (by rw [h3]; exact hget 3 (by omega))
      have H0 := Lib.hid h0
      have H1 := Lib.hid h1
      have H2 := Lib.hid h2
      have H3 := Lib.hid h3
      have HI := Lib.hid (show i = 4 * c ∧ c < 4 from ⟨hi, hlt⟩)
      clear h0 h1 h2 h3 hget hi hlt hc
      have x1 := xor_u8 a0 a1
      obtain ⟨y1, hy1⟩ : ∃ y, y = a0 ^^^ a1 := ⟨_, rfl⟩
      have x2 := xor_u8 y1 a2
      obtain ⟨y2, hy2⟩ : ∃ y, y = y1 ^^^ a2 := ⟨_, rfl⟩
      have x3 := xor_u8 y2 a3
      obtain ⟨al, hal⟩ : ∃ y, y = y2 ^^^ a3 := ⟨_, rfl⟩
      rw [← hy1] at x1
      rw [← hy2] at x2
      rw [← hal] at x3
      have HAL := Lib.hid (show al = a0 ^^^ a1 ^^^ a2 ^^^ a3 by rw [hal, hy2, hy1])
      clear hy1 hy2 hal
      go_wp2
      have hN := heap_alloc_new wr (.cells #[.int .u8 (a0.toNat : Int), .int .u8 (a1.toNat : Int), .int .u8 (a2.toNat : Int), .int .u8 (a3.toNat : Int)] 117)
      have hfN : Fr (fun _ => False) wr (wr.alloc (.cells #[.int .u8 (a0.toNat : Int), .int .u8 (a1.toNat : Int), .int .u8 (a2.toNat : Int), .int .u8 (a3.toNat : Int)] 117)) := (Fr.refl _ _).alloc _
      have HA := Lib.hid (show (wr.alloc (.cells #[.int .u8 (a0.toNat : Int), .int .u8 (a1.toNat : Int), .int .u8 (a2.toNat : Int), .int .u8 (a3.toNat : Int)] 117)).heap[wr.heap.size]? = some (.cells (bcells [a0, a1, a2, a3]).toArray 117 (0, 0)) from hN)
      have HB1 := Lib.hid (show Blk _ S (upd (mixF s) s i) from hfN.heap HB.out id)
      have HF1 := Lib.hid (HF.out.alloc (.cells #[.int .u8 (a0.toNat : Int), .int .u8 (a1.toNat : Int), .int .u8 (a2.toNat : Int), .int .u8 (a3.toNat : Int)] 117))
      have hAS : S < wr.heap.size := lt_of_heap HB.out
      have hAw : w.heap.size ≤ wr.heap.size := HF.out.size
      generalize wr.alloc (.cells #[.int .u8 (a0.toNat : Int), .int .u8 (a1.toNat : Int), .int .u8 (a2.toNat : Int), .int .u8 (a3.toNat : Int)] 117) = w1 at HA HB1 HF1 ⊢
      obtain ⟨A, hA⟩ : ∃ A, A = wr.heap.size := ⟨_, rfl⟩
      rw [← hA] at HA hAS hAw ⊢
      clear hA hN hfN HB HF c0 c1 c2 c3 x1 x2 x3 hsl hsa
      go_loopw [29] (fun v wr => ∃ k : Nat, k ≤ 4 ∧ v = .int .i64 k ∧ Blk wr S (upd (mixF s) s (i + k)) ∧ wr.heap[A]? = some (.cells (bcells [a0, a1, a2, a3]).toArray 117 (0, 0)) ∧ Fr (fun i => i = S) w wr) (fun v _ => 4 - (intOf v).toNat)
      case atStart => exact ⟨0, Nat.zero_le _, rfl, HB1.out, HA.out, HF1.out⟩
      case round =>
        obtain ⟨k, hk, rfl, hB, hA, hf⟩ := hrel
        have HB := Lib.hid hB
        have HA' := Lib.hid hA
        have HF := Lib.hid hf
        clear hB hA hf HB1 HA HF1
        by_cases hlt : k < 4
        · have hik : i + k < 16 := by omega
          obtain ⟨x, hx⟩ : ∃ x, x = s.getD (i + k) 0 := ⟨_, rfl⟩
          obtain ⟨y, hy⟩ : ∃ y, y = s.getD (i + (k + 1) % 4) 0 := ⟨_, rfl⟩
          have hcol : ∀ j, j < 4 → [a0, a1, a2, a3][j]? = some (s.getD (i + j) 0) := fun j hj => by
            have : j = 0 ∨ j = 1 ∨ j = 2 ∨ j = 3 := by omega
            rcases this with rfl | rfl | rfl | rfl
            · rw [Nat.add_zero, ← H0.out]; rfl
            · rw [← H1.out]; rfl
            · rw [← H2.out]; rfl
            · rw [← H3.out]; rfl
          have d1 : wr.cell? ⟨S, i + k, none⟩ = some (.int .u8 (x.toNat : Int)) := by
            rw [hx]
            have := HB.out.at (i + k) (by omega)
            rwa [if_neg (by omega)] at this
          have d2 : wr.cell? ⟨A, k, none⟩ = some (.int .u8 (x.toNat : Int)) := bcells_cell HA'.out k x (by rw [hx]; exact hcol k hlt)
          have d3 : wr.cell? ⟨A, (((k : Int) + 1) % 4).toNat, none⟩ = some (.int .u8 (y.toNat : Int)) := by
            rw [show (((k : Int) + 1) % 4).toNat = (k + 1) % 4 by omega]
            exact bcells_cell HA'.out _ y (by rw [hy]; exact hcol _ (by omega))
          have hz : wr.frozen? ⟨S, i + k, none⟩ = false := frozen_of_row wr _ _ _ _ HB.out
          obtain ⟨z, hzd⟩ : ∃ z, z = x ^^^ (al ^^^ tw (x ^^^ y)) := ⟨_, rfl⟩
          have hm : mixF s (i + k) = z := by
            obtain ⟨hi, hc⟩ := HI.out
            unfold mixF mixC
            rw [show (i + k) / 4 = c by omega, show (i + k) % 4 = k by omega, ← hi, ← H0.out, ← H1.out, ← H2.out, ← H3.out, ← hx, ← hy, hzd, HAL.out]
          have HB1 := Lib.hid (HB.out.step (by omega))
          rw [hm] at HB1
          have e1 := xor_u8 x y
          obtain ⟨p1, hp1⟩ : ∃ y1, y1 = x ^^^ y := ⟨_, rfl⟩
          have e2 := xor_u8 al (tw p1)
          obtain ⟨p2, hp2⟩ : ∃ y1, y1 = al ^^^ tw p1 := ⟨_, rfl⟩
          have e3 := xor_u8 x p2
          rw [← hp1] at hzd e1
          rw [← hp2] at hzd e2
          rw [← hzd] at e3
          clear hp1 hp2 hzd hm hcol hx hy
          have hw1 : IntKind.i64.wrap ((i : Int) + (k : Int)) = (i : Int) + (k : Int) := IntWalk.i64_in _ (by omega)
          have hw2 : IntKind.i64.wrap ((k : Int) + 1) = (k : Int) + 1 := IntWalk.i64_in _ (by omega)
          have hw3 : IntKind.i64.wrap (((k : Int) + 1) % 4) = ((k : Int) + 1) % 4 := IntWalk.i64_in _ (by omega)
          have ht1 : ((k : Int) + 1).tmod 4 = ((k : Int) + 1) % 4 := Int.tmod_eq_emod_of_nonneg (by omega)
          have hb1 : (0 : Int) ≤ (i : Int) + (k : Int) := by omega
          have hb2 : (i : Int) + (k : Int) < 16 := by omega
          have hb3 : (0 : Int) ≤ ((k : Int) + 1) % 4 := by omega
          have hb4 : ((k : Int) + 1) % 4 < 4 := by omega
          have hb5 : ((i : Int) + (k : Int)).toNat = i + k := by omega
          have b1 := x.toNat_lt
          have b2 := y.toNat_lt
          have b3 := z.toNat_lt
          have b4 := al.toNat_lt
          have b5 := p1.toNat_lt
          have b6 := p2.toNat_lt
          go_wp2
          refine wp_region_still_tail 22 (by kernel_rfl) (by kernel_rfl) ?_
          simp only [List.take_succ_cons, List.take_zero, List.drop_succ_cons, List.drop_zero]
          change wpStill _ _ wr.drew (fun a' => wpList _ _ _ _ a' wr.drew) _ _
          repeat still_step
          still_call ((twice_calls p1 wr.drew).mono (fun e w' h => ⟨h.1, h.2.symm⟩))
          repeat still_step
          refine wpStill_nil ?_
          have d1' : wr.drew.cell? ⟨S, i + k, none⟩ = some (.int .u8 (x.toNat : Int)) := d1
          have hz' : wr.drew.frozen? ⟨S, i + k, none⟩ = false := hz
          go_wp2
          go_roundw
          case rel =>
            refine ⟨k + 1, by omega, by go_num, HB1.out, ?_, HF.out.drew.setCell _ _ (.inl rfl)⟩
            exact (heap_setCell_other _ _ _ _ (by simp; omega)).trans HA'.out
          case measure => simp [intOf]; omega
        · have hk4 : k = 4 := by omega
          rw [hk4] at HB
          clear hk4
          go_wp2
          go_roundw
          case rel => exact ⟨c + 1, by have := HI.out; omega, by have := HI.out.1; subst this; go_num, by rw [show 4 * (c + 1) = i + 4 by have := HI.out.1; omega]; exact HB.out, HF.out⟩
          case measure => simp [intOf]; omega
    · have hc4 : c = 4 := by omega
      rw [hc4] at HB
      clear hc4
      go_wp2
      go_end0
      refine ⟨rfl, ?_, HF.out⟩
      have := HB.out
      rwa [upd_all _ _ _ hs] at this
end Go.Proofs.YtcchhfkmhbjdmaaGreat
/-! Kh -/
set_option linter.unusedVariables false
set_option linter.unusedSimpArgs false
set_option pp.deepTerms true
set_option pp.maxSteps 100000
namespace Go.Proofs.YtcchhfkmhbjdmaaGreat
open Go.RowKit
theorem str_drop (l : List UInt8) (n : Nat) : (str l).extract n (str l).size = str (l.drop n) := by
  apply ByteArray.ext
  simp [str, ByteArray.size]
  exact List.take_of_length_le (by simp)
theorem run_copy_row_prefix {P : Program} (w : World) (dT sT ty elem : TypeId) (g o dLen dCap : Nat) (l : List UInt8) (cur : Array Value) (t : TypeId)
    (hu : P.underlying dT = some (.slice elem)) (hs : (P.info? elem).map (·.size) = some 1) (hg : w.heap[g]? = some (.cells cur t (0, 0))) (hle : dLen ≤ l.length) (hfit : o + dLen ≤ cur.size) :
    (Builtin.copy_ #[dT, sT] ty #[.slice (some ⟨g, o, none⟩) dLen dCap, .string (str l)]).run P w =
      .ok (goInt dLen) (w.setRow g (cur.toList.take o ++ bcells (l.take dLen) ++ cur.toList.drop (o + dLen)).toArray) := by
  have hlen : (bcells (l.take dLen)).length = dLen := by rw [bcells_length]; simp; omega
  have hst := run_storeCells_at P g o t (bcells (l.take dLen)) 0 cur w hg (by rw [hlen]; simpa using hfit) (bcells_one _)
  have hsz : (str l).size = l.length := str_size l
  have hmin : Nat.min (str l).size dLen = dLen := Nat.min_eq_right (by omega)
  have htk : List.take dLen (List.map (fun b : UInt8 => Value.int IntKind.u8 (b.toNat : Int)) l) = bcells (l.take dLen) := by simp [bcells]
  rw [hlen] at hst
  simp only [Nat.add_zero] at hst
  cases hq : P.info? elem with
  | none => simp [hq] at hs
  | some i =>
    simp [Builtin.copy_, run_underlying hu, Builtin.lenOf, Builtin.firstCells, sizeOf, typeInfo, hq, hmin]
    rw [show (str l).data.toList = l from str_list l, htk, hst]
    simp [Result.andThen]
section
variable {P : Program} {ops : Array Oper} {rest : List Oper} {op : Oper} {a : Act} {w : World} {Q : Exit → Act → World → Prop}
theorem wpList_copy_prefix (hgd : op.guard = none) (d s : Operand) (dT sT : TypeId)
    (ho : op.op = .call { callee := .builtin .copy, args := #[d, s], argTypes := #[dT, sT] }) (elem : TypeId) (hu : P.underlying dT = some (.slice elem)) (hsz : (P.info? elem).map (·.size) = some 1)
    (g o dLen dCap : Nat) (l : List UInt8) (cur : Array Value) (t : TypeId) (hd : a.eval d = .slice (some ⟨g, o, none⟩) dLen dCap) (hs : a.eval s = .string (str l))
    (hg : w.heap[g]? = some (.cells cur t (0, 0))) (hle : dLen ≤ l.length) (hfit : o + dLen ≤ cur.size)
    (h : wpList P ops Q rest (a.put op.dst (goInt dLen)) (w.setRow g (cur.toList.take o ++ bcells (l.take dLen) ++ cur.toList.drop (o + dLen)).toArray)) : wpList P ops Q (op :: rest) a w := by
  refine wpList_plain hgd fun K hK => ?_
  have hrun := run_copy_row_prefix (P := P) w dT sT op.type elem g o dLen dCap l cur t hu hsz hg hle hfit
  unfold Oper.wp
  simp [execOp, ho, resolve, invoke, builtin, hd, hs, hrun, Result.andThen]
  exact hK _ _ (by simpa using h)
end
set_option maxRecDepth 20000 in
set_option maxHeartbeats 4000000 in
theorem sub_calls (C V : Nat) (W : List UInt8) (x0 x1 x2 x3 : UInt8) (w : World) (hC : Cip w C W) (hV : w.cell? ⟨V, 0, none⟩ = some (.pointer (some ⟨C, 0, none⟩))) :
    Calls Tryz.prog 73 #[.agg #[.int .u8 (x0.toNat : Int), .int .u8 (x1.toNat : Int), .int .u8 (x2.toNat : Int), .int .u8 (x3.toNat : Int)], .pointer (some ⟨V, 0, none⟩)] w fun e w' =>
      e = .returned (.agg (bcells [box x0, box x1, box x2, box x3]).toArray) ∧ Fr (fun _ => False) w w' := by
  have HC := Lib.hid hC
  have HV := Lib.hid hV
  clear hV
  go_enter Tryz.func73, Tryz.ntmps73
  go_wp2
  obtain ⟨P, hP⟩ : ∃ P, P = w.heap.size := ⟨_, rfl⟩
  have hz : (#[.int .u8 0, .int .u8 0, .int .u8 0, .int .u8 0] : Array Value) = (bcells [0, 0, 0, 0]).toArray := rfl
  have hy : (#[.int .u8 (x0.toNat : Int), .int .u8 (x1.toNat : Int), .int .u8 (x2.toNat : Int), .int .u8 (x3.toNat : Int)] : Array Value) = (bcells [x0, x1, x2, x3]).toArray := rfl
  have HY := Lib.hid hy
  clear hy
  generalize hA : (#[.int .u8 (x0.toNat : Int), .int .u8 (x1.toNat : Int), .int .u8 (x2.toNat : Int), .int .u8 (x3.toNat : Int)] : Array Value) = YA at HY ⊢
  rw [hz]
  have hf : Fr (fun _ => False) w ((w.alloc (.cells YA 117)).alloc (.cells (bcells [0, 0, 0, 0]).toArray 117)) := ((Fr.refl _ _).alloc _).alloc _
  have hB := heap_alloc_new (w.alloc (.cells YA 117)) (.cells (bcells [0, 0, 0, 0]).toArray 117)
  have hA2 := ((Fr.refl (fun _ => False) (w.alloc (.cells YA 117))).alloc (.cells (bcells [0, 0, 0, 0]).toArray 117)).heap (heap_alloc_new w (.cells YA 117)) id
  simp only [World.size_alloc] at hB
  rw [← hP] at hA2 hB ⊢
  generalize (w.alloc (.cells YA 117)).alloc (.cells (bcells [0, 0, 0, 0]).toArray 117) = w1 at hA2 hB hf ⊢
  rw [HY.out] at hA2
  have HB := Lib.hid hB
  have HF := Lib.hid hf
  have HP := Lib.hid hP
  have c0 : w1.drew.cell? ⟨P, 0, none⟩ = some (.int .u8 (x0.toNat : Int)) := bcells_cell hA2 0 x0 rfl
  have c1 : w1.drew.cell? ⟨P, 1, none⟩ = some (.int .u8 (x1.toNat : Int)) := bcells_cell hA2 1 x1 rfl
  have c2 : w1.drew.cell? ⟨P, 2, none⟩ = some (.int .u8 (x2.toNat : Int)) := bcells_cell hA2 2 x2 rfl
  have c3 : w1.drew.cell? ⟨P, 3, none⟩ = some (.int .u8 (x3.toNat : Int)) := bcells_cell hA2 3 x3 rfl
  have cv : w1.drew.cell? ⟨V, 0, none⟩ = some (.pointer (some ⟨C, 0, none⟩)) := hf.drew.cell HV.out id
  have d0 := (HC.out.fr hf.drew id).box x0
  have d1 := (HC.out.fr hf.drew id).box x1
  have d2 := (HC.out.fr hf.drew id).box x2
  have d3 := (HC.out.fr hf.drew id).box x3
  have b0 := x0.toNat_lt
  have b1 := x1.toNat_lt
  have b2 := x2.toNat_lt
  have b3 := x3.toNat_lt
  have g0 : (x0.toNat : Int) < 256 := by omega
  have g1 : (x1.toNat : Int) < 256 := by omega
  have g2 : (x2.toNat : Int) < 256 := by omega
  have g3 : (x3.toNat : Int) < 256 := by omega
  clear hz hA hA2 hB hf hP HY
  refine wp_region_still_tail 29 (by kernel_rfl) (by kernel_rfl) ?_
  simp only [List.take_succ_cons, List.take_zero, List.drop_succ_cons, List.drop_zero]
  change wpStill _ _ w1.drew (fun a' => wpList _ _ _ _ a' w1.drew) _ _
  repeat still_step
  refine wpStill_nil ?_
  refine wpList_store_bytes (op := ⟨none, .store 117 _ _, _, _, _, _⟩) rfl 117 _ _ rfl (P + 1) rfl 117 [0, 0, 0, 0] [box x0, box x1, box x2, box x3] rfl HB.out 4 (by kernel_rfl) rfl rfl ?_
  go_wp2
  refine bodyPost_ret (results_cell_row rfl _ _ (P + 1) 117 (bcells [box x0, box x1, box x2, box x3]).toArray (0, 0) _ rfl (setRow_heap HB.out) Tryz.underlying117 rfl (by kernel_rfl)) rfl ?_
  exact ⟨rfl, HF.out.drew.setRow _ _ (.inr (by have := HP.out; omega))⟩
end Go.Proofs.YtcchhfkmhbjdmaaGreat
/-! Ki -/
set_option linter.unusedVariables false
set_option linter.unusedSimpArgs false
set_option pp.deepTerms true
set_option pp.maxSteps 100000
namespace Go.Proofs.YtcchhfkmhbjdmaaGreat
open Go.RowKit
theorem getD_app {A B : List UInt8} {k : Nat} (h : k < A.length) : (A ++ B).getD k 0 = A.getD k 0 := by simp only [List.getD_eq_getElem?_getD, List.getElem?_append_left h]
theorem full_succ (f : Nat → UInt8) (k : Nat) : full f (k + 1) = full f k ++ [f k] := by simp [full, List.range_succ]
/-- The words as they come to be. -/
def stW (X : List UInt8) (f : Nat → UInt8) (k : Nat) : List UInt8 := X ++ full f k ++ List.replicate (240 - X.length - k) 0
theorem stW_length (X : List UInt8) (f : Nat → UInt8) (k : Nat) (h : X.length + k ≤ 240) : (stW X f k).length = 240 := by simp [stW, full_length]; omega
theorem stW_set (X : List UInt8) (f : Nat → UInt8) (k : Nat) (h : X.length + k < 240) : (stW X f k).set (X.length + k) (f k) = stW X f (k + 1) := by
  obtain ⟨n, hn⟩ : ∃ n, 240 - X.length - k = n + 1 := ⟨240 - X.length - k - 1, by omega⟩
  unfold stW
  rw [hn, show 240 - X.length - (k + 1) = n by omega, full_succ, List.replicate_succ]
  rw [List.set_append_right _ _ (by simp [full_length])]
  simp [full_length]
theorem stW_zero (X : List UInt8) (f : Nat → UInt8) : stW X f 0 = X ++ List.replicate (240 - X.length) 0 := by simp [stW, full]
theorem stW_four (X : List UInt8) (f : Nat → UInt8) : stW X f 4 = (X ++ full f 4) ++ List.replicate (240 - (X ++ full f 4).length) 0 := by
  simp [stW, full_length, Nat.sub_sub]
def wk (key : List UInt8) (i : Nat) : List UInt8 := if i ≤ 8 then key.take (4 * i) else words key (i - 8)
theorem wk_length (key : List UInt8) (h : key.length = 32) (i : Nat) (hi : i ≤ 60) : (wk key i).length = 4 * i := by
  unfold wk
  split
  · simp; omega
  · rw [words_length key h]; omega
def wz (key : List UInt8) (i : Nat) : List UInt8 := wk key i ++ List.replicate (240 - 4 * i) 0
theorem wz_length (key : List UInt8) (h : key.length = 32) (i : Nat) (hi : i ≤ 60) : (wz key i).length = 240 := by simp [wz, wk_length key h i hi]; omega
theorem wz_copy (key : List UInt8) (h : key.length = 32) (i : Nat) (hi : i < 8) :
    ((bcells (boxT ++ wz key i)).toArray.toList.take (256 + i * 4) ++ bcells ((key.drop (4 * i)).take 4) ++ (bcells (boxT ++ wz key i)).toArray.toList.drop (256 + i * 4 + 4)).toArray = (bcells (boxT ++ wz key (i + 1))).toArray := by
  have e1 : wk key i = key.take (4 * i) := by unfold wk; rw [if_pos (by omega)]
  have e2 : wk key (i + 1) = key.take (4 * i) ++ (key.drop (4 * i)).take 4 := by unfold wk; rw [if_pos (by omega), show 4 * (i + 1) = 4 * i + 4 by omega, List.take_add]
  have hl : (boxT ++ key.take (4 * i)).length = 256 + i * 4 := by simp [boxT_length]; omega
  congr 1
  simp only [← bcells_take, ← bcells_drop, ← bcells_append, wz, e1, e2]
  congr 1
  rw [← List.append_assoc boxT, List.take_append_of_le_length (by rw [hl]; exact Nat.le_refl _), List.take_of_length_le (by rw [hl]; exact Nat.le_refl _), List.drop_append, List.drop_of_length_le (show (boxT ++ key.take (4 * i)).length ≤ 256 + i * 4 + 4 by rw [hl]; omega), hl, show 256 + i * 4 + 4 - (256 + i * 4) = 4 by omega, List.drop_replicate]
  rw [show 240 - 4 * i - 4 = 240 - 4 * (i + 1) by omega]
  simp only [List.append_assoc, List.nil_append]
theorem wz_stW (key : List UInt8) (h : key.length = 32) (i : Nat) (hi : i ≤ 60) (f : Nat → UInt8) : stW (wk key i) f 0 = wz key i := by
  rw [stW_zero, wk_length key h i hi]; rfl
theorem wk_next (key : List UInt8) (i : Nat) (hi : 8 ≤ i) (hk : key.length = 32) : wk key (i + 1) = wk key i ++ full (wordF (wk key i) i) 4 := by
  have e2 : wk key (i + 1) = words key (i + 1 - 8) := by unfold wk; rw [if_neg (by omega)]
  have e1 : wk key i = words key (i - 8) := by
    unfold wk
    split
    · have : i = 8 := by omega
      subst this
      show key.take 32 = key
      exact List.take_of_length_le (by omega)
    · rfl
  rw [e1, e2, show i + 1 - 8 = (i - 8) + 1 by omega, words, show i - 8 + 8 = i by omega]
theorem wz_next (key : List UInt8) (h : key.length = 32) (i : Nat) (hi : 8 ≤ i) (hi2 : i < 60) : stW (wk key i) (wordF (wk key i) i) 4 = wz key (i + 1) := by
  rw [stW_four, ← wk_next key i hi h, wk_length key h (i + 1) (by omega)]; rfl
theorem wz_all (key : List UInt8) : wz key 60 = words key 52 := by simp [wz, wk]
def pw (i : Nat) : UInt8 := powN ((i - 1) / 8)
theorem pw_same (i : Nat) (h : i % 8 ≠ 0) : pw (i + 1) = pw i := by unfold pw; congr 1; omega
theorem pw_next (i : Nat) (h : i % 8 = 0) (h8 : 8 ≤ i) : pw (i + 1) = tw (pw i) := by
  unfold pw
  rw [show (i + 1 - 1) / 8 = (i - 1) / 8 + 1 by omega]; rfl
theorem pw_low (i : Nat) (h : i ≤ 8) : pw i = 1 := by
  unfold pw
  rw [show (i - 1) / 8 = 0 by omega]; rfl
theorem cip_new : (bcells (boxT ++ List.replicate 240 0)).toArray.size = 496 := by rw [List.size_toArray, bcells_length, List.length_append, boxT_length, List.length_replicate]
set_option maxRecDepth 100000 in
theorem run_build94 (W : World) : (Instr.build 120 #[(0, .agg (bcells boxT).toArray)]).run Tryz.prog W = .ok (.agg (bcells (boxT ++ List.replicate 240 0)).toArray) W := by kernel_rfl
theorem Cip.step {w : World} {C : Nat} {X : List UInt8} {f : Nat → UInt8} {k : Nat} (h : Cip w C (stW X f k)) (hX : X.length + k < 240) :
    Cip (w.setCell ⟨C, 256 + (X.length + k), none⟩ (.int .u8 ((f k).toNat : Int))) C (stW X f (k + 1)) := by
  refine ⟨?_, stW_length _ _ _ (by omega)⟩
  have h1 := bcells_set h.1 (256 + (X.length + k)) (f k)
  have h2 : (boxT ++ stW X f k).set (256 + (X.length + k)) (f k) = boxT ++ stW X f (k + 1) := by
    rw [List.set_append_right _ _ (by rw [boxT_length]; omega), boxT_length, Nat.add_sub_cancel_left, stW_set _ _ _ hX]
  rw [h2] at h1
  exact h1
theorem setCell_keep {w : World} {B : Nat} {o : Obj} {p : Addr} {v : Value} (h : w.heap[B]? = some o) (hne : B ≠ p.block) : (w.setCell p v).heap[B]? = some o := (heap_setCell_other w p B v hne).trans h
theorem bcut (l : List UInt8) (k : Nat) (x : UInt8) (h : l[k]? = some x) : l.getD k 0 = x := by rw [List.getD_eq_getElem?_getD, h]; rfl
set_option maxRecDepth 20000 in
set_option maxHeartbeats 8000000 in
theorem new_yes (key : List UInt8) (hk : key.length = 32) (w : World) :
    Calls Tryz.prog 48 #[.string (str key)] w fun e w' => ∃ C, e = .returned (.tuple #[.pointer (some ⟨C, 0, none⟩), .int .i64 0]) ∧ Cip w' C (words key 52) ∧ w.heap.size ≤ C ∧ Fr (fun _ => False) w w' := by
  have hsz : (str key).size = 32 := by rw [str_size]; exact hk
  have HK := Lib.hid hk
  clear hk
  go_enter Tryz.func48, Tryz.ntmps48
  go_wp2_with fail
  refine (boxes_calls _).mono ?_
  rintro e w1 ⟨rfl, hf⟩
  have HF1 := Lib.hid hf
  clear hf
  have hbuild := run_build94 w1
  go_wp2_with fail
  skip
  clear hbuild
  have hfd : List.foldl (fun cs x => cs.setIfInBounds x.snd x.fst) Tryz.zeroCells120 (bcells boxT).zipIdx = (bcells (boxT ++ List.replicate 240 0)).toArray := by kernel_rfl
  rw [hfd]
  have hf : Fr (fun _ => False) w1 ((w1.alloc (.cells (bcells (boxT ++ List.replicate 240 0)).toArray 120)).alloc (.cells #[.pointer (some ⟨w1.heap.size, 0, none⟩)] 89)) := ((Fr.refl _ _).alloc _).alloc _
  have hC : ((w1.alloc (.cells (bcells (boxT ++ List.replicate 240 0)).toArray 120)).alloc (.cells #[.pointer (some ⟨w1.heap.size, 0, none⟩)] 89)).heap[w1.heap.size]? = some (.cells (bcells (boxT ++ List.replicate 240 0)).toArray 120 (0, 0)) := ((Fr.refl (fun _ => False) _).alloc _).heap (heap_alloc_new w1 _) id
  have hV := heap_alloc_new (w1.alloc (.cells (bcells (boxT ++ List.replicate 240 0)).toArray 120)) (.cells #[.pointer (some ⟨w1.heap.size, 0, none⟩)] 89)
  simp only [World.size_alloc] at hV
  have hCw : w.heap.size ≤ w1.heap.size := HF1.out.size
  have hf2 := HF1.out.trans hf (fun i hi => hi.elim)
  generalize (w1.alloc (.cells (bcells (boxT ++ List.replicate 240 0)).toArray 120)).alloc (.cells #[.pointer (some ⟨w1.heap.size, 0, none⟩)] 89) = w2 at hf hf2 hC hV ⊢
  obtain ⟨C, hCd⟩ : ∃ C, C = w1.heap.size := ⟨_, rfl⟩
  rw [← hCd] at hC hV hCw ⊢
  have HC := Lib.hid (show Cip w2 C (wz key 0) from ⟨by simpa [wz, wk] using hC, wz_length key HK.out 0 (by omega)⟩)
  have HV := Lib.hid hV
  have HF := Lib.hid hf2
  clear hf hf2 hC hV hfd hCd HF1
  generalize (bcells boxT).toArray = G1
  generalize (bcells (boxT ++ List.replicate 240 0)).toArray = G2
  go_loopw [6, 17] (fun vp vi wr => ∃ i : Nat, i ≤ 60 ∧ vi = .int .i64 i ∧ vp = .int .u8 ((pw i).toNat : Int) ∧ Cip wr C (wz key i) ∧ wr.heap[C + 1]? = some (.cells #[.pointer (some ⟨C, 0, none⟩)] 89 (0, 0)) ∧ Fr (fun _ => False) w wr) (fun _ vi _ => 60 - (intOf vi).toNat)
  case atStart => exact ⟨0, Nat.zero_le _, rfl, rfl, HC.out, HV.out, HF.out⟩
  case round =>
    obtain ⟨i, hi, rfl, rfl, hC, hV, hf⟩ := hrel
    have HC' := Lib.hid hC
    have HV' := Lib.hid hV
    have HF' := Lib.hid hf
    clear hC hV hf HC HV HF
    by_cases hlt : i < 60
    · by_cases h8 : i < 8
      · have cv : wr.cell? ⟨C + 1, 0, none⟩ = some (.pointer (some ⟨C, 0, none⟩)) := (cell_of_row wr _ 0 _ _ _ HV'.out).trans rfl
        have hs4 : 4 * (i : Int) ≤ 32 := by omega
        have hw1 : IntKind.i64.wrap (4 * (i : Int)) = 4 * (i : Int) := IntWalk.i64_in _ (by omega)
        go_wp2
        refine wp_region_still_tail 10 (by kernel_rfl) (by kernel_rfl) ?_
        simp only [List.take_succ_cons, List.take_zero, List.drop_succ_cons, List.drop_zero]
        change wpStill _ _ wr.drew (fun a' => wpList _ _ _ _ a' wr.drew) _ _
        have cv' : wr.drew.cell? ⟨C + 1, 0, none⟩ = some (.pointer (some ⟨C, 0, none⟩)) := cv
        have hsl : (Instr.sliceAt 9 (.string (str key)) (some (.int .i64 (4 * (i : Int)))) none none).run Tryz.prog wr.drew = .ok (.string (str (key.drop (4 * i)))) wr.drew := by
          rw [run_sliceAt_string _ _ _ _ _ _ Tryz.underlying9, run_slice_string_l _ _ _ Tryz.underlying9 _ _ (by omega) (by rw [hsz]; omega), show (4 * (i : Int)).toNat = 4 * i by omega, str_drop]
        have hsl2 : (Instr.slice 9 (.string (str key)) (some (.int .i64 (4 * (i : Int)))) none none).run Tryz.prog wr.drew = .ok (.string (str (key.drop (4 * i)))) wr.drew := by
          rw [run_slice_string_l _ _ _ Tryz.underlying9 _ _ (by omega) (by rw [hsz]; omega), show (4 * (i : Int)).toNat = 4 * i by omega, str_drop]
        repeat still_step
        refine wpStill_nil ?_
        have hcs := wz_copy key HK.out i h8
        refine wpList_copy_prefix (op := ⟨some 32, _, _, _, _, _⟩) rfl (.tmp 27) (.tmp 31) 53 9 rfl 5 Tryz.underlying53 (by kernel_rfl) C (256 + i * 4) 4 4 (key.drop (4 * i)) (bcells (boxT ++ wz key i)).toArray 120 rfl rfl HC'.out.1 (by have := HK.out; simp; omega) (by rw [show (bcells (boxT ++ wz key i)).toArray.size = 496 by rw [List.size_toArray, bcells_length, List.length_append, boxT_length, wz_length key HK.out i hi]]; omega) ?_
        rw [hcs]
        have HC2 := Lib.hid (show Cip (wr.drew.setRow C (bcells (boxT ++ wz key (i + 1))).toArray) C (wz key (i + 1)) from ⟨setRow_heap (w := wr.drew) HC'.out.1, wz_length key HK.out (i + 1) (by omega)⟩)
        have HV2 := Lib.hid (show (wr.drew.setRow C (bcells (boxT ++ wz key (i + 1))).toArray).heap[C + 1]? = some (.cells #[.pointer (some ⟨C, 0, none⟩)] 89 (0, 0)) from (setRow_other wr.drew C (C + 1) _ (by omega)).trans HV'.out)
        have HF2 := Lib.hid (HF'.out.drew.setRow C (bcells (boxT ++ wz key (i + 1))).toArray (.inr hCw))
        have hpw : pw (i + 1) = pw i := by rw [pw_low _ (by omega), pw_low _ (by omega)]
        generalize wr.drew.setRow C (bcells (boxT ++ wz key (i + 1))).toArray = w3 at HC2 HV2 HF2 ⊢
        go_wp2
        go_roundw
        case rel => exact ⟨i + 1, by omega, by go_num, by rw [hpw], HC2.out, HV2.out, HF2.out⟩
        case measure => simp [intOf]; omega
      · -- GE8
        obtain ⟨m, hm⟩ : ∃ m, i = m + 1 := ⟨i - 1, by omega⟩
        obtain ⟨n8, hn8⟩ : ∃ n, i = n + 8 := ⟨i - 8, by omega⟩
        obtain ⟨r, hr⟩ : ∃ r, r = i % 8 := ⟨_, rfl⟩
        obtain ⟨X, hX⟩ : ∃ X, X = wk key i := ⟨_, rfl⟩
        have hXl : X.length = 4 * i := by rw [hX]; exact wk_length key HK.out i hi
        have hXz : ∀ k, k < 4 * i → (wz key i).getD k 0 = X.getD k 0 := fun k hk => by
          unfold wz
          rw [← hX, getD_app (by omega)]
        have HXl := Lib.hid hXl
        have HXz := Lib.hid hXz
        have HX := Lib.hid hX
        have hw1 : IntKind.i64.wrap ((i : Int) - 1) = (m : Int) := by rw [IntWalk.i64_in _ (by omega)]; omega
        have hw2 : IntKind.i64.wrap ((i : Int) - 8) = (n8 : Int) := by rw [IntWalk.i64_in _ (by omega)]; omega
        have hw3 : (i : Int).tmod 8 = (r : Int) := by rw [Int.tmod_eq_emod_of_nonneg (by omega)]; omega
        have hw4 : IntKind.i64.wrap (r : Int) = (r : Int) := IntWalk.i64_in _ (by omega)
        have hm60 : (m : Int) < 60 := by omega
        have hd1 : decide ((i : Int) < 60) = true := decide_eq_true (by omega)
        have hd2 : decide ((i : Int) < 8) = false := decide_eq_false (by omega)
        have hn60 : (n8 : Int) < 60 := by omega
        have hwk : ∀ j, j < 4 → wr.cell? ⟨C, 256 + (m * 4 + j), none⟩ = some (.int .u8 ((X.getD (4 * i - 4 + j) 0).toNat : Int)) := fun j hj => by
          rw [HC'.out.word _ (by omega), hXz _ (by omega), show 4 * i - 4 + j = m * 4 + j by omega]
        obtain ⟨x0, h0⟩ : ∃ x, x = X.getD (4 * i - 4) 0 := ⟨_, rfl⟩
        obtain ⟨x1, h1⟩ : ∃ x, x = X.getD (4 * i - 4 + 1) 0 := ⟨_, rfl⟩
        obtain ⟨x2, h2⟩ : ∃ x, x = X.getD (4 * i - 4 + 2) 0 := ⟨_, rfl⟩
        obtain ⟨x3, h3⟩ : ∃ x, x = X.getD (4 * i - 4 + 3) 0 := ⟨_, rfl⟩
        have c0 : wr.cell? ⟨C, 256 + m * 4, none⟩ = some (.int .u8 (x0.toNat : Int)) := by rw [h0]; exact hwk 0 (by omega)
        have c1 : wr.cell? ⟨C, 256 + m * 4 + 1, none⟩ = some (.int .u8 (x1.toNat : Int)) := by rw [h1]; exact hwk 1 (by omega)
        have c2 : wr.cell? ⟨C, 256 + m * 4 + 2, none⟩ = some (.int .u8 (x2.toNat : Int)) := by rw [h2]; exact hwk 2 (by omega)
        have c3 : wr.cell? ⟨C, 256 + m * 4 + 3, none⟩ = some (.int .u8 (x3.toNat : Int)) := by rw [h3]; exact hwk 3 (by omega)
        have cv : wr.cell? ⟨C + 1, 0, none⟩ = some (.pointer (some ⟨C, 0, none⟩)) := (cell_of_row wr _ 0 _ _ _ HV'.out).trans rfl
        have HH := Lib.hid (show x0 = X.getD (4 * i - 4) 0 ∧ x1 = X.getD (4 * i - 3) 0 ∧ x2 = X.getD (4 * i - 2) 0 ∧ x3 = X.getD (4 * i - 1) 0 from ⟨h0, by rw [h1]; congr 1; omega, by rw [h2]; congr 1; omega, by rw [h3]; congr 1; omega⟩)
        have HR := Lib.hid hr
        have HM := Lib.hid hm
        have HN8 := Lib.hid hn8
        clear hX hXl hXz hwk h0 h1 h2 h3 hr hm hn8
        -- behind the variable t
        have hN := heap_alloc_new wr (.cells #[.int .u8 (x0.toNat : Int), .int .u8 (x1.toNat : Int), .int .u8 (x2.toNat : Int), .int .u8 (x3.toNat : Int)] 117)
        have hfN : Fr (fun _ => False) wr (wr.alloc (.cells #[.int .u8 (x0.toNat : Int), .int .u8 (x1.toNat : Int), .int .u8 (x2.toNat : Int), .int .u8 (x3.toNat : Int)] 117)) := (Fr.refl _ _).alloc _
        have HT := Lib.hid (show (wr.alloc (.cells #[.int .u8 (x0.toNat : Int), .int .u8 (x1.toNat : Int), .int .u8 (x2.toNat : Int), .int .u8 (x3.toNat : Int)] 117)).heap[wr.heap.size]? = some (.cells (bcells [x0, x1, x2, x3]).toArray 117 (0, 0)) from hN)
        have HCt := Lib.hid (HC'.out.fr hfN id)
        have HVt := Lib.hid (hfN.heap HV'.out id)
        have HFt := Lib.hid (HF'.out.alloc (.cells #[.int .u8 (x0.toNat : Int), .int .u8 (x1.toNat : Int), .int .u8 (x2.toNat : Int), .int .u8 (x3.toNat : Int)] 117))
        have cvt : (wr.alloc (.cells #[.int .u8 (x0.toNat : Int), .int .u8 (x1.toNat : Int), .int .u8 (x2.toNat : Int), .int .u8 (x3.toNat : Int)] 117)).cell? ⟨C + 1, 0, none⟩ = some (.pointer (some ⟨C, 0, none⟩)) := hfN.cell cv id
        have hTC : C + 1 < wr.heap.size := lt_of_heap HV'.out
        have hTw : w.heap.size ≤ wr.heap.size := HF'.out.size
        clear hN hfN
        by_cases h0 : r = 0
        · have q0 : ((r : Int) == 0) = true := by simpa using h0
          have HR0 := Lib.hid h0
          clear h0
          go_wp2_with fail
          refine (sub_calls C (C + 1) (wz key i) x1 x2 x3 x0 _ HCt.out cvt).mono ?_
          rintro e w4 ⟨rfl, hf⟩
          have HT4 := Lib.hid (hf.heap HT.out id)
          have HC4 := Lib.hid (HCt.out.fr hf id)
          have HV4 := Lib.hid (hf.heap HVt.out id)
          have HF4 := Lib.hid (HFt.out.trans hf (fun i hi => hi.elim))
          obtain ⟨T, hTd⟩ : ∃ T, T = wr.heap.size := ⟨_, rfl⟩
          rw [← hTd] at HT4 hTC hTw ⊢
          clear hf hTd HT HCt HVt HFt cvt
          obtain ⟨t0, ht0⟩ : ∃ t, t = box x1 ^^^ pw i := ⟨_, rfl⟩
          obtain ⟨y, hy⟩ : ∃ t, t = box x1 := ⟨_, rfl⟩
          obtain ⟨t1, ht1⟩ : ∃ t, t = box x2 := ⟨_, rfl⟩
          obtain ⟨t2, ht2⟩ : ∃ t, t = box x3 := ⟨_, rfl⟩
          obtain ⟨t3, ht3⟩ : ∃ t, t = box x0 := ⟨_, rfl⟩
          obtain ⟨pq, hpq⟩ : ∃ t, t = pw i := ⟨_, rfl⟩
          have e1 := xor_u8 y pq
          rw [hy, hpq, ← ht0, ← hpq, ← hy] at e1
          have HTL := Lib.hid (show ∀ k, k < 4 → [t0, t1, t2, t3][k]? = some (wordT X i k) from fun k hk => by
            obtain ⟨g0, g1, g2, g3⟩ := HH.out
            have hr := HR.out
            have hr0 := HR0.out
            have hi8 := HN8.out
            have : k = 0 ∨ k = 1 ∨ k = 2 ∨ k = 3 := by omega
            rcases this with rfl | rfl | rfl | rfl
            · simp only [wordT]; rw [if_pos (by omega), if_pos trivial, ← g1, ht0]; rfl
            · simp only [wordT]; rw [if_pos (by omega), if_neg (by omega), show 4 * i - 4 + (1 + 1) % 4 = 4 * i - 2 by omega, ← g2, ht1]; rfl
            · simp only [wordT]; rw [if_pos (by omega), if_neg (by omega), show 4 * i - 4 + (2 + 1) % 4 = 4 * i - 1 by omega, ← g3, ht2]; rfl
            · simp only [wordT]; rw [if_pos (by omega), if_neg (by omega), show 4 * i - 4 + (3 + 1) % 4 = 4 * i - 4 by omega, ← g0, ht3]; rfl)
          have HPW := Lib.hid (show pw (i + 1) = tw pq from by rw [hpq]; exact pw_next i (by have := HR.out; have := HR0.out; omega) (by have := HN8.out; omega))
          rw [← hy, ← ht1, ← ht2, ← ht3, ← hpq]
          clear hy ht0 ht1 ht2 ht3 hpq
          have hT5 := setRow_heap (w := w4) (cs := (bcells [y, t1, t2, t3]).toArray) HT4.out
          have HC5 := Lib.hid (show Cip (w4.setRow T (bcells [y, t1, t2, t3]).toArray) C (wz key i) from ⟨(setRow_other w4 T C _ (by omega)).trans HC4.out.1, HC4.out.2⟩)
          have HV5 := Lib.hid (show (w4.setRow T (bcells [y, t1, t2, t3]).toArray).heap[C + 1]? = some (.cells #[.pointer (some ⟨C, 0, none⟩)] 89 (0, 0)) from (setRow_other w4 T (C + 1) _ (by omega)).trans HV4.out)
          have HF5 := Lib.hid (HF4.out.setRow T (bcells [y, t1, t2, t3]).toArray (.inr hTw))
          have d0 : (w4.setRow T (bcells [y, t1, t2, t3]).toArray).cell? ⟨T, 0, none⟩ = some (.int .u8 (y.toNat : Int)) := bcells_cell hT5 0 y rfl
          have dz : (w4.setRow T (bcells [y, t1, t2, t3]).toArray).frozen? ⟨T, 0, none⟩ = false := frozen_of_row _ _ _ _ _ hT5
          have HT6 := Lib.hid (show ((w4.setRow T (bcells [y, t1, t2, t3]).toArray).setCell ⟨T, 0, none⟩ (.int .u8 (t0.toNat : Int))).heap[T]? = some (.cells (bcells [t0, t1, t2, t3]).toArray 117 (0, 0)) from bcells_set hT5 0 t0)
          have HC6 := Lib.hid (show Cip ((w4.setRow T (bcells [y, t1, t2, t3]).toArray).setCell ⟨T, 0, none⟩ (.int .u8 (t0.toNat : Int))) C (wz key i) from ⟨setCell_keep HC5.out.1 (show C ≠ T by omega), HC5.out.2⟩)
          have HV6 := Lib.hid (show ((w4.setRow T (bcells [y, t1, t2, t3]).toArray).setCell ⟨T, 0, none⟩ (.int .u8 (t0.toNat : Int))).heap[C + 1]? = some (.cells #[.pointer (some ⟨C, 0, none⟩)] 89 (0, 0)) from setCell_keep HV5.out (show C + 1 ≠ T by omega))
          have HF6 := Lib.hid (HF5.out.setCell ⟨T, 0, none⟩ (.int .u8 (t0.toNat : Int)) (.inr hTw))
          have b1 := y.toNat_lt
          have b2 := pq.toNat_lt
          have b3 := t0.toNat_lt
          clear hT5
          go_wp2_with (with_reducible refine wpList_store_bytes (op := ⟨none, .store 117 _ _, _, _, _, _⟩) rfl 117 _ _ rfl T rfl 117 [x0, x1, x2, x3] [y, t1, t2, t3] rfl HT4.out 4 (by kernel_rfl) rfl rfl ?_)
          refine (twice_calls _ _).mono ?_
          rintro e w9 ⟨rfl, h9⟩
          rw [h9] at HT6 HC6 HV6 HF6
          have HT9 := HT6
          have HC9 := HC6
          have HV9 := HV6
          have HF9 := HF6
          clear HT6 HC6 HV6 HF6 HT4 HC4 HV4 HF4 HC5 HV5 HF5 d0 dz e1 h9
          go_wp2
          have HC0 := Lib.hid (show Cip w9 C (stW X (wordF X i) 0) by rw [HX.out, wz_stW key HK.out i hi]; exact HC9.out)
          go_loopw [67] (fun v wr => ∃ k : Nat, k ≤ 4 ∧ v = .int .i64 k ∧ Cip wr C (stW X (wordF X i) k) ∧ wr.heap[T]? = some (.cells (bcells [t0, t1, t2, t3]).toArray 117 (0, 0)) ∧ wr.heap[C + 1]? = some (.cells #[.pointer (some ⟨C, 0, none⟩)] 89 (0, 0)) ∧ Fr (fun _ => False) w wr) (fun v _ => 4 - (intOf v).toNat)
          case atStart => exact ⟨0, Nat.zero_le _, rfl, HC0.out, HT9.out, HV9.out, HF9.out⟩
          case round =>
            obtain ⟨k, hk, rfl, hC, hT, hV, hf⟩ := hrel
            have HCa := Lib.hid hC
            have HTa := Lib.hid hT
            have HVa := Lib.hid hV
            have HFa := Lib.hid hf
            clear hC hT hV hf HC0 HC9 HT9 HV9 HF9
            by_cases hlk : k < 4
            · obtain ⟨a, ha⟩ : ∃ a, a = X.getD (4 * i - 32 + k) 0 := ⟨_, rfl⟩
              obtain ⟨b, hb⟩ : ∃ b, b = wordT X i k := ⟨_, rfl⟩
              obtain ⟨z, hzd⟩ : ∃ z, z = a ^^^ b := ⟨_, rfl⟩
              have hfk : wordF X i k = z := by rw [hzd, ha, hb]; rfl
              have d1 : wr.drew.cell? ⟨C, 256 + n8 * 4 + k, none⟩ = some (.int .u8 (a.toNat : Int)) := by
                have := HCa.out.word (n8 * 4 + k) (by have := HN8.out; omega)
                rw [show (stW X (wordF X i) k).getD (n8 * 4 + k) 0 = a by
                  unfold stW
                  have := HXl.out
                  have := HN8.out
                  rw [List.append_assoc, getD_app (by omega), ha]; congr 1; omega] at this
                rw [Nat.add_assoc]; exact this
              have d2 : wr.drew.cell? ⟨T, k, none⟩ = some (.int .u8 (b.toNat : Int)) := bcells_cell (w := wr.drew) HTa.out k b (by rw [hb]; exact HTL.out k hlk)
              have d3 : wr.drew.cell? ⟨C, 256 + i * 4 + k, none⟩ = some (.int .u8 (((stW X (wordF X i) k).getD (i * 4 + k) 0).toNat : Int)) := by rw [Nat.add_assoc]; exact HCa.out.word (i * 4 + k) (by omega)
              have hz : wr.drew.frozen? ⟨C, 256 + i * 4 + k, none⟩ = false := frozen_of_row wr.drew _ _ _ _ HCa.out.1
              have dv : wr.drew.cell? ⟨C + 1, 0, none⟩ = some (.pointer (some ⟨C, 0, none⟩)) := (cell_of_row wr.drew _ 0 _ _ _ HVa.out).trans rfl
              generalize (stW X (wordF X i) k).getD (i * 4 + k) 0 = v0 at d3
              have HC1 := Lib.hid (show Cip (wr.drew.setCell ⟨C, 256 + i * 4 + k, none⟩ (.int .u8 (z.toNat : Int))) C (stW X (wordF X i) (k + 1)) from by
                have hXl := HXl.out
                have := HCa.out.step (by omega)
                rw [hfk, show 256 + (X.length + k) = 256 + i * 4 + k by omega] at this
                exact ⟨this.1, this.2⟩)
              have HT1 := Lib.hid (show (wr.drew.setCell ⟨C, 256 + i * 4 + k, none⟩ (.int .u8 (z.toNat : Int))).heap[T]? = some (.cells (bcells [t0, t1, t2, t3]).toArray 117 (0, 0)) from setCell_keep (w := wr.drew) HTa.out (show T ≠ C by omega))
              have HV1 := Lib.hid (show (wr.drew.setCell ⟨C, 256 + i * 4 + k, none⟩ (.int .u8 (z.toNat : Int))).heap[C + 1]? = some (.cells #[.pointer (some ⟨C, 0, none⟩)] 89 (0, 0)) from setCell_keep (w := wr.drew) HVa.out (show C + 1 ≠ C by omega))
              have HF1 := Lib.hid (HFa.out.drew.setCell ⟨C, 256 + i * 4 + k, none⟩ (.int .u8 (z.toNat : Int)) (.inr hCw))
              have e1 := xor_u8 a b
              rw [← hzd] at e1
              clear ha hb hzd hfk
              have b1 := a.toNat_lt
              have b2 := b.toNat_lt
              have b3 := z.toNat_lt
              have q60 : (i : Int) < 60 := by omega
              go_wp2
              refine wp_region_still_tail 20 (by kernel_rfl) (by kernel_rfl) ?_
              simp only [List.take_succ_cons, List.take_zero, List.drop_succ_cons, List.drop_zero]
              change wpStill _ _ wr.drew (fun a' => wpList _ _ _ _ a' wr.drew) _ _
              generalize wr.drew = wy at d1 d2 d3 hz dv HC1 HT1 HV1 HF1 ⊢
              repeat still_step
              refine wpStill_nil ?_
              go_wp2
              go_roundw
              case rel => exact ⟨k + 1, by omega, by go_num, HC1.out, HT1.out, HV1.out, HF1.out⟩
              case measure => simp [intOf]; omega
            · have hk4 : k = 4 := by omega
              rw [hk4, HX.out, wz_next key HK.out i (by have := HN8.out; omega) hlt] at HCa
              clear hk4
              go_wp2
              go_roundw
              case rel => exact ⟨i + 1, by omega, by go_num, by rw [HPW.out], HCa.out, HVa.out, HFa.out⟩
              case measure => simp [intOf]; omega
        · by_cases h4 : r = 4
          · have q0 : ((r : Int) == 0) = false := by simpa using h0
            have q4 : ((r : Int) == 4) = true := by simp; omega
            have HR0 := Lib.hid h4
            clear h0 h4
            go_wp2_with fail
            refine (sub_calls C (C + 1) (wz key i) x0 x1 x2 x3 _ HCt.out cvt).mono ?_
            rintro e w4 ⟨rfl, hf⟩
            have HT4 := Lib.hid (hf.heap HT.out id)
            have HC4 := Lib.hid (HCt.out.fr hf id)
            have HV4 := Lib.hid (hf.heap HVt.out id)
            have HF4 := Lib.hid (HFt.out.trans hf (fun i hi => hi.elim))
            obtain ⟨T, hTd⟩ : ∃ T, T = wr.heap.size := ⟨_, rfl⟩
            rw [← hTd] at HT4 hTC hTw ⊢
            clear hf hTd HT HCt HVt HFt cvt
            obtain ⟨t0, ht0⟩ : ∃ t, t = box x0 := ⟨_, rfl⟩
            obtain ⟨t1, ht1⟩ : ∃ t, t = box x1 := ⟨_, rfl⟩
            obtain ⟨t2, ht2⟩ : ∃ t, t = box x2 := ⟨_, rfl⟩
            obtain ⟨t3, ht3⟩ : ∃ t, t = box x3 := ⟨_, rfl⟩
            have HTL := Lib.hid (show ∀ k, k < 4 → [t0, t1, t2, t3][k]? = some (wordT X i k) from fun k hk => by
              obtain ⟨g0, g1, g2, g3⟩ := HH.out
              have hr := HR.out
              have hr0 := HR0.out
              have hi8 := HN8.out
              have : k = 0 ∨ k = 1 ∨ k = 2 ∨ k = 3 := by omega
              rcases this with rfl | rfl | rfl | rfl
              · simp only [wordT]; rw [if_neg (by omega), if_pos (by omega), show 4 * i - 4 + 0 = 4 * i - 4 by omega, ← g0, ht0]; rfl
              · simp only [wordT]; rw [if_neg (by omega), if_pos (by omega), show 4 * i - 4 + 1 = 4 * i - 3 by omega, ← g1, ht1]; rfl
              · simp only [wordT]; rw [if_neg (by omega), if_pos (by omega), show 4 * i - 4 + 2 = 4 * i - 2 by omega, ← g2, ht2]; rfl
              · simp only [wordT]; rw [if_neg (by omega), if_pos (by omega), show 4 * i - 4 + 3 = 4 * i - 1 by omega, ← g3, ht3]; rfl)
            have HPW := Lib.hid (show pw (i + 1) = pw i from pw_same i (by have := HR.out; have := HR0.out; omega))
            rw [← ht0, ← ht1, ← ht2, ← ht3]
            clear ht0 ht1 ht2 ht3
            have HT9 := Lib.hid (setRow_heap (w := w4) (cs := (bcells [t0, t1, t2, t3]).toArray) HT4.out)
            have HC9 := Lib.hid (show Cip (w4.setRow T (bcells [t0, t1, t2, t3]).toArray) C (wz key i) from ⟨(setRow_other w4 T C _ (by omega)).trans HC4.out.1, HC4.out.2⟩)
            have HV9 := Lib.hid (show (w4.setRow T (bcells [t0, t1, t2, t3]).toArray).heap[C + 1]? = some (.cells #[.pointer (some ⟨C, 0, none⟩)] 89 (0, 0)) from (setRow_other w4 T (C + 1) _ (by omega)).trans HV4.out)
            have HF9 := Lib.hid (HF4.out.setRow T (bcells [t0, t1, t2, t3]).toArray (.inr hTw))
            go_wp2_with (with_reducible refine wpList_store_bytes (op := ⟨none, .store 117 _ _, _, _, _, _⟩) rfl 117 _ _ rfl T rfl 117 [x0, x1, x2, x3] [t0, t1, t2, t3] rfl HT4.out 4 (by kernel_rfl) rfl rfl ?_)
            clear HT4 HC4 HV4 HF4
            generalize w4.setRow T (bcells [t0, t1, t2, t3]).toArray = w9 at HT9 HC9 HV9 HF9 ⊢
            have HC0 := Lib.hid (show Cip w9 C (stW X (wordF X i) 0) by rw [HX.out, wz_stW key HK.out i hi]; exact HC9.out)
            go_loopw [67] (fun v wr => ∃ k : Nat, k ≤ 4 ∧ v = .int .i64 k ∧ Cip wr C (stW X (wordF X i) k) ∧ wr.heap[T]? = some (.cells (bcells [t0, t1, t2, t3]).toArray 117 (0, 0)) ∧ wr.heap[C + 1]? = some (.cells #[.pointer (some ⟨C, 0, none⟩)] 89 (0, 0)) ∧ Fr (fun _ => False) w wr) (fun v _ => 4 - (intOf v).toNat)
            case atStart => exact ⟨0, Nat.zero_le _, rfl, HC0.out, HT9.out, HV9.out, HF9.out⟩
            case round =>
              obtain ⟨k, hk, rfl, hC, hT, hV, hf⟩ := hrel
              have HCa := Lib.hid hC
              have HTa := Lib.hid hT
              have HVa := Lib.hid hV
              have HFa := Lib.hid hf
              clear hC hT hV hf HC0 HC9 HT9 HV9 HF9
              by_cases hlk : k < 4
              · obtain ⟨a, ha⟩ : ∃ a, a = X.getD (4 * i - 32 + k) 0 := ⟨_, rfl⟩
                obtain ⟨b, hb⟩ : ∃ b, b = wordT X i k := ⟨_, rfl⟩
                obtain ⟨z, hzd⟩ : ∃ z, z = a ^^^ b := ⟨_, rfl⟩
                have hfk : wordF X i k = z := by rw [hzd, ha, hb]; rfl
                have d1 : wr.drew.cell? ⟨C, 256 + n8 * 4 + k, none⟩ = some (.int .u8 (a.toNat : Int)) := by
                  have := HCa.out.word (n8 * 4 + k) (by have := HN8.out; omega)
                  rw [show (stW X (wordF X i) k).getD (n8 * 4 + k) 0 = a by
                    unfold stW
                    have := HXl.out
                    have := HN8.out
                    rw [List.append_assoc, getD_app (by omega), ha]; congr 1; omega] at this
                  rw [Nat.add_assoc]; exact this
                have d2 : wr.drew.cell? ⟨T, k, none⟩ = some (.int .u8 (b.toNat : Int)) := bcells_cell (w := wr.drew) HTa.out k b (by rw [hb]; exact HTL.out k hlk)
                have d3 : wr.drew.cell? ⟨C, 256 + i * 4 + k, none⟩ = some (.int .u8 (((stW X (wordF X i) k).getD (i * 4 + k) 0).toNat : Int)) := by rw [Nat.add_assoc]; exact HCa.out.word (i * 4 + k) (by omega)
                have hz : wr.drew.frozen? ⟨C, 256 + i * 4 + k, none⟩ = false := frozen_of_row wr.drew _ _ _ _ HCa.out.1
                have dv : wr.drew.cell? ⟨C + 1, 0, none⟩ = some (.pointer (some ⟨C, 0, none⟩)) := (cell_of_row wr.drew _ 0 _ _ _ HVa.out).trans rfl
                generalize (stW X (wordF X i) k).getD (i * 4 + k) 0 = v0 at d3
                have HC1 := Lib.hid (show Cip (wr.drew.setCell ⟨C, 256 + i * 4 + k, none⟩ (.int .u8 (z.toNat : Int))) C (stW X (wordF X i) (k + 1)) from by
                  have hXl := HXl.out
                  have := HCa.out.step (by omega)
                  rw [hfk, show 256 + (X.length + k) = 256 + i * 4 + k by omega] at this
                  exact ⟨this.1, this.2⟩)
                have HT1 := Lib.hid (show (wr.drew.setCell ⟨C, 256 + i * 4 + k, none⟩ (.int .u8 (z.toNat : Int))).heap[T]? = some (.cells (bcells [t0, t1, t2, t3]).toArray 117 (0, 0)) from setCell_keep (w := wr.drew) HTa.out (show T ≠ C by omega))
                have HV1 := Lib.hid (show (wr.drew.setCell ⟨C, 256 + i * 4 + k, none⟩ (.int .u8 (z.toNat : Int))).heap[C + 1]? = some (.cells #[.pointer (some ⟨C, 0, none⟩)] 89 (0, 0)) from setCell_keep (w := wr.drew) HVa.out (show C + 1 ≠ C by omega))
                have HF1 := Lib.hid (HFa.out.drew.setCell ⟨C, 256 + i * 4 + k, none⟩ (.int .u8 (z.toNat : Int)) (.inr hCw))
                have e1 := xor_u8 a b
                rw [← hzd] at e1
                clear ha hb hzd hfk
                have b1 := a.toNat_lt
                have b2 := b.toNat_lt
                have b3 := z.toNat_lt
                have q60 : (i : Int) < 60 := by omega
                go_wp2
                refine wp_region_still_tail 20 (by kernel_rfl) (by kernel_rfl) ?_
                simp only [List.take_succ_cons, List.take_zero, List.drop_succ_cons, List.drop_zero]
                change wpStill _ _ wr.drew (fun a' => wpList _ _ _ _ a' wr.drew) _ _
                generalize wr.drew = wy at d1 d2 d3 hz dv HC1 HT1 HV1 HF1 ⊢
                repeat still_step
                refine wpStill_nil ?_
                go_wp2
                go_roundw
                case rel => exact ⟨k + 1, by omega, by go_num, HC1.out, HT1.out, HV1.out, HF1.out⟩
                case measure => simp [intOf]; omega
              · have hk4 : k = 4 := by omega
                rw [hk4, HX.out, wz_next key HK.out i (by have := HN8.out; omega) hlt] at HCa
                clear hk4
                go_wp2
                go_roundw
                case rel => exact ⟨i + 1, by omega, by go_num, by rw [HPW.out], HCa.out, HVa.out, HFa.out⟩
                case measure => simp [intOf]; omega
          · have q0 : ((r : Int) == 0) = false := by simpa using h0
            have q4 : ((r : Int) == 4) = false := by simp; omega
            have HPW := Lib.hid (show pw (i + 1) = pw i from pw_same i (by have := HR.out; omega))
            have HTL := Lib.hid (show ∀ k, k < 4 → [x0, x1, x2, x3][k]? = some (wordT X i k) from fun k hk => by
              obtain ⟨g0, g1, g2, g3⟩ := HH.out
              have hr := HR.out
              have hi8 := HN8.out
              have : k = 0 ∨ k = 1 ∨ k = 2 ∨ k = 3 := by omega
              rcases this with rfl | rfl | rfl | rfl
              · simp only [wordT]; rw [if_neg (by omega), if_neg (by omega), show 4 * i - 4 + 0 = 4 * i - 4 by omega, ← g0]; rfl
              · simp only [wordT]; rw [if_neg (by omega), if_neg (by omega), show 4 * i - 4 + 1 = 4 * i - 3 by omega, ← g1]; rfl
              · simp only [wordT]; rw [if_neg (by omega), if_neg (by omega), show 4 * i - 4 + 2 = 4 * i - 2 by omega, ← g2]; rfl
              · simp only [wordT]; rw [if_neg (by omega), if_neg (by omega), show 4 * i - 4 + 3 = 4 * i - 1 by omega, ← g3]; rfl)
            clear h0 h4
            go_wp2_with fail
            generalize wr.alloc (.cells #[.int .u8 (x0.toNat : Int), .int .u8 (x1.toNat : Int), .int .u8 (x2.toNat : Int), .int .u8 (x3.toNat : Int)] 117) = w9 at HT HCt HVt HFt cvt ⊢
            obtain ⟨T, hTd⟩ : ∃ T, T = wr.heap.size := ⟨_, rfl⟩
            rw [← hTd] at HT hTC hTw ⊢
            have HT9 := HT
            have HC9 := HCt
            have HV9 := HVt
            have HF9 := HFt
            clear hTd HT HCt HVt HFt cvt
            have HC0 := Lib.hid (show Cip w9 C (stW X (wordF X i) 0) by rw [HX.out, wz_stW key HK.out i hi]; exact HC9.out)
            go_loopw [67] (fun v wr => ∃ k : Nat, k ≤ 4 ∧ v = .int .i64 k ∧ Cip wr C (stW X (wordF X i) k) ∧ wr.heap[T]? = some (.cells (bcells [x0, x1, x2, x3]).toArray 117 (0, 0)) ∧ wr.heap[C + 1]? = some (.cells #[.pointer (some ⟨C, 0, none⟩)] 89 (0, 0)) ∧ Fr (fun _ => False) w wr) (fun v _ => 4 - (intOf v).toNat)
            case atStart => exact ⟨0, Nat.zero_le _, rfl, HC0.out, HT9.out, HV9.out, HF9.out⟩
            case round =>
              obtain ⟨k, hk, rfl, hC, hT, hV, hf⟩ := hrel
              have HCa := Lib.hid hC
              have HTa := Lib.hid hT
              have HVa := Lib.hid hV
              have HFa := Lib.hid hf
              clear hC hT hV hf HC0 HC9 HT9 HV9 HF9
              by_cases hlk : k < 4
              · obtain ⟨a, ha⟩ : ∃ a, a = X.getD (4 * i - 32 + k) 0 := ⟨_, rfl⟩
                obtain ⟨b, hb⟩ : ∃ b, b = wordT X i k := ⟨_, rfl⟩
                obtain ⟨z, hzd⟩ : ∃ z, z = a ^^^ b := ⟨_, rfl⟩
                have hfk : wordF X i k = z := by rw [hzd, ha, hb]; rfl
                have d1 : wr.drew.cell? ⟨C, 256 + n8 * 4 + k, none⟩ = some (.int .u8 (a.toNat : Int)) := by
                  have := HCa.out.word (n8 * 4 + k) (by have := HN8.out; omega)
                  rw [show (stW X (wordF X i) k).getD (n8 * 4 + k) 0 = a by
                    unfold stW
                    have := HXl.out
                    have := HN8.out
                    rw [List.append_assoc, getD_app (by omega), ha]; congr 1; omega] at this
                  rw [Nat.add_assoc]; exact this
                have d2 : wr.drew.cell? ⟨T, k, none⟩ = some (.int .u8 (b.toNat : Int)) := bcells_cell (w := wr.drew) HTa.out k b (by rw [hb]; exact HTL.out k hlk)
                have d3 : wr.drew.cell? ⟨C, 256 + i * 4 + k, none⟩ = some (.int .u8 (((stW X (wordF X i) k).getD (i * 4 + k) 0).toNat : Int)) := by rw [Nat.add_assoc]; exact HCa.out.word (i * 4 + k) (by omega)
                have hz : wr.drew.frozen? ⟨C, 256 + i * 4 + k, none⟩ = false := frozen_of_row wr.drew _ _ _ _ HCa.out.1
                have dv : wr.drew.cell? ⟨C + 1, 0, none⟩ = some (.pointer (some ⟨C, 0, none⟩)) := (cell_of_row wr.drew _ 0 _ _ _ HVa.out).trans rfl
                generalize (stW X (wordF X i) k).getD (i * 4 + k) 0 = v0 at d3
                have HC1 := Lib.hid (show Cip (wr.drew.setCell ⟨C, 256 + i * 4 + k, none⟩ (.int .u8 (z.toNat : Int))) C (stW X (wordF X i) (k + 1)) from by
                  have hXl := HXl.out
                  have := HCa.out.step (by omega)
                  rw [hfk, show 256 + (X.length + k) = 256 + i * 4 + k by omega] at this
                  exact ⟨this.1, this.2⟩)
                have HT1 := Lib.hid (show (wr.drew.setCell ⟨C, 256 + i * 4 + k, none⟩ (.int .u8 (z.toNat : Int))).heap[T]? = some (.cells (bcells [x0, x1, x2, x3]).toArray 117 (0, 0)) from setCell_keep (w := wr.drew) HTa.out (show T ≠ C by omega))
                have HV1 := Lib.hid (show (wr.drew.setCell ⟨C, 256 + i * 4 + k, none⟩ (.int .u8 (z.toNat : Int))).heap[C + 1]? = some (.cells #[.pointer (some ⟨C, 0, none⟩)] 89 (0, 0)) from setCell_keep (w := wr.drew) HVa.out (show C + 1 ≠ C by omega))
                have HF1 := Lib.hid (HFa.out.drew.setCell ⟨C, 256 + i * 4 + k, none⟩ (.int .u8 (z.toNat : Int)) (.inr hCw))
                have e1 := xor_u8 a b
                rw [← hzd] at e1
                clear ha hb hzd hfk
                have b1 := a.toNat_lt
                have b2 := b.toNat_lt
                have b3 := z.toNat_lt
                have q60 : (i : Int) < 60 := by omega
                go_wp2
                refine wp_region_still_tail 20 (by kernel_rfl) (by kernel_rfl) ?_
                simp only [List.take_succ_cons, List.take_zero, List.drop_succ_cons, List.drop_zero]
                change wpStill _ _ wr.drew (fun a' => wpList _ _ _ _ a' wr.drew) _ _
                generalize wr.drew = wy at d1 d2 d3 hz dv HC1 HT1 HV1 HF1 ⊢
                repeat still_step
                refine wpStill_nil ?_
                go_wp2
                go_roundw
                case rel => exact ⟨k + 1, by omega, by go_num, HC1.out, HT1.out, HV1.out, HF1.out⟩
                case measure => simp [intOf]; omega
              · have hk4 : k = 4 := by omega
                rw [hk4, HX.out, wz_next key HK.out i (by have := HN8.out; omega) hlt] at HCa
                clear hk4
                go_wp2
                go_roundw
                case rel => exact ⟨i + 1, by omega, by go_num, by rw [HPW.out], HCa.out, HVa.out, HFa.out⟩
                case measure => simp [intOf]; omega
    · have h60 : i = 60 := by omega
      rw [h60, wz_all] at HC'
      clear h60
      have cv : wr.cell? ⟨C + 1, 0, none⟩ = some (.pointer (some ⟨C, 0, none⟩)) := (cell_of_row wr _ 0 _ _ _ HV'.out).trans rfl
      go_wp2
      go_ret2
      exact ⟨C, rfl, HC'.out, hCw, HF'.out⟩
theorem new_no (s : ByteArray) (hs : s.size ≠ 32) (hm : s.size ≤ 9223372036854775807) (w : World) : Calls Tryz.prog 48 #[.string s] w fun e w' => e = .returned (.tuple #[.pointer none, .int .i64 2]) ∧ w = w' := by
  have hq : ((s.size : Int) != 32) = true := by simp; omega
  go_enter Tryz.func48, Tryz.ntmps48
  go_wp2
  go_ret2
  exact ⟨rfl, rfl⟩
end Go.Proofs.YtcchhfkmhbjdmaaGreat
/-! Kj -/
set_option linter.unusedVariables false
set_option linter.unusedSimpArgs false
set_option pp.deepTerms true
set_option pp.maxSteps 100000
namespace Go.Proofs.YtcchhfkmhbjdmaaGreat
open Go.RowKit
theorem bytesWorld_fr (w : World) (e : TypeId) (s : ByteArray) : Fr (fun _ => False) w (Lib.bytesWorld w e s) :=
  ⟨by simp [Lib.bytesWorld, World.freeze] <;> rfl, by simp [Lib.bytesWorld, World.freeze] <;> rfl, by simp [Lib.bytesWorld, World.freeze] <;> rfl, by rw [Lib.bytesWorld_size]; omega, fun i hi _ => Lib.bytesWorld_at_old w e s i hi⟩
theorem bytesWorld_row (w : World) (e : TypeId) (l : List UInt8) : (Lib.bytesWorld w e (str l)).rangeAt w.heap.size 0 (bcells l) := fun j v hj => by
  have hlt : j < l.length := by
    have := (List.getElem?_eq_some_iff.1 hj).1
    rwa [bcells_length] at this
  have := Lib.bytesWorld_cell w e (str l) j (by rw [str_size]; exact hlt)
  rw [Nat.zero_add, this, str_list]
  simp [bcells, List.getElem?_eq_getElem hlt] at hj
  rw [← hj]
  simp [List.getD_eq_getElem?_getD, List.getElem?_eq_getElem hlt]
set_option maxRecDepth 20000 in
set_option maxHeartbeats 8000000 in
theorem press_yes (C : Nat) (W s : List UInt8) (hs : s.length = 16) (w : World) (hC : Cip w C W) :
    Calls Tryz.prog 49 #[.pointer (some ⟨C, 0, none⟩), .string (str s)] w fun e w' => e = .returned (.tuple #[.string (str (press W s)), .int .i64 0]) ∧ Fr (fun _ => False) w w' := by
  have hsz : (str s).size = 16 := by rw [str_size]; exact hs
  have hCl := hC.lt
  have HC := Lib.hid hC
  clear hC
  have hcv := Lib.run_convert_string_bytes (P := Tryz.prog) w 9 53 5 (str s) Tryz.underlying9 Tryz.underlying53 Tryz.underlying5
  have hfB := bytesWorld_fr w 5 (str s)
  have hrB := bytesWorld_row w 5 s
  have hsB := Lib.bytesWorld_size w 5 (str s)
  rw [hsz] at hcv
  generalize grownCap w 16 0 5 = cap at hcv
  generalize Lib.bytesWorld w 5 (str s) = wB at hcv hfB hrB hsB
  have hsa : (Instr.arrayAt 123 (.slice (some ⟨w.heap.size, 0, none⟩) 16 cap)).run Tryz.prog wB = .ok (.pointer (some ⟨w.heap.size, 0, none⟩)) wB := by
    simp [Instr.arrayAt, run_underlying Tryz.underlying123]
  have HFB := Lib.hid hfB
  have HRB := Lib.hid hrB
  have HI := Lib.hid (show (Tryz.prog.info? 123).map (·.size) = some (bcells s).length by rw [bcells_length, hs]; kernel_rfl)
  have HI2 := Lib.hid (show (Tryz.prog.info? 123).map (·.size) = some (bcells s).toArray.size by rw [List.size_toArray, bcells_length, hs]; kernel_rfl)
  have HZ := Lib.hid (show (#[.int .u8 0, .int .u8 0, .int .u8 0, .int .u8 0, .int .u8 0, .int .u8 0, .int .u8 0, .int .u8 0, .int .u8 0, .int .u8 0, .int .u8 0, .int .u8 0, .int .u8 0, .int .u8 0, .int .u8 0, .int .u8 0] : Array Value).size = (bcells s).toArray.size by rw [show (bcells s).toArray.size = 16 by rw [List.size_toArray, bcells_length, hs]]; rfl)
  have H1 := Lib.hid (show ∀ v ∈ (bcells s).toArray.toList, v.oneCell' = true by simpa using bcells_one s)
  have hfr := Lib.hid (hfB.alloc (.cells (bcells s).toArray 123))
  have HS := Lib.hid (show Blk (wB.alloc (.cells (bcells s).toArray 123)) wB.heap.size s from heap_alloc_new wB _)
  have HsB := Lib.hid hsB
  clear hfB hrB hsB
  go_enter Tryz.func49, Tryz.ntmps49
  go_wp2_with (first
    | (with_reducible refine wpList_load_mid (op := ⟨some 14, _, _, _, _, _⟩) rfl 123 _ rfl w.heap.size 0 rfl (bcells s) _ HRB.out Tryz.underlying123 rfl HI.out ?_)
    | (with_reducible refine wpList_store_fresh (op := ⟨none, .store 123 _ _, _, _, _, _⟩) rfl 123 _ _ rfl wB #[.int .u8 0, .int .u8 0, .int .u8 0, .int .u8 0, .int .u8 0, .int .u8 0, .int .u8 0, .int .u8 0, .int .u8 0, .int .u8 0, .int .u8 0, .int .u8 0, .int .u8 0, .int .u8 0, .int .u8 0, .int .u8 0] (bcells s).toArray rfl rfl rfl HZ.out HI2.out H1.out ?_))
  have hS1 : wB.heap.size = w.heap.size + 1 := HsB.out
  obtain ⟨S, hSd⟩ : ∃ S, S = wB.heap.size := ⟨_, rfl⟩
  rw [← hSd] at HS hS1 ⊢
  generalize wB.alloc (.cells (bcells s).toArray 123) = w1 at hfr HS ⊢
  have hne : C ≠ S := by omega
  have HC1 := Lib.hid (HC.out.fr hfr.out id)
  clear hcv hsa HsB hSd HFB HRB HI HI2 HZ H1
  have hS2 : w.heap.size ≤ S := by omega
  clear hS1
  refine (add_calls C S W s 0 (by omega) hs hne w1 HC1.out HS.out).mono ?_
  rintro e w2 ⟨rfl, hB, hf⟩
  have HB2 := Lib.hid hB
  have HF2 := Lib.hid (hfr.out.trans hf (fun i hi => .inr (by omega)))
  have HC2 := Lib.hid (HC1.out.fr hf hne)
  clear hB hf HS hfr HC1
  go_wp2
  go_loopw [7] (fun v wr => ∃ r : Nat, r ≤ 13 ∧ v = .int .i64 ((r : Int) + 1) ∧ Blk wr S (pressN W s r) ∧ Cip wr C W ∧ Fr (fun _ => False) w wr) (fun v _ => 14 - (intOf v).toNat)
  case atStart => exact ⟨0, Nat.zero_le _, rfl, HB2.out, HC2.out, HF2.out⟩
  case round =>
    obtain ⟨r, hr, rfl, hB, hC, hf⟩ := hrel
    have HB := Lib.hid hB
    have HCr := Lib.hid hC
    have HF := Lib.hid hf
    clear hB hC hf HB2 HC2 HF2
    have HL := Lib.hid (pressN_length W s r)
    have HBh := Lib.hid (show wr.heap[S]? = some (.cells (bcells (pressN W s r)).toArray 123 (0, 0)) from HB.out)
    have HSL := Lib.hid (show (shiftL (pressN W s r)).length = 16 from full_length _ _)
    have HML := Lib.hid (show (mixL (shiftL (pressN W s r))).length = 16 from full_length _ _)
    by_cases hlt : r < 13
    · have HPN := Lib.hid (show pressN W s (r + 1) = addL W (r + 1) (mixL (shiftL (pressN W s r))) from rfl)
      generalize pressN W s r = st at HB HL HBh HSL HML HPN ⊢
      go_wp2_with (with_reducible refine wpList_load_bytes (op := ⟨some 22, _, _, _, _, _⟩) rfl 123 _ rfl S rfl 123 st _ _ HBh.out Tryz.underlying123 rfl 16 (by kernel_rfl) HL.out ?_)
      refine (shift_calls C W st HL.out wr HCr.out).mono ?_
      rintro e w3 ⟨rfl, hf⟩
      have HBh3 := Lib.hid (show w3.heap[S]? = some (.cells (bcells st).toArray 123 (0, 0)) from hf.heap HBh.out id)
      have HB4 := Lib.hid (show Blk (w3.setRow S (bcells (shiftL st)).toArray) S (shiftL st) from setRow_heap HBh3.out)
      have HC4 := Lib.hid (show Cip (w3.setRow S (bcells (shiftL st)).toArray) C W from ⟨(setRow_other w3 S C _ hne).trans (hf.heap HCr.out.1 id), HCr.out.2⟩)
      have HF4 := Lib.hid ((HF.out.trans hf (fun i hi => hi.elim)).setRow S (bcells (shiftL st)).toArray (.inr (by omega)))
      clear hf
      go_wp2_with (with_reducible refine wpList_store_bytes (op := ⟨none, .store 123 _ _, _, _, _, _⟩) rfl 123 _ _ rfl S rfl 123 st (shiftL st) rfl HBh3.out 16 (by kernel_rfl) HL.out HSL.out ?_)
      refine (mix_calls S (shiftL st) HSL.out _ HB4.out).mono ?_
      rintro e w5 ⟨rfl, hB5, hf5⟩
      have HC5 := Lib.hid (HC4.out.fr hf5 hne)
      have HB5 := Lib.hid hB5
      have HF5 := Lib.hid (HF4.out.trans hf5 (fun i hi => .inr (by omega)))
      clear hB5 hf5
      go_wp2_with fail
      refine (add_calls C S W (mixL (shiftL st)) (r + 1) (by omega) HML.out hne w5 HC5.out HB5.out).mono ?_
      rintro e w6 ⟨rfl, hB6, hf6⟩
      have HC6 := Lib.hid (HC5.out.fr hf6 hne)
      have HB6 := Lib.hid hB6
      have HF6 := Lib.hid (HF5.out.trans hf6 (fun i hi => .inr (by omega)))
      clear hB6 hf6
      go_wp2
      go_roundw
      case rel => exact ⟨r + 1, by omega, by go_num, by rw [HPN.out]; exact HB6.out, HC6.out, HF6.out⟩
      case measure => simp [intOf]; omega
    · have hr13 : r = 13 := by omega
      have HPN := Lib.hid (show press W s = addL W 14 (shiftL (pressN W s r)) by rw [hr13]; rfl)
      clear hr13
      generalize pressN W s r = st at HB HL HBh HSL HML HPN ⊢
      go_wp2_with (with_reducible refine wpList_load_bytes (op := ⟨some 29, _, _, _, _, _⟩) rfl 123 _ rfl S rfl 123 st _ _ HBh.out Tryz.underlying123 rfl 16 (by kernel_rfl) HL.out ?_)
      refine (shift_calls C W st HL.out wr HCr.out).mono ?_
      rintro e w3 ⟨rfl, hf⟩
      have HBh3 := Lib.hid (show w3.heap[S]? = some (.cells (bcells st).toArray 123 (0, 0)) from hf.heap HBh.out id)
      have HB4 := Lib.hid (show Blk (w3.setRow S (bcells (shiftL st)).toArray) S (shiftL st) from setRow_heap HBh3.out)
      have HC4 := Lib.hid (show Cip (w3.setRow S (bcells (shiftL st)).toArray) C W from ⟨(setRow_other w3 S C _ hne).trans (hf.heap HCr.out.1 id), HCr.out.2⟩)
      have HF4 := Lib.hid ((HF.out.trans hf (fun i hi => hi.elim)).setRow S (bcells (shiftL st)).toArray (.inr (by omega)))
      clear hf
      go_wp2_with (with_reducible refine wpList_store_bytes (op := ⟨none, .store 123 _ _, _, _, _, _⟩) rfl 123 _ _ rfl S rfl 123 st (shiftL st) rfl HBh3.out 16 (by kernel_rfl) HL.out HSL.out ?_)
      refine (add_calls C S W (shiftL st) 14 (by omega) HSL.out hne _ HC4.out HB4.out).mono ?_
      rintro e w6 ⟨rfl, hB6, hf6⟩
      have HF6 := Lib.hid (HF4.out.trans hf6 (fun i hi => .inr (by omega)))
      have hcv2 := run_convert_str (P := Tryz.prog) w6 53 5 Tryz.underlying53 Tryz.underlying5 S 0 16 16 (addL W 14 (shiftL st)) (full_length _ _) (fun j v hj => by
        rw [Nat.zero_add, cell_of_row w6 S j _ _ _ hB6]; simpa using hj) 9 Tryz.underlying9
      rw [← HPN.out] at hcv2
      clear hB6 hf6
      go_wp2
      go_ret2
      exact ⟨rfl, HF6.out⟩
theorem press_no (C : Nat) (s : ByteArray) (hs : s.size ≠ 16) (w : World) :
    Calls Tryz.prog 49 #[.pointer (some ⟨C, 0, none⟩), .string s] w fun e w' => e = .returned (.tuple #[.string ⟨#[]⟩, .int .i64 2]) ∧ w = w' := by
  have hq : ((s.size : Int) != 16) = true := by simp; omega
  go_enter Tryz.func49, Tryz.ntmps49
  go_wp2
  go_ret2
  exact ⟨rfl, rfl⟩
end Go.Proofs.YtcchhfkmhbjdmaaGreat
