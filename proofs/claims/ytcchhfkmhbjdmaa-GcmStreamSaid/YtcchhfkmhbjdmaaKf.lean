/- Box, add, shift. -/
import Derived.Test.YtcchhfkmhbjdmaaKe
set_option linter.unusedVariables false
set_option linter.unusedSimpArgs false
set_option pp.deepTerms true
set_option pp.maxSteps 100000
namespace Go.Proofs.Ytcchhfkmhbjdmaa
open Go.RowKit
/-- A cipher in memory. -/
def Cip (w : World) (C : Nat) (W : List UInt8) : Prop := w.heap[C]? = some (.cells (bcells (boxT ++ W)).toArray 94 (0, 0)) ∧ W.length = 240
theorem Cip.fr {F : Nat → Prop} {w w' : World} {C : Nat} {W : List UInt8} (h : Cip w C W) (hf : Fr F w w') (hn : ¬ F C) : Cip w' C W := ⟨hf.heap h.1 hn, h.2⟩
theorem Cip.word {w : World} {C : Nat} {W : List UInt8} (h : Cip w C W) (k : Nat) (hk : k < 240) : w.cell? ⟨C, 256 + k, none⟩ = some (.int .u8 ((W.getD k 0).toNat : Int)) := by
  refine bcells_cell h.1 _ _ ?_
  rw [List.getElem?_append_right (by rw [boxT_length]; omega), boxT_length, Nat.add_sub_cancel_left, List.getD_eq_getElem?_getD]
  have : k < W.length := by rw [h.2]; exact hk
  simp [List.getElem?_eq_getElem this]
theorem Cip.box {w : World} {C : Nat} {W : List UInt8} (h : Cip w C W) (b : UInt8) : w.cell? ⟨C, b.toNat, none⟩ = some (.int .u8 ((box b).toNat : Int)) := by
  refine bcells_cell h.1 _ _ ?_
  rw [List.getElem?_append_left (by rw [boxT_length]; exact b.toNat_lt)]
  exact boxT_get b
theorem Cip.lt {w : World} {C : Nat} {W : List UInt8} (h : Cip w C W) : C < w.heap.size := lt_of_heap h.1
/-- A block of 16. -/
def Blk (w : World) (S : Nat) (s : List UInt8) : Prop := w.heap[S]? = some (.cells (bcells s).toArray 99 (0, 0))
theorem Blk.at {w : World} {S : Nat} {f : Nat → UInt8} {s : List UInt8} {i : Nat} (h : Blk w S (upd f s i)) (j : Nat) (hj : j < s.length) : w.cell? ⟨S, j, none⟩ = some (.int .u8 ((if j < i then f j else s.getD j 0).toNat : Int)) :=
  bcells_cell h j _ (upd_get f s i j hj)
theorem Blk.step {w : World} {S : Nat} {f : Nat → UInt8} {s : List UInt8} {i : Nat} (h : Blk w S (upd f s i)) (hi : i < s.length) : Blk (w.setCell ⟨S, i, none⟩ (.int .u8 ((f i).toNat : Int))) S (upd f s (i + 1)) := by
  rw [← upd_set f s i hi]
  exact bcells_set h i (f i)
set_option maxRecDepth 20000 in
set_option maxHeartbeats 4000000 in
theorem add_calls (C S : Nat) (W s : List UInt8) (r : Nat) (hr : r ≤ 14) (hs : s.length = 16) (hne : C ≠ S) (w : World) (hC : Cip w C W) (hS : Blk w S s) :
    Calls Try.prog 74 #[.pointer (some ⟨C, 0, none⟩), .pointer (some ⟨S, 0, none⟩), .int .i64 r] w fun e w' => e = .returned (.tuple #[]) ∧ Blk w' S (addL W r s) ∧ Fr (fun i => i = S) w w' := by
  have HC := Lib.hid hC
  have HS := Lib.hid hS
  clear hC hS
  go_enter Try.func74, Try.ntmps74
  go_wp2
  go_loopw [7] (fun v wr => ∃ i : Nat, i ≤ 16 ∧ v = .int .i64 i ∧ Blk wr S (upd (addF W r s) s i) ∧ Fr (fun i => i = S) w wr) (fun v _ => 16 - (intOf v).toNat)
  case atStart => exact ⟨0, Nat.zero_le _, rfl, by rw [upd_zero]; exact HS.out, Fr.refl _ _⟩
  case round =>
    obtain ⟨i, hi, rfl, hB, hf⟩ := hrel
    have HB := Lib.hid hB
    have HF := Lib.hid hf
    clear hB hf
    by_cases hlt : i < 16
    · have c1 : wr.cell? ⟨S, i, none⟩ = some (.int .u8 ((s.getD i 0).toNat : Int)) := by
        have := HB.out.at i (by omega)
        rwa [if_neg (by omega)] at this
      have c2 : wr.cell? ⟨C, 256 + (4 * (r : Int) + (i : Int) / 4).toNat * 4 + ((i : Int) % 4).toNat, none⟩ = some (.int .u8 ((W.getD (16 * r + i) 0).toNat : Int)) := by
        rw [show 256 + (4 * (r : Int) + (i : Int) / 4).toNat * 4 + ((i : Int) % 4).toNat = 256 + (16 * r + i) by omega]
        exact (HC.out.fr HF.out hne).word _ (by omega)
      have htm : (i : Int).tmod 4 = (i : Int) % 4 := Int.tmod_eq_emod_of_nonneg (by omega)
      have hz : wr.frozen? ⟨S, i, none⟩ = false := frozen_of_row wr S _ _ _ HB.out
      have hw1 : IntKind.i64.wrap (4 * (r : Int)) = 4 * (r : Int) := IntWalk.i64_in _ (by omega)
      have hw2 : IntKind.i64.wrap ((i : Int) / 4) = (i : Int) / 4 := IntWalk.i64_in _ (by omega)
      have hw3 : IntKind.i64.wrap ((i : Int) % 4) = (i : Int) % 4 := IntWalk.i64_in _ (by omega)
      have hw4 : IntKind.i64.wrap (4 * (r : Int) + (i : Int) / 4) = 4 * (r : Int) + (i : Int) / 4 := IntWalk.i64_in _ (by omega)
      have hb1 : (0 : Int) ≤ 4 * (r : Int) + (i : Int) / 4 := by omega
      have hb2 : 4 * (r : Int) + (i : Int) / 4 < 60 := by omega
      have hb3 : (0 : Int) ≤ (i : Int) % 4 := by omega
      have hb4 : (i : Int) % 4 < 4 := by omega
      have hfi : addF W r s i = s.getD i 0 ^^^ W.getD (16 * r + i) 0 := rfl
      have hx := xor_u8 (s.getD i 0) (W.getD (16 * r + i) 0)
      rw [← hfi] at hx
      have HB1 := Lib.hid (HB.out.step (by omega))
      clear hfi
      generalize s.getD i 0 = x at c1 hx
      generalize W.getD (16 * r + i) 0 = y at c2 hx
      generalize addF W r s i = z at hx HB1
      have bx := x.toNat_lt
      have by' := y.toNat_lt
      go_wp2
      refine wp_region_still_tail 21 (by kernel_rfl) (by kernel_rfl) ?_
      simp only [List.take_succ_cons, List.take_zero, List.drop_succ_cons, List.drop_zero]
      change wpStill _ _ wr.drew (fun a' => wpList _ _ _ _ a' wr.drew) _ _
      repeat still_step
      refine wpStill_nil ?_
      have c1' : wr.drew.cell? ⟨S, i, none⟩ = some (.int .u8 (x.toNat : Int)) := c1
      have hz' : wr.drew.frozen? ⟨S, i, none⟩ = false := hz
      go_wp2
      go_roundw
      case rel => exact ⟨i + 1, by omega, by go_num, HB1.out, HF.out.drew.setCell _ _ (.inl rfl)⟩
      case measure => simp [intOf]; omega
    · have h16 : i = 16 := by omega
      rw [h16] at HB
      clear h16
      go_wp2
      go_end0
      refine ⟨rfl, ?_, HF.out⟩
      have := HB.out
      rwa [upd_all _ _ _ hs] at this
set_option maxRecDepth 20000 in
set_option maxHeartbeats 4000000 in
theorem shift_calls (C : Nat) (W s : List UInt8) (hs : s.length = 16) (w : World) (hC : Cip w C W) :
    Calls Try.prog 75 #[.pointer (some ⟨C, 0, none⟩), .agg (bcells s).toArray] w fun e w' => e = .returned (.agg (bcells (shiftL s)).toArray) ∧ Fr (fun _ => False) w w' := by
  have HC := Lib.hid hC
  go_enter Try.func75, Try.ntmps75
  go_wp2
  obtain ⟨P, hP⟩ : ∃ P, P = w.heap.size := ⟨_, rfl⟩
  have hz : (#[.int .u8 0, .int .u8 0, .int .u8 0, .int .u8 0, .int .u8 0, .int .u8 0, .int .u8 0, .int .u8 0, .int .u8 0, .int .u8 0, .int .u8 0, .int .u8 0, .int .u8 0, .int .u8 0, .int .u8 0, .int .u8 0] : Array Value) = (bcells (List.replicate 16 0)).toArray := rfl
  rw [hz]
  have hA := heap_alloc_new w (.cells (bcells s).toArray 99)
  have hB := heap_alloc_new (w.alloc (.cells (bcells s).toArray 99)) (.cells (bcells (List.replicate 16 0)).toArray 99)
  have hD := heap_alloc_new ((w.alloc (.cells (bcells s).toArray 99)).alloc (.cells (bcells (List.replicate 16 0)).toArray 99)) (.cells (bcells (List.replicate 16 0)).toArray 99)
  have hf : Fr (fun _ => False) w (((w.alloc (.cells (bcells s).toArray 99)).alloc (.cells (bcells (List.replicate 16 0)).toArray 99)).alloc (.cells (bcells (List.replicate 16 0)).toArray 99)) := (((Fr.refl _ _).alloc _).alloc _).alloc _
  have hA2 := (((Fr.refl (fun _ => False) (w.alloc (.cells (bcells s).toArray 99))).alloc (.cells (bcells (List.replicate 16 0)).toArray 99)).alloc (.cells (bcells (List.replicate 16 0)).toArray 99)).heap hA id
  have hB2 := ((Fr.refl (fun _ => False) ((w.alloc (.cells (bcells s).toArray 99)).alloc (.cells (bcells (List.replicate 16 0)).toArray 99))).alloc (.cells (bcells (List.replicate 16 0)).toArray 99)).heap hB id
  simp only [World.size_alloc] at hA2 hB2 hD
  generalize ((w.alloc (.cells (bcells s).toArray 99)).alloc (.cells (bcells (List.replicate 16 0)).toArray 99)).alloc (.cells (bcells (List.replicate 16 0)).toArray 99) = w1 at hA2 hB2 hD hf ⊢
  rw [← hP] at hA2 hB2 hD ⊢
  have HA := Lib.hid hA2
  have HB := Lib.hid hB2
  have HD := Lib.hid hD
  have HF := Lib.hid hf
  have HP := Lib.hid hP
  have hne : C ≠ P := by have := hC.lt; omega
  clear hA hB hA2 hB2 hD hf hP hC hz
  go_loopw [7] (fun v wr => ∃ i : Nat, i ≤ 16 ∧ v = .int .i64 i ∧ Blk wr P s ∧ Blk wr (P + 1) (List.replicate 16 0) ∧ Blk wr (P + 1 + 1) (upd (shiftF s) (List.replicate 16 0) i) ∧ Fr (fun _ => False) w wr) (fun v _ => 16 - (intOf v).toNat)
  case atStart => exact ⟨0, Nat.zero_le _, rfl, HA.out, HB.out, by rw [upd_zero]; exact HD.out, HF.out⟩
  case round =>
    obtain ⟨i, hi, rfl, hA, hB, hD, hf⟩ := hrel
    have HA' := Lib.hid hA
    have HB' := Lib.hid hB
    have HD' := Lib.hid hD
    have HF' := Lib.hid hf
    clear hA hB hD hf HA HB HD HF
    by_cases hlt : i < 16
    · have hj : (i + 4 * (i % 4)) % 16 < s.length := by omega
      have c1 : wr.cell? ⟨P, (((i : Int) + 4 * ((i : Int) % 4)) % 16).toNat, none⟩ = some (.int .u8 ((s.getD ((i + 4 * (i % 4)) % 16) 0).toNat : Int)) := by
        rw [show (((i : Int) + 4 * ((i : Int) % 4)) % 16).toNat = (i + 4 * (i % 4)) % 16 by omega]
        exact bcells_cell HA'.out _ _ (by rw [List.getD_eq_getElem?_getD, List.getElem?_eq_getElem hj]; rfl)
      have hfi : shiftF s i = box (s.getD ((i + 4 * (i % 4)) % 16) 0) := rfl
      have HD1 := Lib.hid (HD'.out.step (by simp; omega))
      have c3 : wr.cell? ⟨P + 1 + 1, i, none⟩ = some (.int .u8 ((0 : UInt8).toNat : Int)) := by
        have := HD'.out.at i (by simp; omega)
        rw [if_neg (by omega)] at this
        rw [this, List.getD_eq_getElem?_getD, List.getElem?_replicate, if_pos hlt]
        rfl
      have hz : wr.frozen? ⟨P + 1 + 1, i, none⟩ = false := frozen_of_row wr _ _ _ _ HD'.out
      rw [hfi] at HD1
      generalize s.getD ((i + 4 * (i % 4)) % 16) 0 = x at c1 HD1
      have c2 := (HC.out.fr HF'.out id).box x
      have bx := x.toNat_lt
      have bx2 : (x.toNat : Int) < 256 := by omega
      have hw2 : IntKind.i64.wrap ((i : Int) % 4) = (i : Int) % 4 := IntWalk.i64_in _ (by omega)
      have hw3 : IntKind.i64.wrap (4 * ((i : Int) % 4)) = 4 * ((i : Int) % 4) := IntWalk.i64_in _ (by omega)
      have hw4 : IntKind.i64.wrap ((i : Int) + 4 * ((i : Int) % 4)) = (i : Int) + 4 * ((i : Int) % 4) := IntWalk.i64_in _ (by omega)
      have hw5 : IntKind.i64.wrap (((i : Int) + 4 * ((i : Int) % 4)) % 16) = ((i : Int) + 4 * ((i : Int) % 4)) % 16 := IntWalk.i64_in _ (by omega)
      have ht1 : (i : Int).tmod 4 = (i : Int) % 4 := Int.tmod_eq_emod_of_nonneg (by omega)
      have ht2 : ((i : Int) + 4 * ((i : Int) % 4)).tmod 16 = ((i : Int) + 4 * ((i : Int) % 4)) % 16 := Int.tmod_eq_emod_of_nonneg (by omega)
      have hb3 : (0 : Int) ≤ ((i : Int) + 4 * ((i : Int) % 4)) % 16 := by omega
      have hb4 : ((i : Int) + 4 * ((i : Int) % 4)) % 16 < 16 := by omega
      clear hj hfi
      go_wp2
      refine wp_region_still_tail 15 (by kernel_rfl) (by kernel_rfl) ?_
      simp only [List.take_succ_cons, List.take_zero, List.drop_succ_cons, List.drop_zero]
      change wpStill _ _ wr.drew (fun a' => wpList _ _ _ _ a' wr.drew) _ _
      repeat still_step
      refine wpStill_nil ?_
      have c3' : wr.drew.cell? ⟨P + 1 + 1, i, none⟩ = some (.int .u8 ((0 : UInt8).toNat : Int)) := c3
      have hz' : wr.drew.frozen? ⟨P + 1 + 1, i, none⟩ = false := hz
      go_wp2
      go_roundw
      case rel =>
        refine ⟨i + 1, by omega, by go_num, ?_, ?_, HD1.out, HF'.out.drew.setCell _ _ (.inr (by have := HP.out; simp; omega))⟩
        · exact (heap_setCell_other _ _ _ _ (by simp; omega)).trans HA'.out
        · exact (heap_setCell_other _ _ _ _ (by simp)).trans HB'.out
      case measure => simp [intOf]; omega
    · have h16 : i = 16 := by omega
      rw [h16] at HD'
      clear h16
      have hu := upd_all (shiftF s) (List.replicate 16 0) 16 (by simp)
      rw [hu] at HD'
      have HL := Lib.hid (show (full (shiftF s) 16).length = 16 from full_length _ _)
      have HDh := Lib.hid (show wr.heap[P + 1 + 1]? = some (.cells (bcells (full (shiftF s) 16)).toArray 99 (0, 0)) from HD'.out)
      have HBh := Lib.hid (show wr.heap[P + 1]? = some (.cells (bcells (List.replicate 16 0)).toArray 99 (0, 0)) from HB'.out)
      go_wp2_with (first
        | (with_reducible refine wpList_load_bytes (op := ⟨some 26, _, _, _, _, _⟩) rfl 99 _ rfl (P + 1 + 1) rfl 99 (full (shiftF s) 16) _ _ HDh.out Try.underlying99 rfl 16 (by kernel_rfl) HL.out ?_)
        | (with_reducible refine wpList_store_bytes (op := ⟨none, .store 99 _ _, _, _, _, _⟩) rfl 99 _ _ rfl (P + 1) rfl 99 _ (full (shiftF s) 16) rfl HBh.out 16 (by kernel_rfl) (by simp) HL.out ?_))
      refine bodyPost_ret (results_cell_row rfl _ _ (P + 1) 99 (bcells (full (shiftF s) 16)).toArray (0, 0) _ rfl (setRow_heap HBh.out) Try.underlying99 rfl (by rw [show (bcells (full (shiftF s) 16)).toArray.size = 16 by simp [bcells_length, full_length]]; kernel_rfl)) rfl ?_
      exact ⟨rfl, HF'.out.setRow _ _ (.inr (by have := HP.out; omega))⟩
set_option maxRecDepth 20000 in
set_option maxHeartbeats 4000000 in
theorem box_calls (b : UInt8) (w : World) : Calls Try.prog 22 #[.int .u8 (b.toNat : Int)] w fun e w' => e = .returned (.int .u8 ((box b).toNat : Int)) ∧ Fr (fun _ => False) w w' := by
  go_enter Try.func22, Try.ntmps22
  go_wp2_with fail
  refine (boxes_calls _).mono ?_
  rintro e w1 ⟨rfl, hf⟩
  have HF := Lib.hid hf
  clear hf
  have HZ := Lib.hid (show Try.zeroCells89.size = (bcells boxT).toArray.size by rw [zero89]; simp [bcells_length, boxT_length])
  have HI := Lib.hid (show (Try.prog.info? 89).map (·.size) = some (bcells boxT).toArray.size by rw [show (bcells boxT).toArray.size = 256 by simp [bcells_length, boxT_length]]; kernel_rfl)
  have H1 := Lib.hid (show ∀ v ∈ (bcells boxT).toArray.toList, v.oneCell' = true by simpa using bcells_one boxT)
  have hb := b.toNat_lt
  have hN : (w1.alloc (.cells (bcells boxT).toArray 89)).cell? ⟨w1.heap.size, b.toNat, none⟩ = some (.int .u8 ((box b).toNat : Int)) := bcells_cell (heap_alloc_new w1 _) _ _ (boxT_get b)
  go_wp2_with (with_reducible refine wpList_store_fresh (op := ⟨none, .store 89 _ _, _, _, _, _⟩) rfl 89 _ _ rfl w1 Try.zeroCells89 (bcells boxT).toArray rfl rfl rfl HZ.out HI.out H1.out ?_)
  have HF2 := Lib.hid (HF.out.alloc (.cells (bcells boxT).toArray 89))
  go_ret
  exact ⟨rfl, HF2.out⟩
end Go.Proofs.Ytcchhfkmhbjdmaa
