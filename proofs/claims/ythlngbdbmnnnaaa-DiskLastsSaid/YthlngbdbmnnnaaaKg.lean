/- Image, Arm, Start, New. -/
import Derived.Test.YthlngbdbmnnnaaaKf
set_option linter.unusedVariables false
set_option linter.unusedSimpArgs false
namespace Go.Proofs.Ythlngbdbmnnnaaa
open Go.RowKit
theorem image_any {F : Nat → Prop} {w : World} {g : Nat} {D : Dk} (hR : DRep F w g D) :
    Calls Try.prog 15 #[.pointer (some ⟨g, 0, none⟩)] w fun e w' => e = .returned (.string (str D.lasts)) ∧ w = w' := by
  obtain ⟨gl, wv, hg, hl, -⟩ := hR.ex
  have h0 := (dcells hg).c0
  have hcv := run_convert_str (P := Try.prog) w 43 5 Try.underlying43 Try.underlying5 gl 0 (64 * D.n) (64 * D.n) D.lasts hR.len (fun j v hj => by
    rw [Nat.zero_add, cell_of_row w gl j _ _ _ hl]; simpa using hj) 9 Try.underlying9
  clear hg hl hR
  go_enter Try.func15, Try.ntmps15
  go_wp2
  go_ret
  exact ⟨rfl, rfl⟩
theorem start_any {F : Nat → Prop} {w : World} {g : Nat} {D : Dk} (hR : DRep F w g D) :
    Calls Try.prog 25 #[.pointer (some ⟨g, 0, none⟩)] w (Left F w g D.start (.tuple #[])) := by
  obtain ⟨gl, wv, hg, -, -, hFg, -, -⟩ := hR.ex
  have h6 := (dcells hg).c6
  have hz : w.frozen? ⟨g, 6, none⟩ = false := frozen_of_row w g 6 _ _ hg
  have HR := Lib.hid hR
  have HF := Lib.hid hFg
  clear hg hR hFg
  go_enter Try.func25, Try.ntmps25
  go_wp2
  go_end0
  refine ⟨rfl, F, fun i hi => .inl hi, (Fr.refl _ _).setCell _ _ (.inl HF.out), HR.out.put D.start rfl rfl rfl HR.out.cnt ?_ ?_⟩
  · repeat first | with_reducible exact Fr.refl _ _ | refine Fr.setCell ?_ _ _ (.inl rfl)
  intro lv wv hg
  rw [heap_setCell_same _ g 6 _ 85 _ hg]; rfl
theorem arm_lo {F : Nat → Prop} {w : World} {g : Nat} {D : Dk} (hR : DRep F w g D) (a k t : Int) (ha : a < 1) :
    Calls Try.prog 22 #[.pointer (some ⟨g, 0, none⟩), .agg #[.int .i64 a, .int .u64 k, .int .i64 t]] w (Left F w g (D.arm a k t) (.tuple #[])) := by
  obtain ⟨gl, wv, hg, -, -, hFg, -, -⟩ := hR.ex
  have hlt := lt_of_heap hg
  have h2 := (dcells hg).c2
  have h3 := (dcells hg).c3
  have h4 := (dcells hg).c4
  have h5 := (dcells hg).c5
  have hz2 : w.frozen? ⟨g, 2, none⟩ = false := frozen_of_row w g 2 _ _ hg
  have hz3 : w.frozen? ⟨g, 3, none⟩ = false := frozen_of_row w g 3 _ _ hg
  have hz4 : w.frozen? ⟨g, 4, none⟩ = false := frozen_of_row w g 4 _ _ hg
  have hz5 : w.frozen? ⟨g, 5, none⟩ = false := frozen_of_row w g 5 _ _ hg
  have HR := Lib.hid hR
  have HF := Lib.hid hFg
  have HC := Lib.hid hR.cnt
  clear hg hR hFg
  have HA := Lib.hid (show D.arm a k t = { D with cutAt := 0, keep := 0, torn := 0, count := 0 } by unfold Dk.arm; rw [if_pos ha])
  go_enter Try.func22, Try.ntmps22
  go_wp2
  go_end0
  rw [HA.out]
  refine ⟨rfl, F, fun i hi => .inl hi, ?_, (HR.out.put { D with cutAt := 0, keep := 0, torn := 0, count := 0 } rfl rfl rfl (Int.le_refl 0) ?_ ?_).fr ((Fr.refl (fun _ => False) _).alloc _) (fun i _ => id)⟩
  · refine Fr.alloc ?_ _
    repeat first | with_reducible exact Fr.refl _ _ | refine Fr.setCell ?_ _ _ (.inl HF.out)
  · repeat first | with_reducible exact Fr.refl _ _ | refine Fr.setCell ?_ _ _ (.inl rfl)
  intro lv wv hg
  have e := heap_setCell_same _ g 4 _ 85 (.int .i64 0) (heap_setCell_same _ g 3 _ 85 (.int .u64 0) (heap_setCell_same _ g 2 _ 85 (.int .i64 0) (heap_setCell_same _ g 5 _ 85 (.int .i64 0) (heap_setCell_same _ g 4 _ 85 (.int .i64 t) (heap_setCell_same _ g 3 _ 85 (.int .u64 k) (heap_setCell_same _ g 2 _ 85 (.int .i64 a) hg))))))
  rw [e]; rfl
theorem arm_hi {F : Nat → Prop} {w : World} {g : Nat} {D : Dk} (hR : DRep F w g D) (a k t : Int) (ha : ¬ a < 1) :
    Calls Try.prog 22 #[.pointer (some ⟨g, 0, none⟩), .agg #[.int .i64 a, .int .u64 k, .int .i64 t]] w (Left F w g (D.arm a k t) (.tuple #[])) := by
  obtain ⟨gl, wv, hg, -, -, hFg, -, -⟩ := hR.ex
  have hlt := lt_of_heap hg
  have h2 := (dcells hg).c2
  have h3 := (dcells hg).c3
  have h4 := (dcells hg).c4
  have h5 := (dcells hg).c5
  have hz2 : w.frozen? ⟨g, 2, none⟩ = false := frozen_of_row w g 2 _ _ hg
  have hz3 : w.frozen? ⟨g, 3, none⟩ = false := frozen_of_row w g 3 _ _ hg
  have hz4 : w.frozen? ⟨g, 4, none⟩ = false := frozen_of_row w g 4 _ _ hg
  have hz5 : w.frozen? ⟨g, 5, none⟩ = false := frozen_of_row w g 5 _ _ hg
  have HR := Lib.hid hR
  have HF := Lib.hid hFg
  have HC := Lib.hid hR.cnt
  clear hg hR hFg
  have HA := Lib.hid (show D.arm a k t = { D with cutAt := a, keep := k, torn := t, count := 0 } by unfold Dk.arm; rw [if_neg ha])
  go_enter Try.func22, Try.ntmps22
  go_wp2
  go_end0
  rw [HA.out]
  refine ⟨rfl, F, fun i hi => .inl hi, ?_, (HR.out.put { D with cutAt := a, keep := k, torn := t, count := 0 } rfl rfl rfl (Int.le_refl 0) ?_ ?_).fr ((Fr.refl (fun _ => False) _).alloc _) (fun i _ => id)⟩
  · refine Fr.alloc ?_ _
    repeat first | with_reducible exact Fr.refl _ _ | refine Fr.setCell ?_ _ _ (.inl HF.out)
  · repeat first | with_reducible exact Fr.refl _ _ | refine Fr.setCell ?_ _ _ (.inl rfl)
  intro lv wv hg
  have e := heap_setCell_same _ g 5 _ 85 (.int .i64 0) (heap_setCell_same _ g 4 _ 85 (.int .i64 t) (heap_setCell_same _ g 3 _ 85 (.int .u64 k) (heap_setCell_same _ g 2 _ 85 (.int .i64 a) hg)))
  rw [e]; rfl
theorem arm_any {F : Nat → Prop} {w : World} {g : Nat} {D : Dk} (hR : DRep F w g D) (a k t : Int) :
    Calls Try.prog 22 #[.pointer (some ⟨g, 0, none⟩), .agg #[.int .i64 a, .int .u64 k, .int .i64 t]] w (Left F w g (D.arm a k t) (.tuple #[])) := by
  by_cases ha : a < 1
  · exact arm_lo hR a k t ha
  · exact arm_hi hR a k t ha
theorem made_bytes (n : Nat) : madeCells #[.int .u8 0] n = (bcells (List.replicate n 0)).toArray := by
  rw [← Array.toArray_toList (xs := madeCells _ _), toList_madeCells_one]
  simp [bcells]
theorem new_no (n : Int) (w : World) (h : n < 1 ∨ 4096 < n) :
    Calls Try.prog 12 #[.int .i64 n] w fun e w' => e = .returned (.tuple #[.pointer none, .int .i64 1]) ∧ w = w' := by
  rcases h with h | h
  · go_enter Try.func12, Try.ntmps12
    go_wp2
    go_ret2
    exact ⟨rfl, rfl⟩
  · have h' : ¬ n < 1 := by omega
    go_enter Try.func12, Try.ntmps12
    go_wp2
    go_ret2
    exact ⟨rfl, rfl⟩
set_option maxRecDepth 20000 in
theorem new_yes (n : Nat) (w : World) (h0 : 1 ≤ n) (h1 : n ≤ 4096) :
    Calls Try.prog 12 #[.int .i64 n] w fun e w' => e = .returned (.tuple #[.pointer (some ⟨w.heap.size + 1, 0, none⟩), .int .i64 0]) ∧ Fr (fun _ => False) w w' ∧ DRep (fun i => i = w.heap.size ∨ i = w.heap.size + 1) w' (w.heap.size + 1) (Dk.new n) := by
  have hmk := run_make_row' (P := Try.prog) 43 5 (.int .u8 0) 1 Try.underlying43 (by kernel_rfl) rfl .i64 .i64 (n * 64) (by omega) (by omega) w
  rw [show (((n * 64 : Nat)) : Int) = (n : Int) * 64 by omega] at hmk
  go_enter Try.func12, Try.ntmps12
  go_wp2
  go_ret2
  have h64 : n * 64 = 64 * n := Nat.mul_comm _ _
  refine ⟨rfl, ((Fr.refl _ _).alloc _).alloc _, ⟨⟨w.heap.size, .slice none 0 0, ?_, ?_, own_nil _, .inr rfl, .inl rfl, fun k hk => by simp [Value.ownBlock] at hk⟩, by simp [Dk.new], h1, fun x hx => (by cases hx), Int.le_refl 0, fun i hi => ?_⟩⟩
  · have := heap_alloc_new (w.alloc (.cells (madeCells #[.int .u8 0] (n * 64)) 5)) (.cells #[.slice (some ⟨w.heap.size, 0, none⟩) (n * 64) (n * 64), .slice none 0 0, .int .i64 0, .int .u64 0, .int .i64 0, .int .i64 0, .bool false] 85)
    rw [World.size_alloc] at this
    rw [this, h64]; rfl
  · rw [Below.heap_alloc _ _ _ (by simp), heap_alloc_new, h64]
    simp only [Dk.new]
    rw [made_bytes]
  · simp; omega
end Go.Proofs.Ythlngbdbmnnnaaa
