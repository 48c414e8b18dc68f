/- ValueNests: lists of one and of two, as the law builds them; what strings do. -/
import Derived.Test.YthmpmpepokeedaaNzc
import Derived.Test.YthmpmpepokeedaaNz
import Derived.Test.YthmpmpepokeedaaNd
set_option linter.unusedVariables false
set_option linter.unusedSimpArgs false
namespace Go.Proofs.Ythmpmpepokeedaa
open Go.RowKit
theorem ar_one {w : World} {D : Nat → Prop} {X : AV} {v : Value} (h : AR w D X v) : AR (w.alloc (.cells #[v] 20)) (fun i => D i ∨ w.heap.size ≤ i) (.row [X]) (.iface 58 (.slice (some ⟨w.heap.size, 0, none⟩) 1 1)) := by
  have hb := heap_alloc_new w (.cells #[v] 20)
  refine .row [X] w.heap.size 1 (fun _ => v) (by simp) (by decide) (.inr (Nat.le_refl _)) (by simp) (fun i a hi => ?_) (fun i a hi => ?_)
  · have : i = 0 := by have := (List.getElem?_eq_some_iff.1 hi).1; simp at this; omega
    subst this
    exact (cell_of_row _ _ 0 _ _ _ hb).trans rfl
  · have : i = 0 := by have := (List.getElem?_eq_some_iff.1 hi).1; simp at this; omega
    subst this
    simp at hi; subst hi
    exact (h.frF ((Fr.refl _ _).alloc _)).mono (fun i hi => .inl hi)
theorem ar_two {w : World} {D E : Nat → Prop} {X Y : AV} {v v2 : Value} (h : AR w D X v) (h2 : AR w E Y v2) : AR (w.alloc (.cells #[v, v2] 20)) (fun i => (D i ∨ E i) ∨ w.heap.size ≤ i) (.row [X, Y]) (.iface 58 (.slice (some ⟨w.heap.size, 0, none⟩) 2 2)) := by
  have hb := heap_alloc_new w (.cells #[v, v2] 20)
  refine .row [X, Y] w.heap.size 2 (fun i => if i = 0 then v else v2) (by simp) (by decide) (.inr (Nat.le_refl _)) (by simp) (fun i a hi => ?_) (fun i a hi => ?_)
  · have : i = 0 ∨ i = 1 := by have := (List.getElem?_eq_some_iff.1 hi).1; simp at this; omega
    rcases this with rfl | rfl
    · exact (cell_of_row _ _ 0 _ _ _ hb).trans rfl
    · exact (cell_of_row _ _ 1 _ _ _ hb).trans rfl
  · have : i = 0 ∨ i = 1 := by have := (List.getElem?_eq_some_iff.1 hi).1; simp at this; omega
    rcases this with rfl | rfl
    · simp at hi; subst hi
      exact (h.frF ((Fr.refl _ _).alloc _)).mono (fun i hi => .inl (.inl hi))
    · simp at hi; subst hi
      exact (h2.frF ((Fr.refl _ _).alloc _)).mono (fun i hi => .inl (.inr hi))
theorem buildA2 (v v2 : Value) (hv : v.oneCell' = true) (hv2 : v2.oneCell' = true) (w : World) : (Instr.buildSlice 58 2 #[(0, v), (1, v2)]).run Try.prog w = .ok (.slice (some ⟨w.heap.size, 0, none⟩) 2 2) (w.alloc (.cells #[v, v2] 20)) := by
  obtain ⟨i0, hi, hz0, hz1, hz2⟩ := info_parts infoAny
  have hc : v.cells = #[v] := by cases v <;> first | rfl | cases hv
  have hc2 : v2.cells = #[v2] := by cases v2 <;> first | rfl | cases hv2
  have hr : Array.range 2 = #[0, 1] := by decide +kernel
  simp [Instr.buildSlice, run_underlying Try.underlying58, sizeOf, typeInfo, zeroValue, hi, hz0, hz1, Instr.fill, newRow, newObj, hc, hc2, hr]
  rfl
theorem op_buildA2 {op : Oper} {a : Act} {w : World} {Q : Exit → Act → World → Prop} {K : Act → World → Prop} (x y : Operand) (ho : op.op = .buildSlice 58 2 #[(0, x), (1, y)]) (v v2 : Value) (hx : a.eval x = v) (hy : a.eval y = v2) (hv : v.oneCell' = true) (hv2 : v2.oneCell' = true)
    (h : K (a.put op.dst (.slice (some ⟨w.heap.size, 0, none⟩) 2 2)) (w.alloc (.cells #[v, v2] 20))) : op.wp Try.prog a w K Q := by
  unfold Oper.wp execOp
  simp only [ho]
  rw [show (#[(0, x), (1, y)] : Array (Nat × Operand)).map (fun p => (p.1, a.eval p.2)) = #[(0, v), (1, v2)] by simp [hx, hy]]
  simp only [Sem.run_bind, buildA2 v v2 hv hv2, Result.andThen_ok]
  exact h
theorem str_drop2 (a b : UInt8) (l : List UInt8) : (str (a :: b :: l)).extract 2 (a :: b :: l).length = str l := by
  apply ByteArray.ext
  simp [str]
theorem str_take2 (a b : UInt8) (l : List UInt8) : (str (a :: b :: l)).extract 0 2 = str [a, b] := by
  apply ByteArray.ext
  simp [str]
end Go.Proofs.Ythmpmpepokeedaa
