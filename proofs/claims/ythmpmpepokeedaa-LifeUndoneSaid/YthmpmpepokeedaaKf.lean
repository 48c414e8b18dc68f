/- LifeUndone: the row. -/
import Derived.Test.YthmpmpepokeedaaRows
import Derived.Test.YthmpmpepokeedaaL3
import Derived.Test.YthmpmpepokeedaaKe
set_option linter.unusedVariables false
set_option linter.unusedSimpArgs false
namespace Go.Proofs.Ythmpmpepokeedaa
open Go.ChangeShapes Go.WideShapes Go.ChangeAt Go.RowKit
def lifeCells (c : Int × Int × Int × Int) : List Value := [.int .i64 c.1, .int .i64 c.2.1, .int .i64 c.2.2.1, .int .i64 c.2.2.2]
set_option maxRecDepth 20000 in
theorem flat23 {H : Type} {enc : TypeId × Value → H} {w : World} : Flat enc Try.prog w 23 lifeCells (fun c => True) := fun base spare held fuel cs x h => by
  have hl := struct_len Try.underlying23 h
  rw [show Try.prog.cellsOf 23 = 4 by kernel_rfl] at hl
  obtain ⟨a, h0, _⟩ := flat_field Try.underlying23 h 0 0 3 1 rfl (by kernel_rfl) (flat_int Try.underlying3)
  obtain ⟨b, h1, _⟩ := flat_field Try.underlying23 h 1 1 3 1 rfl (by kernel_rfl) (flat_int Try.underlying3)
  obtain ⟨c, h2, _⟩ := flat_field Try.underlying23 h 2 2 3 1 rfl (by kernel_rfl) (flat_int Try.underlying3)
  obtain ⟨d, h3, _⟩ := flat_field Try.underlying23 h 3 3 3 1 rfl (by kernel_rfl) (flat_int Try.underlying3)
  match cs, hl with
  | [c0, c1, c2, c3], _ =>
    simp at h0 h1 h2 h3
    subst h0; subst h1; subst h2; subst h3
    exact ⟨(a, b, c, d), rfl, trivial⟩
namespace lifeUndone
set_option maxRecDepth 100000 in
theorem lifted (os : Os) (started : os.Started) (H : Type) (enc : TypeId × Value → H) :
    ReturnsInHanded {} Try.checked os 3 .any (Rows.lifeUndoneSpec.pre6 enc Try.prog Try.f3 Rows.lifeUndoneRow.domain false) (Rows.lifeUndoneSpec.post enc Try.prog Try.f3 false true false false) := by
  refine returnsInHanded_of_change_sized (C := Try.checked) own started (by kernel_rfl) Try.func3
    (ChangeSpec.witness6 (enc := enc) (C := Try.checked) false ⟨#[], #[.agg #[.int .i64 0, .int .i64 0, .int .i64 0, .int .i64 0], .int .i64 0, .int .i64 0], []⟩ 8 (by kernel_rfl) (by kernel_rfl) (by kernel_rfl) (by kernel_rfl)) ?_
  intro W base args ds gs before hval0 hW hcnd hsz0 _
  have hval : ∀ (j : Nat) t v, Try.f3.params[j]? = some t → args[j]? = some v → Value.okWide Try.prog W .any base t v := hval0
  have hW' := hW
  obtain ⟨p, q, hA0, hV, rfl, hfz, hnd⟩ := hW
  have hA : DataW.TrodAll enc Try.prog W 0 (fun _ => true) true Try.f3.params.toList args.toList ds p := hA0
  rw [Try.params3] at hA hval
  obtain ⟨v0, vs0, d0, ds0, p0, q0, hargs, rfl, rfl, h0, r0⟩ := trodAll_cons hA
  obtain ⟨v1, vs1, d1, ds1, p1, q1, rfl, rfl, rfl, h1, r1⟩ := trodAll_cons r0
  obtain ⟨v2, vs2, d2, ds2, p2, q2, rfl, rfl, rfl, h2, r2⟩ := trodAll_cons r1
  obtain ⟨rfl, rfl, rfl⟩ := trodAll_nil r2
  obtain rfl : args = #[v0, v1, v2] := by cases args; simp_all
  obtain ⟨rfl, rfl⟩ := trodVars_none hV
  have k0 := h0
  have k1 := h1
  have k2 := h2
  have lt0 : ∀ x ∈ p0, x.block < W.heap.size := by obtain ⟨m, hm⟩ := k0; exact DataW.trod_lt m _ _ _ hm
  have lt1 : ∀ x ∈ p1, x.block < W.heap.size := by obtain ⟨m, hm⟩ := k1; exact DataW.trod_lt m _ _ _ hm
  have lt2 : ∀ x ∈ p2, x.block < W.heap.size := by obtain ⟨m, hm⟩ := k2; exact DataW.trod_lt m _ _ _ hm
  obtain ⟨c0, rfl, hc0⟩ := okWide_struct Try.underlying23 (hval 0 23 v0 rfl rfl)
  obtain ⟨f0, hf0⟩ := h0
  obtain ⟨⟨st, dl, ex, vs⟩, hcs, _⟩ := flat23 _ _ _ _ _ _ hf0
  obtain ⟨n, rfl, _, _, w1⟩ := open_int Try.underlying3 (hval 1 3 v1 rfl rfl) h1
  obtain ⟨now, rfl, _, _, w2⟩ := open_int Try.underlying3 (hval 2 3 v2 rfl rfl) h2
  obtain rfl : c0 = #[.int .i64 st, .int .i64 dl, .int .i64 ex, .int .i64 vs] := by
    have : c0.toList = [.int .i64 st, .int .i64 dl, .int .i64 ex, .int .i64 vs] := hcs
    rw [← Array.toArray_toList (xs := c0), this]
  clear hA0 hval0 hsz0
  refine (undone_walk st dl ex vs n now W).mono fun e W' ⟨he, hfr⟩ => ?_
  have bel := hfr.toBelow
  subst he
  exact ⟨_, rfl, _, _, _, [], _, [], hW', trodAll_mk1 (shut_bool Try.underlying4 _), (trodAll_cons_mk (Below.trod laidOut (by kernel_rfl) (of_decide_eq_true (by kernel_rfl)) k0 bel lt0) (trodAll_cons_mk (Below.trod laidOut (by kernel_rfl) (of_decide_eq_true (by kernel_rfl)) k1 bel lt1) (trodAll_cons_mk (Below.trod laidOut (by kernel_rfl) (of_decide_eq_true (by kernel_rfl)) k2 bel lt2) trodAll_mk0))), rfl, bel.frame _, fun h => by cases h⟩
theorem over : Rows.lifeUndoneRow.holds Try.pinned (OpenSpec.ofChange Rows.lifeUndoneSpec) :=
  OpenClaim.holds_of_wide 3 Try.f3 rfl rfl rfl rfl rfl rfl rfl ⟨rfl, rfl, rfl, rfl, rfl⟩ rfl rfl rfl rfl rfl (by kernel_rfl) Try.func3 (by kernel_rfl)
    (of_decide_eq_true (by kernel_rfl)) (by unfold Func.isWrapper; first | (rw [if_pos (by decide +kernel)]; kernel_rfl) | (rw [if_neg (by decide +kernel)]; exact ⟨rfl, rfl⟩))
    (fun os started H enc _ => lifted os started H enc)
theorem proved : Rows.LifeUndoneSaid := over
end lifeUndone
/-- The row, under a short name, for the claim. -/
theorem lifeUndone_holds : Rows.LifeUndoneSaid := lifeUndone.proved
#print axioms lifeUndone_holds
end Go.Proofs.Ythmpmpepokeedaa
