/- DiskCounts: for every cut and every row of yes and no the law answers true. -/
import Derived.Test.YthlngbdbmnnnaaaRows
import Derived.Test.YthlngbdbmnnnaaaKk
set_option linter.unusedVariables false
set_option linter.unusedSimpArgs false
namespace Go.Proofs.Ythlngbdbmnnnaaa
open Go.ChangeShapes Go.WideShapes Go.ChangeAt Go.RowKit
set_option maxRecDepth 20000 in
theorem counts_long (a k t : Int) (A : Option Addr) (n cap : Nat) (w : World) (hm : 60 < n) :
    Calls Try.prog 6 #[.agg #[.int .i64 a, .int .u64 k, .int .i64 t], .slice A n cap] w fun e w' => e = .returned (.bool true) ∧ Fr (fun _ => False) w w' := by
  go_enter Try.func6, Try.ntmps6
  go_wp2_with fail
  refine (awake_true _).mono ?_
  rintro e w2 ⟨rfl, hf⟩
  have HF := Lib.hid (((Fr.refl (fun _ => False) w).alloc _).trans hf (fun i hi => hi.elim))
  clear hf
  go_wp2
  go_ret
  exact ⟨rfl, HF.out⟩
def cutCells (c : Int × Int × Int) : List Value := [.int .i64 c.1, .int .u64 c.2.1, .int .i64 c.2.2]
set_option maxRecDepth 20000 in
theorem flat31 {H : Type} {enc : TypeId × Value → H} {w : World} : Flat enc Try.prog w 31 cutCells (fun c => (Lit.int .i64 c.1).wf = true ∧ (Lit.int .u64 c.2.1).wf = true ∧ (Lit.int .i64 c.2.2).wf = true) := fun base spare held fuel cs x h => by
  have hl := struct_len Try.underlying31 h
  rw [show Try.prog.cellsOf 31 = 3 by kernel_rfl] at hl
  obtain ⟨a, h0, w0⟩ := flat_field Try.underlying31 h 0 0 3 1 rfl (by kernel_rfl) (flat_int Try.underlying3)
  obtain ⟨k, h1, w1⟩ := flat_field Try.underlying31 h 1 1 23 1 rfl (by kernel_rfl) (flat_int Try.underlying23)
  obtain ⟨t, h2, w2⟩ := flat_field Try.underlying31 h 2 2 3 1 rfl (by kernel_rfl) (flat_int Try.underlying3)
  match cs, hl with
  | [c0, c1, c2], _ =>
    simp at h0 h1 h2
    subst h0; subst h1; subst h2
    exact ⟨(a, k, t), rfl, w0, w1, w2⟩
theorem own : ownKnob Try.prog.godebug = none := by kernel_rfl
theorem laidOut : laidOutB Try.prog = true := by kernel_rfl
theorem Fr.toBelow {w w' : World} (h : Fr (fun _ => False) w w') : Below w.heap.size w w' := h.below (Nat.le_refl _) (fun _ _ => id)
namespace diskCounts
set_option maxRecDepth 100000 in
theorem lifted (os : Os) (started : os.Started) (H : Type) (enc : TypeId × Value → H) :
    ReturnsInHanded {} Try.checked os 6 .any (Rows.diskCountsSpec.pre6 enc Try.prog Try.f6 Rows.diskCountsRow.domain false) (Rows.diskCountsSpec.post enc Try.prog Try.f6 false true false false) := by
  refine returnsInHanded_of_change_sized (C := Try.checked) own started (by kernel_rfl) Try.func6
    (ChangeSpec.witness6 (enc := enc) (C := Try.checked) false ⟨#[], #[.agg #[.int .i64 0, .int .u64 0, .int .i64 0], .slice none 0 0], []⟩ 8 (by kernel_rfl) (by kernel_rfl) (by kernel_rfl) (by kernel_rfl)) ?_
  intro W base args ds gs before hval0 hW hcnd hsz0 _
  have hval : ∀ (j : Nat) t v, Try.f6.params[j]? = some t → args[j]? = some v → Value.okWide Try.prog W .any base t v := hval0
  have hW' := hW
  obtain ⟨p, q, hA0, hV, rfl, hfz, hnd⟩ := hW
  have hA : DataW.TrodAll enc Try.prog W 0 (fun _ => true) true Try.f6.params.toList args.toList ds p := hA0
  rw [Try.params6] at hA hval
  obtain ⟨v0, vs0, d0, ds0, p0, q0, hargs, rfl, rfl, h0, r0⟩ := trodAll_cons hA
  obtain ⟨v1, vs1, d1, ds1, p1, q1, rfl, rfl, rfl, h1, r1⟩ := trodAll_cons r0
  obtain ⟨rfl, rfl, rfl⟩ := trodAll_nil r1
  obtain rfl : args = #[v0, v1] := by cases args; simp_all
  obtain ⟨rfl, rfl⟩ := trodVars_none hV
  obtain ⟨c0, rfl, hc0⟩ := okWide_struct Try.underlying31 (hval 0 31 v0 rfl rfl)
  obtain ⟨a1, len1, cap1, rfl⟩ := okWide_slice Try.underlying61 (hval 1 61 v1 rfl rfl)
  have k0 := h0
  have k1 := h1
  have lt0 : ∀ x ∈ p0, x.block < W.heap.size := by obtain ⟨m, hm⟩ := k0; exact DataW.trod_lt m _ _ _ hm
  have lt1 : ∀ x ∈ p1, x.block < W.heap.size := by obtain ⟨m, hm⟩ := k1; exact DataW.trod_lt m _ _ _ hm
  obtain ⟨f0, hf0⟩ := h0
  obtain ⟨⟨a, k, t⟩, hc, w0, w1, w2⟩ := flat31 _ _ _ _ _ _ hf0
  obtain rfl : c0 = #[.int .i64 a, .int .u64 k, .int .i64 t] := by
    have : c0.toList = [.int .i64 a, .int .u64 k, .int .i64 t] := hc
    rw [← Array.toArray_toList (xs := c0), this]
  obtain ⟨l, hl, _, _, hr, _⟩ := slice_open Try.underlying61 (flat_bool Try.underlying4) (by rw [show Try.prog.cellsOf 4 = 1 by kernel_rfl]; omega) h1
  rw [show Try.prog.cellsOf 4 = 1 by kernel_rfl] at hr
  clear hA0 hval0 hsz0
  have hgo : Calls Try.prog 6 #[.agg #[.int .i64 a, .int .u64 k, .int .i64 t], .slice a1 len1 cap1] W fun e w' => e = .returned (.bool true) ∧ Fr (fun _ => False) W w' := by
    by_cases hm : len1 ≤ 60
    · subst hl
      exact counts_walk a k t (bounds_u64 w1).1 (bounds_u64 w1).2 a1 l cap1 W hr hm
    · exact counts_long a k t a1 len1 cap1 W (by omega)
  refine hgo.mono fun e W' ⟨he, hfr⟩ => ?_
  have bel := hfr.toBelow
  subst he
  exact ⟨_, rfl, _, _, _, [], _, [], hW', trodAll_mk1 (shut_bool Try.underlying4 _), (trodAll_cons_mk (Below.trod laidOut (by kernel_rfl) (of_decide_eq_true (by kernel_rfl)) k0 bel lt0) (trodAll_cons_mk (Below.trod laidOut (by kernel_rfl) (of_decide_eq_true (by kernel_rfl)) k1 bel lt1) trodAll_mk0)), rfl, bel.frame _, fun h => by cases h⟩
theorem over : Rows.diskCountsRow.holds Try.pinned (OpenSpec.ofChange Rows.diskCountsSpec) :=
  OpenClaim.holds_of_wide 6 Try.f6 rfl rfl rfl rfl rfl rfl rfl ⟨rfl, rfl, rfl, rfl, rfl⟩ rfl rfl rfl rfl rfl (by kernel_rfl) Try.func6 (by kernel_rfl)
    (of_decide_eq_true (by kernel_rfl)) (by unfold Func.isWrapper; first | (rw [if_pos (by decide +kernel)]; kernel_rfl) | (rw [if_neg (by decide +kernel)]; exact ⟨rfl, rfl⟩))
    (fun os started H enc _ => lifted os started H enc)
theorem proved : Rows.DiskCountsSaid := over
end diskCounts
/-- The row, under a short name, for the claim. -/
theorem diskCounts_holds : Rows.DiskCountsSaid := diskCounts.proved
#print axioms diskCounts_holds
end Go.Proofs.Ythlngbdbmnnnaaa
