/- RingTells: the row. -/
import Derived.Test.YtcchhfkmhbjdmaaRows
import Derived.Test.YtcchhfkmhbjdmaaPm1
import Derived.Test.YtcchhfkmhbjdmaaPr6
set_option linter.unusedVariables false
set_option linter.unusedSimpArgs false
namespace Go.Proofs.Ytcchhfkmhbjdmaa
open Go.ChangeShapes Go.WideShapes Go.ChangeAt Go.RowKit
def askCells (x : Int × Int × Int × ByteArray × ByteArray × ByteArray × ByteArray × ByteArray) : List Value := [.int .i64 x.1, .int .i64 x.2.1, .int .i64 x.2.2.1, .string x.2.2.2.1, .string x.2.2.2.2.1, .string x.2.2.2.2.2.1, .string x.2.2.2.2.2.2.1, .string x.2.2.2.2.2.2.2]
set_option maxRecDepth 20000 in
theorem flat69 {H : Type} {enc : TypeId × Value → H} {w : World} : Flat enc Try.prog w 69 askCells (fun _ => True) := fun base spare held fuel cs x h => by
  have hl := struct_len Try.underlying69 h
  rw [show Try.prog.cellsOf 69 = 8 by kernel_rfl] at hl
  obtain ⟨n, h0, w0⟩ := flat_field Try.underlying69 h 0 0 3 1 rfl (by kernel_rfl) (flat_int Try.underlying3)
  obtain ⟨m, h1, w1⟩ := flat_field Try.underlying69 h 1 1 3 1 rfl (by kernel_rfl) (flat_int Try.underlying3)
  obtain ⟨v, h2, w2⟩ := flat_field Try.underlying69 h 2 2 3 1 rfl (by kernel_rfl) (flat_int Try.underlying3)
  obtain ⟨D, h3, w3⟩ := flat_field Try.underlying69 h 3 3 9 1 rfl (by kernel_rfl) (flat_string Try.underlying9)
  obtain ⟨O, h4, w4⟩ := flat_field Try.underlying69 h 4 4 9 1 rfl (by kernel_rfl) (flat_string Try.underlying9)
  obtain ⟨I, h5, w5⟩ := flat_field Try.underlying69 h 5 5 9 1 rfl (by kernel_rfl) (flat_string Try.underlying9)
  obtain ⟨W, h6, w6⟩ := flat_field Try.underlying69 h 6 6 9 1 rfl (by kernel_rfl) (flat_string Try.underlying9)
  obtain ⟨X, h7, w7⟩ := flat_field Try.underlying69 h 7 7 9 1 rfl (by kernel_rfl) (flat_string Try.underlying9)
  match cs, hl with
  | [c0, c1, c2, c3, c4, c5, c6, c7], _ =>
    simp at h0 h1 h2 h3 h4 h5 h6 h7
    subst h0; subst h1; subst h2; subst h3; subst h4; subst h5; subst h6; subst h7
    exact ⟨(n, m, v, D, O, I, W, X), rfl, trivial⟩
namespace ringTells
set_option maxRecDepth 100000 in
theorem lifted (os : Os) (started : os.Started) (H : Type) (enc : TypeId × Value → H) :
    ReturnsInHanded {} Try.checked os 15 .any (Rows.ringTellsSpec.pre6 enc Try.prog Try.f15 Rows.ringTellsRow.domain false) (Rows.ringTellsSpec.post enc Try.prog Try.f15 false true false false) := by
  refine returnsInHanded_of_change_sized (C := Try.checked) own started (by kernel_rfl) Try.func15
    (ChangeSpec.witness6 (enc := enc) (C := Try.checked) false ⟨#[], #[.string ⟨#[]⟩, .agg #[.int .i64 0, .int .i64 0, .int .i64 0, .string ⟨#[]⟩, .string ⟨#[]⟩, .string ⟨#[]⟩, .string ⟨#[]⟩, .string ⟨#[]⟩]], []⟩ 8 (by kernel_rfl) (by kernel_rfl) (by kernel_rfl) (by kernel_rfl)) ?_
  intro W base args ds gs before hval0 hW hcnd hsz0 _
  have hval : ∀ (j : Nat) t v, Try.f15.params[j]? = some t → args[j]? = some v → Value.okWide Try.prog W .any base t v := hval0
  have hW' := hW
  obtain ⟨p, q, hA0, hV, rfl, hfz, hnd⟩ := hW
  have hA : DataW.TrodAll enc Try.prog W 0 (fun _ => true) true Try.f15.params.toList args.toList ds p := hA0
  rw [Try.params15] at hA hval
  obtain ⟨v0, vs0, d0, ds0, p0, q0, hargs, rfl, rfl, h0, r0⟩ := trodAll_cons hA
  obtain ⟨v1, vs1, d1, ds1, p1, q1, rfl, rfl, rfl, h1, r1⟩ := trodAll_cons r0
  obtain ⟨rfl, rfl, rfl⟩ := trodAll_nil r1
  obtain rfl : args = #[v0, v1] := by cases args; simp_all
  obtain ⟨rfl, rfl⟩ := trodVars_none hV
  obtain ⟨c1, rfl, hc1⟩ := okWide_struct Try.underlying69 (hval 1 69 v1 rfl rfl)
  have k0 := h0
  have k1 := h1
  have lt0 : ∀ x ∈ p0, x.block < W.heap.size := by obtain ⟨m, hm⟩ := k0; exact DataW.trod_lt m _ _ _ hm
  have lt1 : ∀ x ∈ p1, x.block < W.heap.size := by obtain ⟨m, hm⟩ := k1; exact DataW.trod_lt m _ _ _ hm
  obtain ⟨root, rfl, _, _, hs0⟩ := Go.ChangeMaps.open_string Try.underlying9 (hval 0 9 v0 rfl rfl) h0
  obtain ⟨f1, hf1⟩ := h1
  obtain ⟨⟨n, m, v, D, O, I, Wr, X⟩, hcc1, hwf1⟩ := flat69 _ _ _ _ _ _ hf1
  obtain rfl : c1 = #[.int .i64 n, .int .i64 m, .int .i64 v, .string D, .string O, .string I, .string Wr, .string X] := by
    have : c1.toList = [.int .i64 n, .int .i64 m, .int .i64 v, .string D, .string O, .string I, .string Wr, .string X] := hcc1
    rw [← Array.toArray_toList (xs := c1), this]
  clear hA0 hval0 hsz0
  refine (ringtells_walk root n m v D O I Wr X W).mono fun e W' ⟨he, hfr⟩ => ?_
  have bel := hfr.toBelow
  subst he
  exact ⟨_, rfl, _, _, _, [], _, [], hW', trodAll_mk1 (shut_bool Try.underlying4 _), (trodAll_cons_mk (Below.trod laidOut (by kernel_rfl) (of_decide_eq_true (by kernel_rfl)) k0 bel lt0) (trodAll_cons_mk (Below.trod laidOut (by kernel_rfl) (of_decide_eq_true (by kernel_rfl)) k1 bel lt1) trodAll_mk0)), rfl, bel.frame _, fun h => by cases h⟩
theorem over : Rows.ringTellsRow.holds Try.pinned (OpenSpec.ofChange Rows.ringTellsSpec) :=
  OpenClaim.holds_of_wide 15 Try.f15 rfl rfl rfl rfl rfl rfl rfl ⟨rfl, rfl, rfl, rfl, rfl⟩ rfl rfl rfl rfl rfl (by kernel_rfl) Try.func15 (by kernel_rfl)
    (of_decide_eq_true (by kernel_rfl)) (by unfold Func.isWrapper; first | (rw [if_pos (by decide +kernel)]; kernel_rfl) | (rw [if_neg (by decide +kernel)]; exact ⟨rfl, rfl⟩))
    (fun os started H enc _ => lifted os started H enc)
theorem proved : Rows.RingTellsSaid := over
end ringTells
/-- The row, under a short name, for the claim. -/
theorem ringTells_holds : Rows.RingTellsSaid := ringTells.proved
#print axioms ringTells_holds
end Go.Proofs.Ytcchhfkmhbjdmaa
