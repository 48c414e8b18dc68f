/- LabelTells: the row. -/
import Derived.Test.YthmpmpepokeedaaRows
import Derived.Test.YthmpmpepokeedaaL3
import Derived.Test.YthmpmpepokeedaaMh
set_option linter.unusedVariables false
set_option linter.unusedSimpArgs false
namespace Go.Proofs.Ythmpmpepokeedaa
open Go.ChangeShapes Go.WideShapes Go.ChangeAt Go.RowKit
theorem str_back (s : ByteArray) : str s.data.toList = s := by
  obtain ⟨⟨l⟩⟩ := s
  rfl
set_option maxRecDepth 20000 in
theorem flatP {H : Type} {enc : TypeId × Value → H} {w : World} : Flat enc Try.prog w 77 encP (fun _ => True) := fun base spare held fuel cs x h => by
  have hl := struct_len Try.underlying77 h
  rw [show Try.prog.cellsOf 77 = 2 by kernel_rfl] at hl
  obtain ⟨K, h0, w0⟩ := flat_field Try.underlying77 h 0 0 9 1 rfl (by kernel_rfl) (flat_string Try.underlying9)
  obtain ⟨V, h1, w1⟩ := flat_field Try.underlying77 h 1 1 9 1 rfl (by kernel_rfl) (flat_string Try.underlying9)
  match cs, hl with
  | [c0, c1], _ =>
    simp at h0 h1
    subst h0; subst h1
    exact ⟨(K.data.toList, V.data.toList), by rw [encP, str_back, str_back], trivial⟩
namespace labelTells
set_option maxRecDepth 100000 in
theorem lifted (os : Os) (started : os.Started) (H : Type) (enc : TypeId × Value → H) :
    ReturnsInHanded {} Try.checked os 8 .any (Rows.labelTellsSpec.pre6 enc Try.prog Try.f8 Rows.labelTellsRow.domain false) (Rows.labelTellsSpec.post enc Try.prog Try.f8 false true false false) := by
  refine returnsInHanded_of_change_sized (C := Try.checked) own started (by kernel_rfl) Try.func8
    (ChangeSpec.witness6 (enc := enc) (C := Try.checked) false ⟨#[], #[.string ⟨#[]⟩, .slice none 0 0, .slice none 0 0, .string ⟨#[]⟩], []⟩ 8 (by kernel_rfl) (by kernel_rfl) (by kernel_rfl) (by kernel_rfl)) ?_
  intro W base args ds gs before hval0 hW hcnd hsz0 _
  have hval : ∀ (j : Nat) t v, Try.f8.params[j]? = some t → args[j]? = some v → Value.okWide Try.prog W .any base t v := hval0
  have hW' := hW
  obtain ⟨p, q, hA0, hV, rfl, hfz, hnd⟩ := hW
  have hA : DataW.TrodAll enc Try.prog W 0 (fun _ => true) true Try.f8.params.toList args.toList ds p := hA0
  rw [Try.params8] at hA hval
  obtain ⟨v0, vs0, d0, ds0, p0, q0, hargs, rfl, rfl, h0, r0⟩ := trodAll_cons hA
  obtain ⟨v1, vs1, d1, ds1, p1, q1, rfl, rfl, rfl, h1, r1⟩ := trodAll_cons r0
  obtain ⟨v2, vs2, d2, ds2, p2, q2, rfl, rfl, rfl, h2, r2⟩ := trodAll_cons r1
  obtain ⟨v3, vs3, d3, ds3, p3, q3, rfl, rfl, rfl, h3, r3⟩ := trodAll_cons r2
  obtain ⟨rfl, rfl, rfl⟩ := trodAll_nil r3
  obtain rfl : args = #[v0, v1, v2, v3] := by cases args; simp_all
  obtain ⟨rfl, rfl⟩ := trodVars_none hV
  obtain ⟨a1, len1, cap1, rfl⟩ := okWide_slice Try.underlying64 (hval 1 64 v1 rfl rfl)
  obtain ⟨a2, len2, cap2, rfl⟩ := okWide_slice Try.underlying64 (hval 2 64 v2 rfl rfl)
  have k0 := h0
  have k1 := h1
  have k2 := h2
  have k3 := h3
  have lt0 : ∀ x ∈ p0, x.block < W.heap.size := by obtain ⟨m, hm⟩ := k0; exact DataW.trod_lt m _ _ _ hm
  have lt1 : ∀ x ∈ p1, x.block < W.heap.size := by obtain ⟨m, hm⟩ := k1; exact DataW.trod_lt m _ _ _ hm
  have lt2 : ∀ x ∈ p2, x.block < W.heap.size := by obtain ⟨m, hm⟩ := k2; exact DataW.trod_lt m _ _ _ hm
  have lt3 : ∀ x ∈ p3, x.block < W.heap.size := by obtain ⟨m, hm⟩ := k3; exact DataW.trod_lt m _ _ _ hm
  obtain ⟨a, rfl, _, _, hs0⟩ := Go.ChangeMaps.open_string Try.underlying9 (hval 0 9 v0 rfl rfl) h0
  obtain ⟨l, hl1, hlc1, hcm1, hr1, hwf1⟩ := slice_open Try.underlying64 flatP (by rw [show Try.prog.cellsOf 77 = 2 by kernel_rfl]; omega) h1
  rw [show Try.prog.cellsOf 77 = 2 by kernel_rfl] at hr1
  have hcm1' : cap1 ≤ 9223372036854775807 := hcm1
  obtain ⟨m, hl2, hlc2, hcm2, hr2, hwf2⟩ := slice_open Try.underlying64 flatP (by rw [show Try.prog.cellsOf 77 = 2 by kernel_rfl]; omega) h2
  rw [show Try.prog.cellsOf 77 = 2 by kernel_rfl] at hr2
  have hcm2' : cap2 ≤ 9223372036854775807 := hcm2
  obtain ⟨s, rfl, _, _, hs3⟩ := Go.ChangeMaps.open_string Try.underlying9 (hval 3 9 v3 rfl rfl) h3
  clear hA0 hval0 hsz0
  subst hl1
  subst hl2
  refine (tells_walk a1 a2 cap1 cap2 l m a s W (PSl.of_sl hr1) hlc1 hcm1' (PSl.of_sl hr2) hlc2 hcm2').mono fun e W' ⟨he, hfr⟩ => ?_
  have bel := hfr.toBelow
  subst he
  exact ⟨_, rfl, _, _, _, [], _, [], hW', trodAll_mk1 (shut_bool Try.underlying4 _), (trodAll_cons_mk (Below.trod laidOut (by kernel_rfl) (of_decide_eq_true (by kernel_rfl)) k0 bel lt0) (trodAll_cons_mk (Below.trod laidOut (by kernel_rfl) (of_decide_eq_true (by kernel_rfl)) k1 bel lt1) (trodAll_cons_mk (Below.trod laidOut (by kernel_rfl) (of_decide_eq_true (by kernel_rfl)) k2 bel lt2) (trodAll_cons_mk (Below.trod laidOut (by kernel_rfl) (of_decide_eq_true (by kernel_rfl)) k3 bel lt3) trodAll_mk0)))), rfl, bel.frame _, fun h => by cases h⟩
theorem over : Rows.labelTellsRow.holds Try.pinned (OpenSpec.ofChange Rows.labelTellsSpec) :=
  OpenClaim.holds_of_wide 8 Try.f8 rfl rfl rfl rfl rfl rfl rfl ⟨rfl, rfl, rfl, rfl, rfl⟩ rfl rfl rfl rfl rfl (by kernel_rfl) Try.func8 (by kernel_rfl)
    (of_decide_eq_true (by kernel_rfl)) (by unfold Func.isWrapper; first | (rw [if_pos (by decide +kernel)]; kernel_rfl) | (rw [if_neg (by decide +kernel)]; exact ⟨rfl, rfl⟩))
    (fun os started H enc _ => lifted os started H enc)
theorem proved : Rows.LabelTellsSaid := over
end labelTells
/-- The row, under a short name, for the claim. -/
theorem labelTells_holds : Rows.LabelTellsSaid := labelTells.proved
#print axioms labelTells_holds
end Go.Proofs.Ythmpmpepokeedaa
