/- ValueWithin: the row. -/
import Derived.Test.YthmpmpepokeedaaRows
import Derived.Test.YthmpmpepokeedaaL3
import Derived.Test.YthmpmpepokeedaaNu
import Derived.Test.YthmpmpepokeedaaNr
set_option linter.unusedVariables false
set_option linter.unusedSimpArgs false
namespace Go.Proofs.Ythmpmpepokeedaa
open Go.ChangeShapes Go.WideShapes Go.ChangeAt Go.RowKit
theorem intsAt_of {w : World} {A : Option Addr} {l : List Int} (h : SlR w A 1 (fun n : Int => [.int .i64 n]) l) : IntsAt w A l := fun i x hx => by
  obtain ⟨b, off, e, hr⟩ := h i x hx
  refine ⟨b, off, e, ?_⟩
  have := hr 0 _ rfl
  rwa [Nat.mul_one, Nat.add_zero] at this
namespace valueWithin
set_option maxRecDepth 100000 in
theorem lifted (os : Os) (started : os.Started) (H : Type) (enc : TypeId × Value → H) :
    ReturnsInHanded {} Try.checked os 5 .any (Rows.valueWithinSpec.pre6 enc Try.prog Try.f5 Rows.valueWithinRow.domain false) (Rows.valueWithinSpec.post enc Try.prog Try.f5 false true false false) := by
  refine returnsInHanded_of_change_sized (C := Try.checked) own started (by kernel_rfl) Try.func5
    (ChangeSpec.witness6 (enc := enc) (C := Try.checked) false ⟨#[], #[.agg #[.int .i64 0, .int .i64 0, .string ⟨#[]⟩, .bool false, .slice none 0 0], .slice none 0 0], []⟩ 8 (by kernel_rfl) (by kernel_rfl) (by kernel_rfl) (by kernel_rfl)) ?_
  intro W base args ds gs before hval0 hW hcnd hsz0 _
  have hval : ∀ (j : Nat) t v, Try.f5.params[j]? = some t → args[j]? = some v → Value.okWide Try.prog W .any base t v := hval0
  have hW' := hW
  obtain ⟨p, q, hA0, hV, rfl, hfz, hnd⟩ := hW
  have hA : DataW.TrodAll enc Try.prog W 0 (fun _ => true) true Try.f5.params.toList args.toList ds p := hA0
  rw [Try.params5] at hA hval
  obtain ⟨v0, vs0, d0, ds0, p0, q0, hargs, rfl, rfl, h0, r0⟩ := trodAll_cons hA
  obtain ⟨v1, vs1, d1, ds1, p1, q1, rfl, rfl, rfl, h1, r1⟩ := trodAll_cons r0
  obtain ⟨rfl, rfl, rfl⟩ := trodAll_nil r1
  obtain rfl : args = #[v0, v1] := by cases args; simp_all
  obtain ⟨rfl, rfl⟩ := trodVars_none hV
  obtain ⟨a1, len1, cap1, rfl⟩ := okWide_slice Try.underlying50 (hval 1 50 v1 rfl rfl)
  obtain ⟨c0, rfl, hc0⟩ := okWide_struct Try.underlying36 (hval 0 36 v0 rfl rfl)
  have k0 := h0
  have k1 := h1
  have lt0 : ∀ x ∈ p0, x.block < W.heap.size := by obtain ⟨m, hm⟩ := k0; exact DataW.trod_lt m _ _ _ hm
  have lt1 : ∀ x ∈ p1, x.block < W.heap.size := by obtain ⟨m, hm⟩ := k1; exact DataW.trod_lt m _ _ _ hm
  obtain ⟨f0, hf0⟩ := h0
  obtain ⟨t, hv0⟩ := open_V _ _ _ hf0
  obtain ⟨l, hl1, hlc1, hcm1, hr1, hwf1⟩ := slice_open Try.underlying50 (flat_int (k := .i64) Try.underlying3) (by rw [show Try.prog.cellsOf 3 = 1 by kernel_rfl]; omega) h1
  rw [show Try.prog.cellsOf 3 = 1 by kernel_rfl] at hr1
  have hcm1' : cap1 ≤ 9223372036854775807 := hcm1
  clear hA0 hval0 hsz0
  subst hl1
  refine (vwithin_walk t c0.toList (fun _ => True) a1 cap1 l W hv0 (intsAt_of hr1) hlc1 hcm1').mono fun e W' ⟨he, hfr⟩ => ?_
  have bel := hfr.toBelow
  subst he
  exact ⟨_, rfl, _, _, _, [], _, [], hW', trodAll_mk1 (shut_bool Try.underlying4 _), (trodAll_cons_mk (Below.trod laidOut (by kernel_rfl) (of_decide_eq_true (by kernel_rfl)) k0 bel lt0) (trodAll_cons_mk (Below.trod laidOut (by kernel_rfl) (of_decide_eq_true (by kernel_rfl)) k1 bel lt1) trodAll_mk0)), rfl, bel.frame _, fun h => by cases h⟩
theorem over : Rows.valueWithinRow.holds Try.pinned (OpenSpec.ofChange Rows.valueWithinSpec) :=
  OpenClaim.holds_of_wide 5 Try.f5 rfl rfl rfl rfl rfl rfl rfl ⟨rfl, rfl, rfl, rfl, rfl⟩ rfl rfl rfl rfl rfl (by kernel_rfl) Try.func5 (by kernel_rfl)
    (of_decide_eq_true (by kernel_rfl)) (by unfold Func.isWrapper; first | (rw [if_pos (by decide +kernel)]; kernel_rfl) | (rw [if_neg (by decide +kernel)]; exact ⟨rfl, rfl⟩))
    (fun os started H enc _ => lifted os started H enc)
theorem proved : Rows.ValueWithinSaid := over
end valueWithin
/-- The row, under a short name, for the claim. -/
theorem valueWithin_holds : Rows.ValueWithinSaid := valueWithin.proved
#print axioms valueWithin_holds
end Go.Proofs.Ythmpmpepokeedaa
