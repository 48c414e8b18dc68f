/- ShaTells: the row. -/
import Derived.Test.YtcchhfkmhbjdmaaRows
import Derived.Test.YtcchhfkmhbjdmaaL3
import Derived.Test.YtcchhfkmhbjdmaaJp
set_option linter.unusedVariables false
set_option linter.unusedSimpArgs false
namespace Go.Proofs.Ytcchhfkmhbjdmaa
open Go.ChangeShapes Go.WideShapes Go.ChangeAt Go.RowKit
namespace shaTells
set_option maxRecDepth 100000 in
theorem lifted (os : Os) (started : os.Started) (H : Type) (enc : TypeId × Value → H) :
    ReturnsInHanded {} Try.checked os 7 .any (Rows.shaTellsSpec.pre6 enc Try.prog Try.f7 Rows.shaTellsRow.domain false) (Rows.shaTellsSpec.post enc Try.prog Try.f7 false true false false) := by
  refine returnsInHanded_of_change_sized (C := Try.checked) own started (by kernel_rfl) Try.func7
    (ChangeSpec.witness6 (enc := enc) (C := Try.checked) false ⟨#[], #[.slice none 0 0], []⟩ 8 (by kernel_rfl) (by kernel_rfl) (by kernel_rfl) (by kernel_rfl)) ?_
  intro W base args ds gs before hval0 hW hcnd hsz0 _
  have hval : ∀ (j : Nat) t v, Try.f7.params[j]? = some t → args[j]? = some v → Value.okWide Try.prog W .any base t v := hval0
  have hW' := hW
  obtain ⟨p, q, hA0, hV, rfl, hfz, hnd⟩ := hW
  have hA : DataW.TrodAll enc Try.prog W 0 (fun _ => true) true Try.f7.params.toList args.toList ds p := hA0
  rw [Try.params7] at hA hval
  obtain ⟨v0, vs0, d0, ds0, p0, q0, hargs, rfl, rfl, h0, r0⟩ := trodAll_cons hA
  obtain ⟨rfl, rfl, rfl⟩ := trodAll_nil r0
  obtain rfl : args = #[v0] := by cases args; simp_all
  obtain ⟨rfl, rfl⟩ := trodVars_none hV
  obtain ⟨a0, len0, cap0, rfl⟩ := okWide_slice Try.underlying42 (hval 0 42 v0 rfl rfl)
  have k0 := h0
  have lt0 : ∀ x ∈ p0, x.block < W.heap.size := by obtain ⟨m, hm⟩ := k0; exact DataW.trod_lt m _ _ _ hm
  have hwt : ∀ n ∈ d0.weights Try.prog 42, n ≤ reachBytes := fun n hn => by
    have := List.all_eq_true.1 hsz0 n (DataW.weights_mem_each (j := 0) (t := 42) (d := d0) (by rw [Try.params7]; rfl) rfl n hn)
    simpa using this
  have hcalls : Calls Try.prog 7 #[.slice a0 len0 cap0] W fun e w' => e = .returned (.bool true) ∧ Fr (fun _ => False) W w' := by
    by_cases hz : len0 = 0
    · rw [hz]; exact tells_nil a0 cap0 W
    · rcases strs_open Try.underlying42 Try.underlying9 (by kernel_rfl) h0 reachBytes hwt with h | ⟨b, o, parts, rfl, hpl, hlc, hcm, hcell, hsize⟩
      · exact absurd h hz
      · subst hpl
        have hlen : parts.length ≤ 9223372036854775807 := by unfold maxLen at hcm; omega
        have hb : b < W.heap.size := by
          cases hp : parts with
          | nil => rw [hp] at hz; exact absurd rfl hz
          | cons s t => exact World.block_lt_of_cell? W _ (hcell 0 s (by rw [hp]; rfl))
        exact tells_some b o cap0 parts W hcell (fun s hs => by have h1 := hsize s hs; have h2 := reachBytes_lt; omega) hlen hb
  clear hA0 hval0 hsz0
  refine hcalls.mono fun e W' ⟨he, hfr⟩ => ?_
  have bel := hfr.toBelow
  subst he
  exact ⟨_, rfl, _, _, _, [], _, [], hW', trodAll_mk1 (shut_bool Try.underlying4 _), (trodAll_cons_mk (Below.trod laidOut (by kernel_rfl) (of_decide_eq_true (by kernel_rfl)) k0 bel lt0) trodAll_mk0), rfl, bel.frame _, fun h => by cases h⟩
theorem over : Rows.shaTellsRow.holds Try.pinned (OpenSpec.ofChange Rows.shaTellsSpec) :=
  OpenClaim.holds_of_wide 7 Try.f7 rfl rfl rfl rfl rfl rfl rfl ⟨rfl, rfl, rfl, rfl, rfl⟩ rfl rfl rfl rfl rfl (by kernel_rfl) Try.func7 (by kernel_rfl)
    (of_decide_eq_true (by kernel_rfl)) (by unfold Func.isWrapper; first | (rw [if_pos (by decide +kernel)]; kernel_rfl) | (rw [if_neg (by decide +kernel)]; exact ⟨rfl, rfl⟩))
    (fun os started H enc _ => lifted os started H enc)
theorem proved : Rows.ShaTellsSaid := over
end shaTells
/-- The row, under a short name, for the claim. -/
theorem shaTells_holds : Rows.ShaTellsSaid := shaTells.proved
#print axioms shaTells_holds
end Go.Proofs.Ytcchhfkmhbjdmaa
