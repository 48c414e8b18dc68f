/- The document's boxes: contracts. -/
import Derived.Test.YtcchhfkmhbjdmaaKt
set_option linter.unusedVariables false
set_option linter.unusedSimpArgs false
namespace Go.Proofs.Ytcchhfkmhbjdmaa
open Go.RowKit PAesTells Go.Proofs.YtcchhfkmhbjdmaaW.PrintWords
theorem refbox_calls (b : UInt8) (w : World) : Calls Try.prog 23 #[.int .u8 (b.toNat : Int)] w fun e w' => e = .returned (.int .u8 ((box b).toNat : Int)) ∧ Fr (fun _ => False) w w' :=
  (keyloftref01_Box.calls 60 _ _ w (box_f b)).mono fun e w' ⟨he, hd⟩ => ⟨he, by
    obtain ⟨m, rfl⟩ := hd
    exact (Fr.refl _ _).drewN m⟩
set_option maxRecDepth 100000 in
theorem boxes_f : keyloftref01_Boxes.f 400 = some (boxT.map fun b => (b.toNat : Int)) := by decide +kernel
/-- The boxes' row. -/
def Tab (w : World) (X : Nat) : Prop := ∀ b : UInt8, w.cell? ⟨X, b.toNat, none⟩ = some (.int .u8 ((box b).toNat : Int))
theorem Tab.fr {F : Nat → Prop} {w w' : World} {X : Nat} (h : Tab w X) (hf : Fr F w w') (hn : ¬ F X) : Tab w' X := fun b => hf.cell (h b) hn
theorem refboxes_calls (w : World) : Calls Try.prog 72 #[] w fun e w' => ∃ X cap, e = .returned (.slice (some ⟨X, 0, none⟩) 256 cap) ∧ Tab w' X ∧ w.heap.size ≤ X ∧ 256 ≤ cap ∧ Fr (fun _ => False) w w' := by
  refine (keyloftref01_Boxes.calls 400 _ w boxes_f).mono ?_
  rintro e w' ⟨v, rfl, hR, hb⟩
  have hl : (boxT.map fun b => (b.toNat : Int)).length = 256 := by rw [List.length_map, boxT_length]
  have h2 := hR
  obtain ⟨h0, inner, ho, hr⟩ := h2
  rcases ho.2 with ⟨hv, hn⟩ | ⟨g, cap, cur, hv, hg, hh, hc, r⟩
  · rw [hl] at hn; omega
  · subst hv
    rw [hl] at hR hc ⊢
    refine ⟨g, cap, rfl, fun b => ?_, hg, hc, Fr.of_below hb⟩
    obtain ⟨_, _, h3⟩ := (Kd.R_reads' hR).2.2
    obtain ⟨ad, ha, hcell⟩ := h3 (by rw [hl]; omega)
    have ha' : ad = ⟨g, 0, none⟩ := (Option.some.inj ha).symm
    subst ha'
    have hbt : (boxT.map fun b => (b.toNat : Int))[b.toNat]? = some ((box b).toNat : Int) := by
      rw [List.getElem?_map, boxT_get b]; rfl
    obtain ⟨c, hc1, hM, hcc⟩ := hcell _ _ hbt
    have hM' : c = [.int .u8 ((box b).toNat : Int)] := hM
    have := hcc 0 _ (by rw [hM']; rfl)
    rw [Addr.add_mid] at this
    simpa [Kd.int, Kd.scalar] using this
end Go.Proofs.Ytcchhfkmhbjdmaa
