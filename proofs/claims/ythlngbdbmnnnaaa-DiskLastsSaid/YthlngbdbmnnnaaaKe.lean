/- fails, Write. -/
import Derived.Test.YthlngbdbmnnnaaaKd
set_option linter.unusedVariables false
set_option linter.unusedSimpArgs false
namespace Go.Proofs.Ythlngbdbmnnnaaa
open Go.RowKit
theorem counted_no {D : Dk} (h : ¬ D.cutAt = D.count + 1) : D.counted = { D with count := D.count + 1 } := by simp [Dk.counted, h]
theorem counted_yes {D : Dk} (h : D.cutAt = D.count + 1) : D.counted = ({ D with count := D.count + 1 } : Dk).crash D.keep D.torn := by simp [Dk.counted, h]
theorem Left.then {F F' : Nat → Prop} {w w1 w' : World} {g : Nat} {D' : Dk} {v v' : Value} (hF : ∀ i, F' i → F i ∨ w.heap.size ≤ i) (hf : Fr F w w1) (h : Left F' w1 g D' v (.returned v) w') : Left F w g D' v' (.returned v') w' := by
  obtain ⟨-, F2, h1, h2, h3⟩ := h
  exact ⟨rfl, F2, fun i hi => (h1 i hi).elim (hF i) (fun hge => .inr (Nat.le_trans hf.size hge)), hf.trans h2 hF, h3⟩

set_option maxRecDepth 20000 in
theorem fails_any {F : Nat → Prop} {w : World} {g : Nat} {D : Dk} (hR : DRep F w g D) (hk0 : 0 ≤ D.keep) (hk1 : D.keep ≤ 18446744073709551615) (hm : D.wait.length ≤ 1000000) (hc : D.count ≤ 1000000) :
    Calls Try.prog 42 #[.pointer (some ⟨g, 0, none⟩)] w (Left F w g D.counted (.bool D.failing)) := by
  obtain ⟨gl, wv, hg, -, -, hFg, -, -⟩ := hR.ex
  have h5 := (dcells hg).c5
  have hz5 : w.frozen? ⟨g, 5, none⟩ = false := frozen_of_row w g 5 _ _ hg
  have hR1 : DRep F (w.setCell ⟨g, 5, none⟩ (.int .i64 (D.count + 1))) g { D with count := D.count + 1 } := by
    refine hR.put _ rfl rfl rfl (by have := hR.cnt; show 0 ≤ D.count + 1; omega) (by repeat first | exact Fr.refl _ _ | refine Fr.setCell ?_ _ _ (.inl rfl)) ?_
    intro lv wv hg
    rw [heap_setCell_same _ g 5 _ 85 _ hg]
    rfl
  have hF1 : Fr F w (w.setCell ⟨g, 5, none⟩ (.int .i64 (D.count + 1))) := (Fr.refl _ _).setCell _ _ (.inl hFg)
  obtain ⟨gl', wv', hg1, -, -, -, -, -⟩ := hR1.ex
  have d2 := (dcells hg1).c2
  have d3 := (dcells hg1).c3
  have d4 := (dcells hg1).c4
  have d5 := (dcells hg1).c5
  have hc0 := hR.cnt
  have HR1 := Lib.hid hR1
  have HF1 := Lib.hid hF1
  by_cases hcut : D.cutAt = D.count + 1
  · have HE := Lib.hid (counted_yes hcut)
    have hq : (D.cutAt == D.count + 1) = true := by simp [hcut]
    have hq' : (D.cutAt != D.count + 1) = false := by simp [hcut]
    have HQ := Lib.hid (show D.failing = true by simp [Dk.failing, hcut])
    clear hg hg1 hR hR1 hF1 hFg hcut
    go_enter Try.func42, Try.ntmps42
    go_wp2
    generalize w.setCell ⟨g, 5, none⟩ (.int .i64 (D.count + 1)) = W1 at *
    go_quiet (fail)
    go_wp2
    refine wp_region_still_tail 11 (by kernel_rfl) (by kernel_rfl) ?_
    simp only [List.take_succ_cons, List.take_zero, List.drop_succ_cons, List.drop_zero]
    change wpStill _ _ (W1.drewN nq).drew (fun a' => wpList _ _ _ _ a' (W1.drewN nq).drew) _ _
    have f3 : (W1.drewN nq).drew.cell? ⟨g, 3, none⟩ = some (.int .u64 D.keep) := d3
    have f4 : (W1.drewN nq).drew.cell? ⟨g, 4, none⟩ = some (.int .i64 D.torn) := d4
    have HR2 := Lib.hid (HR1.out.fr ((Fr.refl (fun _ => False) W1).drewN nq).drew (fun i _ => id))
    have HF2 := Lib.hid ((HF1.out.drewN nq).drew)
    generalize (W1.drewN nq).drew = W2 at f3 f4 HR2 HF2 ⊢
    clear d2 d3 d4 d5
    repeat still_step
    refine wpStill_nil ?_
    have HM := Lib.hid hm
    go_wp2_with (go_at_call 17; refine (crash_any HR2.out _ _ hk0 hk1 HM.out).mono ?_; intro e w3 hl; rcases hl with ⟨rfl, hl⟩)
    have HL := Lib.hid hl
    clear hl
    go_wp2
    go_ret
    rw [HE.out, HQ.out]
    exact Left.then (v := .tuple #[]) (fun i hi => .inl hi) HF2.out ⟨rfl, HL.out⟩
  · have HE := Lib.hid (counted_no hcut)
    have hq : (D.cutAt == D.count + 1) = false := by simp [hcut]
    have hq' : (D.cutAt != D.count + 1) = true := by simp [hcut]
    have HQ := Lib.hid (show D.failing = false by simp [Dk.failing, hcut])
    clear hg hg1 hR hR1 hF1 hFg hcut
    go_enter Try.func42, Try.ntmps42
    go_wp2
    generalize w.setCell ⟨g, 5, none⟩ (.int .i64 (D.count + 1)) = W1 at *
    go_quiet (fail)
    go_wp2
    go_ret
    rw [HE.out, HQ.out]
    exact ⟨rfl, F, fun i hi => .inl hi, HF1.out.drewN _, HR1.out.fr ((Fr.refl (fun _ => False) _).drewN _) (fun i _ => id)⟩
end Go.Proofs.Ythlngbdbmnnnaaa
