/- Labels: the document's Runes, walked. -/
import Derived.Test.YtcchhfkmhbjdmaaGreatMa
set_option linter.unusedVariables false
set_option linter.unusedSimpArgs false
set_option pp.deepTerms true
set_option pp.maxSteps 100000
namespace Go.Proofs.YtcchhfkmhbjdmaaGreat
open Go.RowKit
theorem one_iff (c : UInt8) (k : Nat) : (oneB c && !(decide (k = 0) && decide (c.toNat = 45))) = true ↔ (97 ≤ c.toNat ∧ c.toNat ≤ 122 ∨ 48 ≤ c.toNat ∧ c.toNat ≤ 57 ∨ c.toNat = 45 ∧ 0 < k) := by
  simp only [oneB, Bool.and_eq_true, Bool.or_eq_true, decide_eq_true_eq, Bool.not_eq_true', Bool.and_eq_false_iff, decide_eq_false_iff_not]
  omega
theorem two_iff (c d : UInt8) : twoB c d = true ↔ (c.toNat = 206 ∧ 177 ≤ d.toNat ∧ d.toNat ≤ 191 ∨ c.toNat = 207 ∧ 128 ≤ d.toNat ∧ d.toNat ≤ 137) := by
  simp only [twoB, Bool.and_eq_true, Bool.or_eq_true, decide_eq_true_eq]
  omega
theorem eq_false_of {b : Bool} {p : Prop} (h : b = true ↔ p) (hn : ¬ p) : b = false := by
  cases b with
  | false => rfl
  | true => exact absurd (h.1 rfl) hn
theorem map_map_add (o : Option Nat) (m : Nat) : (o.map (· + 1)).map (· + m) = o.map (· + (m + 1)) := by
  cases o with
  | none => rfl
  | some x => simp only [Option.map_some, Option.some.injEq]; omega
set_option maxRecDepth 20000 in
set_option maxHeartbeats 8000000 in
theorem refrunes_calls (l : List UInt8) (hl : l.length ≤ 100000) (w : World) : Calls Tryz.prog 35 #[.string (str l)] w fun e w' => e = .returned (.int .i64 (runesL l : Nat)) ∧ Fr (fun _ => False) w w' := by
  obtain ⟨S, hS⟩ : ∃ s, s = str l := ⟨_, rfl⟩
  obtain ⟨res, hres⟩ : ∃ n, n = runesL l := ⟨_, rfl⟩
  have hsz : S.size = l.length := by rw [hS, str_size]
  have HSZ := Lib.hid hsz
  have HSS := Lib.hid hS
  have HRES := Lib.hid hres
  have hsl : S.size ≤ 100000 := by omega
  rw [← hS, ← hres]
  clear hS hres hsz hl
  go_enter Tryz.func35, Tryz.ntmps35
  go_wp2_with fail
  go_loopw [3, 4] (fun c i wr => ∃ m k : Nat, m ≤ k ∧ k ≤ S.size ∧ c = .int .i64 (m : Int) ∧ i = .int .i64 (k : Int) ∧ Fr (fun _ => False) w wr ∧ Aside (runesW true l = (runesW (decide (k = 0)) (l.drop k)).map (· + m))) (fun _ i _ => S.size - (intOf i).toNat)
  case atStart => exact ⟨0, 0, Nat.le_refl _, Nat.zero_le _, rfl, rfl, Fr.refl _ _, show runesW true l = (runesW (decide (0 = 0)) (l.drop 0)).map (· + 0) by simp⟩
  case round =>
    obtain ⟨m, k, hmk, hk, rfl, rfl, hfr, hru⟩ := hrel
    have HF := Lib.hid hfr
    have HRU := Lib.hid hru
    clear hfr hru
    by_cases hlt : k < S.size
    · have hkl : k < l.length := by have := HSZ.out; omega
      have hi0 : (k : Int) < (S.size : Int) := by omega
      obtain ⟨c, hc⟩ : ∃ c, c = S[k] := ⟨_, rfl⟩
      have hcl : c = l[k] := by
        rw [hc]
        have h := HSS.out
        subst h
        exact sget l k hlt
      have hdrop : l.drop k = c :: l.drop (k + 1) := by rw [hcl]; exact List.drop_eq_getElem_cons hkl
      have HONE := Lib.hid (show (97 ≤ S[k].toNat ∧ S[k].toNat ≤ 122 ∨ 48 ≤ S[k].toNat ∧ S[k].toNat ≤ 57 ∨ S[k].toNat = 45 ∧ 0 < k) → runesW true l = (runesW (decide (k + 1 = 0)) (l.drop (k + 1))).map (· + (m + 1)) from fun h => by
        rw [← hc] at h
        rw [HRU.out, hdrop, runesW_one _ c _ ((one_iff c k).2 h), map_map_add, decide_eq_false (by omega : ¬ k + 1 = 0)])
      have HTWO := Lib.hid (show ¬ (97 ≤ S[k].toNat ∧ S[k].toNat ≤ 122 ∨ 48 ≤ S[k].toNat ∧ S[k].toNat ≤ 57 ∨ S[k].toNat = 45 ∧ 0 < k) → ∀ h2 : k + 1 < S.size, (S[k].toNat = 206 ∧ 177 ≤ S[k + 1].toNat ∧ S[k + 1].toNat ≤ 191 ∨ S[k].toNat = 207 ∧ 128 ≤ S[k + 1].toNat ∧ S[k + 1].toNat ≤ 137) → runesW true l = (runesW (decide (k + 1 + 1 = 0)) (l.drop (k + 1 + 1))).map (· + (m + 1)) from fun h h2 h3 => by
        have hd : S[k + 1] = l[k + 1]'(by have := HSZ.out; omega) := by
          have h := HSS.out
          subst h
          exact sget l (k + 1) h2
        rw [← hc] at h h3
        rw [hd] at h3
        rw [HRU.out, hdrop, List.drop_eq_getElem_cons (show k + 1 < l.length by have := HSZ.out; omega), runesW_two _ c _ _ (eq_false_of (one_iff c k) h) ((two_iff _ _).2 h3), map_map_add, decide_eq_false (by omega : ¬ k + 1 + 1 = 0)])
      have HBAD := Lib.hid (show ¬ (97 ≤ S[k].toNat ∧ S[k].toNat ≤ 122 ∨ 48 ≤ S[k].toNat ∧ S[k].toNat ≤ 57 ∨ S[k].toNat = 45 ∧ 0 < k) → (∀ h2 : k + 1 < S.size, ¬ (S[k].toNat = 206 ∧ 177 ≤ S[k + 1].toNat ∧ S[k + 1].toNat ≤ 191 ∨ S[k].toNat = 207 ∧ 128 ≤ S[k + 1].toNat ∧ S[k + 1].toNat ≤ 137)) → res = 0 from fun h h3 => by
        rw [← hc] at h
        have e : runesW (decide (k = 0)) (l.drop k) = none := by
          rw [hdrop]
          refine runesW_bad _ c _ (eq_false_of (one_iff c k) h) (fun d r' hr => ?_)
          have h2 : k + 1 < l.length := by
            have := congrArg List.length hr
            rw [List.length_drop, List.length_cons] at this
            omega
          rw [List.drop_eq_getElem_cons h2] at hr
          have hd : S[k + 1]'(by rw [HSZ.out]; exact h2) = l[k + 1] := by
            have h := HSS.out
            subst h
            exact sget l (k + 1) (by rw [str_size]; exact h2)
          have h4 := h3 (by rw [HSZ.out]; exact h2)
          rw [← hc, hd] at h4
          obtain ⟨rfl, _⟩ := List.cons.inj hr
          exact eq_false_of (two_iff _ _) h4
        rw [HRES.out]
        unfold runesL runesN
        rw [HRU.out, e]
        rfl)
      clear hc hcl hdrop hkl
      go_wp2_with fail
      all_goals first
        | (go_ret; exact ⟨by rw [HBAD.out (by omega) (fun h2 => by omega)]; rfl, HF.out⟩)
        | (exfalso; simp only [Bool.not_eq_eq_eq_not, Bool.not_false, Bool.not_true, decide_eq_true_eq, decide_eq_false_iff_not] at *; omega)
        | (go_roundw
           case rel => first
             | exact ⟨m + 1, k + 1, by omega, by omega, by go_num, by go_num, HF.out, HONE.out (by omega)⟩
             | exact ⟨m + 1, k + 1 + 1, by omega, by omega, by go_num, by go_num, HF.out, HTWO.out (by omega) (by omega) (by omega)⟩
           case measure => simp [intOf]; omega)
        | (rename_i hz; simp only [Bool.not_eq_eq_eq_not, Bool.not_false, Bool.not_true, decide_eq_true_eq, decide_eq_false_iff_not] at hz; go_ret; exact ⟨by rw [HBAD.out (by omega) (fun h2 => by omega)]; rfl, HF.out⟩)
        | (rename_i hz; simp only [Bool.not_eq_eq_eq_not, Bool.not_false, Bool.not_true, decide_eq_true_eq, decide_eq_false_iff_not] at hz
           go_roundw
           case rel => first
             | exact ⟨m + 1, k + 1, by omega, by omega, by go_num, by go_num, HF.out, HONE.out (by omega)⟩
             | exact ⟨m + 1, k + 1 + 1, by omega, by omega, by go_num, by go_num, HF.out, HTWO.out (by omega) (by omega) (by omega)⟩
           case measure => simp [intOf]; omega)
    · obtain rfl : k = S.size := by omega
      have hge : ¬ (S.size : Int) < (S.size : Int) := by omega
      have HR := Lib.hid (show res = if 32 < m then 0 else m by
        have h := HRU.out
        rw [show l.drop S.size = [] by rw [HSZ.out]; exact List.drop_eq_nil_of_le (Nat.le_refl _)] at h
        rw [HRES.out]
        unfold runesL runesN
        rw [h]
        cases decide (S.size = 0) <;> simp [runesW])
      clear hlt
      by_cases h32 : 32 < m
      · have t1 : decide ((32 : Int) < (m : Int)) = true := decide_eq_true (by omega)
        have t2 : decide (32 < m) = true := decide_eq_true h32
        have HR0 := Lib.hid (show res = 0 by rw [HR.out, if_pos h32])
        go_wp2_with fail
        go_ret
        exact ⟨by rw [HR0.out]; rfl, HF.out⟩
      · have t1 : decide ((32 : Int) < (m : Int)) = false := decide_eq_false (by omega)
        have t2 : decide (32 < m) = false := decide_eq_false h32
        have HR0 := Lib.hid (show res = m by rw [HR.out, if_neg h32])
        go_wp2_with fail
        go_ret
        exact ⟨by rw [HR0.out]; rfl, HF.out⟩
end Go.Proofs.YtcchhfkmhbjdmaaGreat
