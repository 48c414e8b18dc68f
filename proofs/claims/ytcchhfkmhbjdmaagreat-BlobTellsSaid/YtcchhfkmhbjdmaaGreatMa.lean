/- Labels: the document's Right, walked. -/
import Derived.BigQuiet
import Derived.Test.YtcchhfkmhbjdmaaGreatLo
set_option linter.unusedVariables false
set_option linter.unusedSimpArgs false
set_option pp.deepTerms true
set_option pp.maxSteps 100000
namespace Go.Proofs.YtcchhfkmhbjdmaaGreat
open Go.RowKit
theorem okAt_eq {l : List Pr} {k : Nat} (hk : k < l.length) : okAt l k = (prOk l[k] && !((l.take k).map (·.1)).contains l[k].1) := by unfold okAt; rw [List.getElem?_eq_getElem hk]
theorem seen_key {l : List Pr} {k m : Nat} (hk : k < l.length) (hm : m < k) (e : (l[m]'(by omega)).1 = l[k].1) : okAt l k = false := by
  rw [okAt_eq hk]
  have : ((l.take k).map (·.1)).contains l[k].1 = true := by
    rw [List.contains_iff_mem, ← e]
    exact List.mem_map_of_mem (by rw [List.mem_take_iff_getElem]; exact ⟨m, by omega, rfl⟩)
  rw [this]; simp
theorem unseen_key {l : List Pr} {k : Nat} (hk : k < l.length) (hp : prOk l[k] = true) (h : ∀ m (hm : m < k), (l[m]'(by omega)).1 ≠ l[k].1) : okAt l k = true := by
  rw [okAt_eq hk, hp]
  have : ((l.take k).map (·.1)).contains l[k].1 = false := by
    cases hc : ((l.take k).map (·.1)).contains l[k].1 with
    | false => rfl
    | true =>
      rw [List.contains_iff_mem, List.mem_map] at hc
      obtain ⟨x, hx, e⟩ := hc
      rw [List.mem_take_iff_getElem] at hx
      obtain ⟨m, hm, rfl⟩ := hx
      exact absurd e (h m (by omega))
  rw [this]; rfl
set_option maxRecDepth 20000 in
set_option maxHeartbeats 8000000 in
theorem refright_calls (a : Option Addr) (cap : Nat) (l : List Pr) (w : World) (hl : PSl w a l) (hlc : l.length ≤ cap) (hcap : cap ≤ 9223372036854775807) :
    Calls Tryz.prog 33 #[.slice a l.length cap] w fun e w' => e = .returned (.bool (rightB l)) ∧ Fr (fun _ => False) w w' := by
  obtain ⟨rb, hrb⟩ : ∃ x, x = rightB l := ⟨_, rfl⟩
  have HRB := Lib.hid hrb
  have HL := Lib.hid hl
  rw [← hrb]
  obtain ⟨n, hn⟩ : ∃ n, n = l.length := ⟨_, rfl⟩
  have HN := Lib.hid hn
  rw [← hn] at hlc ⊢
  clear hrb hl hn
  by_cases h8 : 8 < n
  · have t1 : decide ((8 : Int) < (n : Int)) = true := decide_eq_true (by omega)
    have HR := Lib.hid (show rb = false by rw [HRB.out]; unfold rightB; rw [decide_eq_false (by have := HN.out; omega), Bool.and_false])
    clear h8
    go_enter Tryz.func33, Tryz.ntmps33
    go_wp2_with fail
    go_ret
    exact ⟨by rw [HR.out]; rfl, Fr.refl _ _⟩
  have t1 : decide ((8 : Int) < (n : Int)) = false := decide_eq_false (by omega)
  have HN8 := Lib.hid h8
  clear h8
  go_enter Tryz.func33, Tryz.ntmps33
  go_wp2_with fail
  go_loopw [3] (fun i wr => ∃ k : Nat, k ≤ n ∧ i = .int .i64 (k : Int) ∧ Fr (fun _ => False) w wr ∧ Aside (∀ j, j < k → okAt l j = true)) (fun i _ => n - (intOf i).toNat)
  case atStart => exact ⟨0, Nat.zero_le _, rfl, Fr.refl _ _, fun j hj => absurd hj (Nat.not_lt_zero _)⟩
  case round =>
    obtain ⟨k, hk, rfl, hfr, hall⟩ := hrel
    have HF := Lib.hid hfr
    have HA := Lib.hid hall
    clear hfr hall
    by_cases hlt : k < n
    · have hkl : k < l.length := by rw [← HN.out]; exact hlt
      rcases HL.out with h0 | ⟨b, off, rfl, hpb, hb⟩
      · exact absurd hkl (by rw [h0]; simp)
      have HPB := Lib.hid hpb
      obtain ⟨c0, c1⟩ := (hpb.fr HF.out id).cells k hkl
      obtain ⟨K, hK⟩ : ∃ s, s = str l[k].1 := ⟨_, rfl⟩
      obtain ⟨V, hV⟩ : ∃ s, s = str l[k].2 := ⟨_, rfl⟩
      have hKs : K.size = l[k].1.length := by rw [hK, str_size]
      have hVs : V.size = l[k].2.length := by rw [hV, str_size]
      rw [← hK] at c0
      rw [← hV] at c1
      have hi0 : (k : Int) < (n : Int) := by omega
      have HNO := Lib.hid (show okAt l k = false → rb = false from fun h => by rw [HRB.out]; exact right_no hkl h)
      have hprk : prOk l[k] = (decide (0 < K.size) && decide (K.size ≤ 32) && decide (V.size ≤ 64)) := by rw [hKs, hVs]; rfl
      have hat := okAt_eq hkl
      rw [hprk] at hat
      have HAT := Lib.hid hat
      have HPR := Lib.hid hprk
      have HK := Lib.hid hK
      have HKL := Lib.hid hkl
      clear hK hV hKs hVs hat hprk hpb hb
      by_cases e1 : K.size < 1
      · have t2 : decide ((K.size : Int) < 1) = true := decide_eq_true (by omega)
        have HR := Lib.hid (HNO.out (by rw [HAT.out, decide_eq_false (show ¬ 0 < K.size by omega)]; rfl))
        clear e1 
        go_wp2_with fail
        go_ret
        exact ⟨by rw [HR.out]; rfl, HF.out⟩
      have t2 : decide ((K.size : Int) < 1) = false := decide_eq_false (by omega)
      by_cases e2 : 32 < K.size
      · have t3 : decide ((32 : Int) < (K.size : Int)) = true := decide_eq_true (by omega)
        have HR := Lib.hid (HNO.out (by rw [HAT.out, decide_eq_false (show ¬ K.size ≤ 32 by omega)]; simp))
        clear e1 e2 
        go_wp2_with fail
        go_ret
        exact ⟨by rw [HR.out]; rfl, HF.out⟩
      have t3 : decide ((32 : Int) < (K.size : Int)) = false := decide_eq_false (by omega)
      by_cases e3 : 64 < V.size
      · have t4 : decide ((64 : Int) < (V.size : Int)) = true := decide_eq_true (by omega)
        have HR := Lib.hid (HNO.out (by rw [HAT.out, decide_eq_false (show ¬ V.size ≤ 64 by omega)]; simp))
        clear e1 e2 e3
        go_wp2_with fail
        go_ret
        exact ⟨by rw [HR.out]; rfl, HF.out⟩
      have t4 : decide ((64 : Int) < (V.size : Int)) = false := decide_eq_false (by omega)
      have HP := Lib.hid (show prOk (l[k]'HKL.out) = true by rw [HPR.out, decide_eq_true (show 0 < K.size by omega), decide_eq_true (show K.size ≤ 32 by omega), decide_eq_true (show V.size ≤ 64 by omega)]; rfl)
      clear e1 e2 e3
      go_wp2_with fail
      go_loopw [4] (fun i wq => ∃ m : Nat, m ≤ k ∧ i = .int .i64 (m : Int) ∧ Fr (fun _ => False) w wq ∧ Aside (∀ j (hj : j < m) (hjl : j < l.length), (l[j]'hjl).1 ≠ (l[k]'HKL.out).1)) (fun i _ => k - (intOf i).toNat)
      case atStart => exact ⟨0, Nat.zero_le _, rfl, HF.out, fun j hj => absurd hj (Nat.not_lt_zero _)⟩
      case round =>
        obtain ⟨m, hm, rfl, hfq, hdis⟩ := hrel
        have HFQ := Lib.hid hfq
        have HD := Lib.hid hdis
        clear hfq hdis
        by_cases hmk : m < k
        · have hml : m < l.length := by have := HKL.out; omega
          obtain ⟨d0, d1⟩ := (HPB.out.fr HFQ.out.drew id).cells m hml
          obtain ⟨d2, d3⟩ := (HPB.out.fr HFQ.out.drew id).cells k HKL.out
          obtain ⟨d4, d5⟩ := (HPB.out.fr HFQ.out id).cells m hml
          obtain ⟨d6, d7⟩ := (HPB.out.fr HFQ.out id).cells k HKL.out
          obtain ⟨M, hM⟩ : ∃ s, s = str l[m].1 := ⟨_, rfl⟩
          rw [← hM] at d0 d4
          rw [← HK.out] at d2 d6
          have hmi : (m : Int) < (k : Int) := by omega
          have hmn : (m : Int) < (n : Int) := by omega
          by_cases hsame : l[m].1 = (l[k]'HKL.out).1
          · have t5 : (M.toList == K.toList) = true := by rw [hM, HK.out, hsame]; simp
            have HR := Lib.hid (HNO.out (seen_key HKL.out hmk hsame))
            clear hsame hM d1 d3 d5 d7
            go_wp2_with fail
            go_quiet (fail)
            go_wp2_with fail
            go_ret
            exact ⟨by rw [HR.out]; rfl, HFQ.out.drewN _⟩
          · have t5 : (M.toList == K.toList) = false := by
              rw [hM, HK.out, str_toList, str_toList]
              exact beq_eq_false_iff_ne.2 hsame
            have HNE := Lib.hid hsame
            clear hsame hM d1 d3 d5 d7
            go_wp2_with fail
            go_quiet (fail)
            go_wp2_with fail
            go_roundw
            case rel =>
              refine ⟨m + 1, by omega, by go_num, HFQ.out.drewN _, fun j hj hjl => ?_⟩
              by_cases e : j = m
              · subst e; exact HNE.out
              · exact HD.out j (by omega) hjl
            case measure => simp [intOf]; omega
        · obtain rfl : m = k := by omega
          have hge : ¬ (m : Int) < (m : Int) := by omega
          have HOK := Lib.hid (unseen_key HKL.out HP.out (fun j hj => HD.out j hj (by have := HKL.out; omega)))
          clear hmk
          go_wp2_with fail
          go_roundw
          case rel =>
            refine ⟨m + 1, by omega, by go_num, HFQ.out, fun j hj => ?_⟩
            by_cases e : j = m
            · subst e; exact HOK.out
            · exact HA.out j (by omega)
          case measure => simp [intOf]; omega
    · obtain rfl : k = n := by omega
      have hge : ¬ (k : Int) < (k : Int) := by omega
      have HR := Lib.hid (show rb = true by
        rw [HRB.out, right_all (fun j hj => HA.out j (by rw [HN.out]; exact hj)), ← HN.out]
        exact decide_eq_true (by have := HN8.out; omega))
      clear hlt
      go_wp2_with fail
      go_ret
      exact ⟨by rw [HR.out]; rfl, HF.out⟩
end Go.Proofs.YtcchhfkmhbjdmaaGreat
