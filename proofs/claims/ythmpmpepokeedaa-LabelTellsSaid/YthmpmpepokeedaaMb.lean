/- Labels: the document's Same and Subset, walked. -/
import Derived.Test.YthmpmpepokeedaaMa
set_option linter.unusedVariables false
set_option linter.unusedSimpArgs false
set_option pp.deepTerms true
set_option pp.maxSteps 100000
namespace Go.Proofs.Ythmpmpepokeedaa
open Go.RowKit
theorem eql_run (x y : Pr) (W : World) : (binOp .eql 77 (.agg #[.string (str x.1), .string (str x.2)]) (.agg #[.string (str y.1), .string (str y.2)])).run Try.prog W = .ok (.bool (decide (x = y))) W := by
  refine (eqlP.1 x y W).trans ?_
  congr 2
  rw [Bool.eq_iff_iff]
  simp [Prod.ext_iff]
theorem neq_run (x y : Pr) (W : World) : (binOp .neq 77 (.agg #[.string (str x.1), .string (str x.2)]) (.agg #[.string (str y.1), .string (str y.2)])).run Try.prog W = .ok (.bool (!decide (x = y))) W := by
  refine (neqP.1 x y W).trans ?_
  congr 2
  rw [Bool.eq_iff_iff]
  simp [Prod.ext_iff]
set_option maxRecDepth 20000 in
set_option maxHeartbeats 8000000 in
theorem same_calls (a a2 : Option Addr) (cap cap2 : Nat) (l m : List Pr) (w : World) (hl : PSl w a l) (hm : PSl w a2 m) (hlc : l.length ≤ cap) (hcap : cap ≤ 9223372036854775807) (hmc : m.length ≤ cap2) (hcap2 : cap2 ≤ 9223372036854775807) :
    Calls Try.prog 41 #[.slice a l.length cap, .slice a2 m.length cap2] w fun e w' => e = .returned (.bool (decide (l = m))) ∧ Fr (fun _ => False) w w' := by
  obtain ⟨rb, hrb⟩ : ∃ x, x = decide (l = m) := ⟨_, rfl⟩
  have HRB := Lib.hid hrb
  have HL := Lib.hid (And.intro hl hm)
  rw [← hrb]
  obtain ⟨n, hn⟩ : ∃ n, n = l.length := ⟨_, rfl⟩
  obtain ⟨n2, hn2⟩ : ∃ n, n = m.length := ⟨_, rfl⟩
  have HN := Lib.hid (And.intro hn hn2)
  rw [← hn] at hlc ⊢
  rw [← hn2] at hmc ⊢
  clear hrb hl hm hn hn2
  by_cases hne : n = n2
  · subst hne
    go_enter Try.func41, Try.ntmps41
    go_wp2_with fail
    go_loopw [5] (fun i wr => ∃ k : Nat, k ≤ n ∧ i = .int .i64 (k : Int) ∧ Fr (fun _ => False) w wr ∧ Aside (∀ j, j < k → l[j]? = m[j]?)) (fun i _ => n - (intOf i).toNat)
    case atStart => exact ⟨0, Nat.zero_le _, rfl, Fr.refl _ _, fun j hj => absurd hj (Nat.not_lt_zero _)⟩
    case round =>
      obtain ⟨k, hk, rfl, hfr, hall⟩ := hrel
      have HF := Lib.hid hfr
      have HA := Lib.hid hall
      clear hfr hall
      by_cases hlt : k < n
      · have hkl : k < l.length := by rw [← HN.out.1]; exact hlt
        have hkm : k < m.length := by rw [← HN.out.2]; exact hlt
        rcases HL.out.1 with h0 | ⟨b, off, rfl, hpb, hb⟩
        · exact absurd hkl (by rw [h0]; simp)
        rcases HL.out.2 with h0 | ⟨b2, off2, rfl, hpb2, hb2⟩
        · exact absurd hkm (by rw [h0]; simp)
        have HPB := Lib.hid (And.intro hpb hpb2)
        have HC := Lib.hid (show ∀ W', Fr (fun _ => False) w W' → _ from fun W' hf => And.intro ((HPB.out.1.fr hf id).cells k hkl) ((HPB.out.2.fr hf id).cells k hkm))
        have hrun := fun W => neq_run l[k] m[k] W
        obtain ⟨dd, hdd⟩ : ∃ x, x = decide (l[k] = m[k]) := ⟨_, rfl⟩
        have HDD := Lib.hid hdd
        have hi0 : (k : Int) < (n : Int) := by omega
        obtain ⟨c0, c1⟩ := HC.out _ HF.out
        obtain ⟨d0, d1⟩ := HC.out _ HF.out.drew
        obtain ⟨c2, c3⟩ := c0
        obtain ⟨c4, c5⟩ := c1
        obtain ⟨d2, d3⟩ := d0
        obtain ⟨d4, d5⟩ := d1
        have HKL := Lib.hid (And.intro hkl hkm)
        rw [← hdd] at hrun
        obtain ⟨K1, hK1⟩ : ∃ s, s = str l[k].1 := ⟨_, rfl⟩
        obtain ⟨V1, hV1⟩ : ∃ s, s = str l[k].2 := ⟨_, rfl⟩
        obtain ⟨K2, hK2⟩ : ∃ s, s = str m[k].1 := ⟨_, rfl⟩
        obtain ⟨V2, hV2⟩ : ∃ s, s = str m[k].2 := ⟨_, rfl⟩
        rw [← hK1, ← hV1, ← hK2, ← hV2] at hrun
        rw [← hK1] at c2 d2
        rw [← hV1] at c3 d3
        rw [← hK2] at c4 d4
        rw [← hV2] at c5 d5
        clear hpb hb hpb2 hb2 hdd hK1 hV1 hK2 hV2
        cases dd with
        | false =>
          have HR := Lib.hid (show rb = false by
            rw [HRB.out]
            refine decide_eq_false (fun e => ?_)
            subst e
            exact absurd HDD.out (by simp))
          go_wp2_with fail
          go_quiet (fail)
          go_wp2_with fail
          go_ret
          exact ⟨by rw [HR.out]; rfl, HF.out.drewN _⟩
        | true =>
          have HE := Lib.hid (show l[k]? = m[k]? by rw [List.getElem?_eq_getElem hkl, List.getElem?_eq_getElem hkm, of_decide_eq_true HDD.out.symm])
          go_wp2_with fail
          go_quiet (fail)
          go_wp2_with fail
          go_roundw
          case rel =>
            refine ⟨k + 1, by omega, by go_num, HF.out.drewN _, fun j hj => ?_⟩
            by_cases e : j = k
            · subst e; exact HE.out
            · exact HA.out j (by omega)
          case measure => simp [intOf]; omega
      · obtain rfl : k = n := by omega
        have hge : ¬ (k : Int) < (k : Int) := by omega
        have HR := Lib.hid (show rb = true by
          rw [HRB.out]
          refine decide_eq_true (List.ext_getElem? (fun j => ?_))
          by_cases hj : j < k
          · exact HA.out j hj
          · rw [List.getElem?_eq_none (by have := HN.out.1; omega), List.getElem?_eq_none (by have := HN.out.2; omega)])
        clear hlt
        go_wp2_with fail
        go_ret
        exact ⟨by rw [HR.out]; rfl, HF.out⟩
  · have t1 : decide ((n : Int) = (n2 : Int)) = false := decide_eq_false (by omega)
    have t2 : decide (n = n2) = false := decide_eq_false hne
    have t3 : ((n : Int) == (n2 : Int)) = false := beq_eq_false_iff_ne.2 (by omega)
    have t4 : ¬ (n : Int) = (n2 : Int) := by omega
    have HR := Lib.hid (show rb = false by
      rw [HRB.out]
      refine decide_eq_false (fun e => ?_)
      subst e
      exact hne (HN.out.1.trans HN.out.2.symm))
    go_enter Try.func41, Try.ntmps41
    go_wp2_with fail
    go_ret
    exact ⟨by rw [HR.out]; rfl, Fr.refl _ _⟩
set_option maxRecDepth 20000 in
set_option maxHeartbeats 8000000 in
theorem refsubset_calls (a a2 : Option Addr) (cap cap2 : Nat) (l m : List Pr) (w : World) (hl : PSl w a l) (hm : PSl w a2 m) (hlc : l.length ≤ cap) (hcap : cap ≤ 9223372036854775807) (hmc : m.length ≤ cap2) (hcap2 : cap2 ≤ 9223372036854775807) :
    Calls Try.prog 43 #[.slice a l.length cap, .slice a2 m.length cap2] w fun e w' => e = .returned (.bool (subB l m)) ∧ Fr (fun _ => False) w w' := by
  have H1 := Lib.hid (show ∀ w', Fr (fun _ => False) w w' → Calls Try.prog 66 #[.slice a l.length cap] w' fun e w2 => e = .returned (.bool (rightB l)) ∧ Fr (fun _ => False) w' w2 from fun w' hf => refright_calls a cap l w' (hl.frF hf) hlc hcap)
  have H2 := Lib.hid (show ∀ w', Fr (fun _ => False) w w' → Calls Try.prog 66 #[.slice a2 m.length cap2] w' fun e w2 => e = .returned (.bool (rightB m)) ∧ Fr (fun _ => False) w' w2 from fun w' hf => refright_calls a2 cap2 m w' (hm.frF hf) hmc hcap2)
  obtain ⟨rb, hrb⟩ : ∃ x, x = subB l m := ⟨_, rfl⟩
  have HRB := Lib.hid (show rb = (rightB l && rightB m && l.all (fun p => m.contains p)) from hrb)
  have HL := Lib.hid (And.intro hl hm)
  have HF0 := Lib.hid (Fr.refl (fun _ => False) w)
  rw [← hrb]
  obtain ⟨n, hn⟩ : ∃ n, n = l.length := ⟨_, rfl⟩
  obtain ⟨n2, hn2⟩ : ∃ n, n = m.length := ⟨_, rfl⟩
  have HN := Lib.hid (And.intro hn hn2)
  rw [← hn] at hlc H1 ⊢
  rw [← hn2] at hmc H2 ⊢
  clear hrb hl hm hn hn2
  obtain ⟨r1, hr1⟩ : ∃ x, x = rightB l := ⟨_, rfl⟩
  obtain ⟨r2, hr2⟩ : ∃ x, x = rightB m := ⟨_, rfl⟩
  rw [← hr1] at H1 HRB
  rw [← hr2] at H2 HRB
  clear hr1 hr2
  cases r1 with
  | false =>
    have HR := Lib.hid (show rb = false by rw [HRB.out]; rfl)
    go_enter Try.func43, Try.ntmps43
    go_wp2_with fail
    refine (H1.out w HF0.out).mono ?_
    rintro e w1 ⟨rfl, f1⟩
    have G1 := Lib.hid f1
    clear f1
    go_wp2_with fail
    go_ret
    exact ⟨by rw [HR.out]; rfl, G1.out⟩
  | true =>
  cases r2 with
  | false =>
    have HR := Lib.hid (show rb = false by rw [HRB.out]; rfl)
    go_enter Try.func43, Try.ntmps43
    go_wp2_with fail
    refine (H1.out w HF0.out).mono ?_
    rintro e w1 ⟨rfl, f1⟩
    have G1 := Lib.hid f1
    clear f1
    go_wp2_with fail
    refine (H2.out w1 G1.out).mono ?_
    rintro e w2 ⟨rfl, f2⟩
    have G2 := Lib.hid (G1.out.trans f2 (fun i hi => hi.elim))
    clear f2
    go_wp2_with fail
    go_ret
    exact ⟨by rw [HR.out]; rfl, G2.out⟩
  | true =>
  have HRA := Lib.hid (show rb = l.all (fun p => m.contains p) by rw [HRB.out]; rfl)
  go_enter Try.func43, Try.ntmps43
  go_wp2_with fail
  refine (H1.out w HF0.out).mono ?_
  rintro e w1 ⟨rfl, f1⟩
  have G1 := Lib.hid f1
  clear f1
  go_wp2_with fail
  refine (H2.out w1 G1.out).mono ?_
  rintro e w2 ⟨rfl, f2⟩
  have G2 := Lib.hid (G1.out.trans f2 (fun i hi => hi.elim))
  clear f2
  go_wp2_with fail
  go_loopw [5] (fun i wr => ∃ k : Nat, k ≤ n ∧ i = .int .i64 (k : Int) ∧ Fr (fun _ => False) w wr ∧ Aside (∀ j (hj : j < k) (hjl : j < l.length), m.contains l[j] = true)) (fun i _ => n - (intOf i).toNat)
  case atStart => exact ⟨0, Nat.zero_le _, rfl, G2.out, fun j hj => absurd hj (Nat.not_lt_zero _)⟩
  case round =>
    obtain ⟨k, hk, rfl, hfr, hall⟩ := hrel
    have HF := Lib.hid hfr
    have HA := Lib.hid hall
    clear hfr hall
    by_cases hlt : k < n
    · have hkl : k < l.length := by rw [← HN.out.1]; exact hlt
      rcases HL.out.1 with h0 | ⟨b, off, rfl, hpb, hb⟩
      · exact absurd hkl (by rw [h0]; simp)
      have HPB := Lib.hid hpb
      have HKL := Lib.hid hkl
      have hi0 : (k : Int) < (n : Int) := by omega
      clear hpb hb hkl
      go_wp2_with fail
      go_loopw [6, 7] (fun v i wq => ∃ j : Nat, j ≤ n2 ∧ i = .int .i64 (j : Int) ∧ v = .bool ((m.take j).contains (l[k]'HKL.out)) ∧ Fr (fun _ => False) w wq) (fun _ i _ => n2 - (intOf i).toNat)
      case atStart => exact ⟨0, Nat.zero_le _, rfl, rfl, HF.out⟩
      case round =>
        obtain ⟨j, hj, rfl, rfl, hfq⟩ := hrel
        have HFQ := Lib.hid hfq
        clear hfq
        by_cases hjm : j < n2
        · have hjl : j < m.length := by rw [← HN.out.2]; exact hjm
          have hts : (m.take (j + 1)).contains (l[k]'HKL.out) = ((m.take j).contains (l[k]'HKL.out) || decide (l[k]'HKL.out = m[j])) := by
            rw [List.take_succ_eq_append_getElem hjl, List.contains_append]
            congr 1
            rw [Bool.eq_iff_iff]; simp
          obtain ⟨z, hz⟩ : ∃ z, z = (m.take j).contains (l[k]'HKL.out) := ⟨_, rfl⟩
          rw [← hz] at hts ⊢
          have hji : (j : Int) < (n2 : Int) := by omega
          clear hz
          cases z with
          | true =>
            have HT := Lib.hid hts
            clear hts
            go_wp2_with fail
            go_quiet (fail)
            go_wp2_with fail
            go_roundw
            case rel => exact ⟨j + 1, by omega, by go_num, by rw [HT.out]; rfl, HFQ.out.drewN _⟩
            case measure => simp [intOf]; omega
          | false =>
            rcases HL.out.2 with h0 | ⟨b2, off2, rfl, hpb2, hb2⟩
            · exact absurd hjl (by rw [h0]; simp)
            have HC := Lib.hid (show ∀ W', Fr (fun _ => False) w W' → _ from fun W' hf => And.intro ((HPB.out.fr hf id).cells k HKL.out) ((hpb2.fr hf id).cells j hjl))
            have hrun := fun W => eql_run (l[k]'HKL.out) m[j] W
            obtain ⟨dd, hdd⟩ : ∃ x, x = decide (l[k]'HKL.out = m[j]) := ⟨_, rfl⟩
            obtain ⟨c0, c1⟩ := HC.out _ HFQ.out
            obtain ⟨d0, d1⟩ := HC.out _ HFQ.out.drew
            obtain ⟨c2, c3⟩ := c0
            obtain ⟨c4, c5⟩ := c1
            obtain ⟨d2, d3⟩ := d0
            obtain ⟨d4, d5⟩ := d1
            rw [← hdd] at hrun hts
            obtain ⟨K1, hK1⟩ : ∃ s, s = str (l[k]'HKL.out).1 := ⟨_, rfl⟩
            obtain ⟨V1, hV1⟩ : ∃ s, s = str (l[k]'HKL.out).2 := ⟨_, rfl⟩
            obtain ⟨K2, hK2⟩ : ∃ s, s = str m[j].1 := ⟨_, rfl⟩
            obtain ⟨V2, hV2⟩ : ∃ s, s = str m[j].2 := ⟨_, rfl⟩
            rw [← hK1, ← hV1, ← hK2, ← hV2] at hrun
            rw [← hK1] at c2 d2
            rw [← hV1] at c3 d3
            rw [← hK2] at c4 d4
            rw [← hV2] at c5 d5
            have HT := Lib.hid hts
            clear hpb2 hb2 hdd hK1 hV1 hK2 hV2 hts
            go_wp2_with fail
            go_quiet (fail)
            go_wp2_with fail
            go_roundw
            case rel => exact ⟨j + 1, by omega, by go_num, by rw [HT.out]; rfl, HFQ.out.drewN _⟩
            case measure => simp [intOf]; omega
        · obtain rfl : j = n2 := by omega
          have hge : ¬ (j : Int) < (j : Int) := by omega
          rw [show m.take j = m by rw [HN.out.2]; exact List.take_of_length_le (Nat.le_refl _)]
          obtain ⟨z, hz⟩ : ∃ z, z = m.contains (l[k]'HKL.out) := ⟨_, rfl⟩
          rw [← hz]
          cases z with
          | false =>
            have HR := Lib.hid (show rb = false by
              rw [HRA.out, List.all_eq_false]
              exact ⟨l[k]'HKL.out, List.getElem_mem HKL.out, by rw [← hz]; simp⟩)
            clear hz hjm
            go_wp2_with fail
            go_ret
            exact ⟨by rw [HR.out]; rfl, HFQ.out⟩
          | true =>
            have HZ := Lib.hid hz.symm
            clear hz hjm
            go_wp2_with fail
            go_roundw
            case rel =>
              refine ⟨k + 1, by omega, by go_num, HFQ.out, fun i hi hil => ?_⟩
              by_cases e : i = k
              · subst e; exact HZ.out
              · exact HA.out i (by omega) hil
            case measure => simp [intOf]; omega
    · obtain rfl : k = n := by omega
      have hge : ¬ (k : Int) < (k : Int) := by omega
      have HR := Lib.hid (show rb = true by
        rw [HRA.out, List.all_eq_true]
        intro x hx
        obtain ⟨i, hi, rfl⟩ := List.getElem_of_mem hx
        exact HA.out i (by have := HN.out.1; omega) hi)
      clear hlt
      go_wp2_with fail
      go_ret
      exact ⟨by rw [HR.out]; rfl, HF.out⟩
end Go.Proofs.Ythmpmpepokeedaa
