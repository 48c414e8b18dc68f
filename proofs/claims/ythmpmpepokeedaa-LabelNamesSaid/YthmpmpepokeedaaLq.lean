/- LabelNames: the law's walk. -/
import Derived.Test.YthmpmpepokeedaaLp
set_option linter.unusedVariables false
set_option linter.unusedSimpArgs false
set_option pp.deepTerms true
set_option pp.maxSteps 100000
namespace Go.Proofs.Ythmpmpepokeedaa
open Go.RowKit
set_option maxRecDepth 20000 in
set_option maxHeartbeats 1000000 in
theorem names_long (A B : ByteArray) (w : World) (h : 200 < A.size ∨ 200 < B.size) : Calls Try.prog 11 #[.string A, .string B] w fun e w' => e = .returned (.bool true) ∧ Fr (fun _ => False) w w' := by
  by_cases h1 : 200 < A.size
  · have t1 : decide ((200 : Int) < (A.size : Int)) = true := decide_eq_true (by omega)
    clear h h1
    go_enter Try.func11, Try.ntmps11
    go_wp2_with fail
    refine (label_awake _).mono ?_
    rintro e w1 ⟨rfl, f1⟩
    have G1 := Lib.hid f1
    clear f1
    go_wp2_with fail
    go_ret
    exact ⟨rfl, G1.out⟩
  · have t1 : decide ((200 : Int) < (A.size : Int)) = false := decide_eq_false (by omega)
    have t2 : decide ((200 : Int) < (B.size : Int)) = true := decide_eq_true (by omega)
    clear h h1
    go_enter Try.func11, Try.ntmps11
    go_wp2_with fail
    refine (label_awake _).mono ?_
    rintro e w1 ⟨rfl, f1⟩
    have G1 := Lib.hid f1
    clear f1
    go_wp2_with fail
    go_ret
    exact ⟨rfl, G1.out⟩
set_option maxRecDepth 20000 in
set_option maxHeartbeats 4000000 in
theorem names_short (a b : List UInt8) (w : World) (ha : a.length ≤ 200) (hb : b.length ≤ 200) : Calls Try.prog 11 #[.string (str a), .string (str b)] w fun e w' => e = .returned (.bool true) ∧ Fr (fun _ => False) w w' := by
  obtain ⟨A, hA⟩ : ∃ s, s = str a := ⟨_, rfl⟩
  obtain ⟨B, hB⟩ : ∃ s, s = str b := ⟨_, rfl⟩
  obtain ⟨AB, hAB⟩ : ∃ s, s = str (a ++ b) := ⟨_, rfl⟩
  have hsA : A.size = a.length := by rw [hA, str_size]
  have hsB : B.size = b.length := by rw [hB, str_size]
  have t1 : decide ((200 : Int) < (A.size : Int)) = false := decide_eq_false (by omega)
  have t2 : decide ((200 : Int) < (B.size : Int)) = false := decide_eq_false (by omega)
  have hap : A ++ B = AB := by
    rw [hA, hB, hAB]
    apply ByteArray.ext
    simp [str]
  have hbd : ¬ 9223372036854775807 < A.size + B.size := by omega
  have hbd' : A.size + B.size ≤ 9223372036854775807 := by omega
  obtain ⟨n, hn⟩ : ∃ n, n = runesL a := ⟨_, rfl⟩
  obtain ⟨m, hm⟩ : ∃ n, n = runesL b := ⟨_, rfl⟩
  obtain ⟨q, hq⟩ : ∃ n, n = runesL (a ++ b) := ⟨_, rfl⟩
  have HA := Lib.hid (show ∀ w, Calls Try.prog 39 #[.string A] w fun e w' => e = .returned (.int .i64 (n : Int)) ∧ Fr (fun _ => False) w w' from fun w => by rw [hA, hn]; exact runes_calls a (by omega) w)
  have HB := Lib.hid (show ∀ w, Calls Try.prog 39 #[.string B] w fun e w' => e = .returned (.int .i64 (m : Int)) ∧ Fr (fun _ => False) w w' from fun w => by rw [hB, hm]; exact runes_calls b (by omega) w)
  have HAB := Lib.hid (show ∀ w, Calls Try.prog 39 #[.string AB] w fun e w' => e = .returned (.int .i64 (q : Int)) ∧ Fr (fun _ => False) w w' from fun w => by rw [hAB, hq]; exact runes_calls (a ++ b) (by rw [List.length_append]; omega) w)
  have HRt := Lib.hid (show ∀ w, Calls Try.prog 40 #[.string A] w fun e w' => e = .returned (.bool (decide (0 < n))) ∧ Fr (fun _ => False) w w' from fun w => by rw [hA, hn]; exact right_name a (by omega) w)
  have hln := runesN_le a
  have hn32 : n ≤ 32 := by rw [hn]; unfold runesL; split <;> omega
  have hm32 : m ≤ 32 := by rw [hm]; unfold runesL; split <;> omega
  have hboth : 0 < n → 0 < m → q = if 32 < n + m then 0 else n + m := fun h1 h2 => by rw [hq]; exact runes_both hn hm h1 h2
  have HBoth := Lib.hid hboth
  have HNn := Lib.hid hn
  have HAd := Lib.hid hA
  have hw1 : IntKind.i64.wrap ((n : Int) + (m : Int)) = (n : Int) + (m : Int) := IntWalk.i64_in _ (by omega)
  have hw2 : IntKind.i64.wrap (2 * (n : Int)) = 2 * (n : Int) := IntWalk.i64_in _ (by omega)
  have HSA := Lib.hid (And.intro hsA ha)
  rw [← hA, ← hB]
  clear hA hB hAB hsA hsB hn hm hq hboth hln ha hb
  -- the first test
  have htest : ∃ x y : Bool, ((q : Int) == (n : Int) + (m : Int)) = x ∧ decide ((n : Int) + (m : Int) ≤ 32) = y ∧ (0 < n → 0 < m → x = y) := by
    refine ⟨_, _, rfl, rfl, fun h1 h2 => ?_⟩
    rw [HBoth.out h1 h2]
    by_cases h : 32 < n + m
    · rw [if_pos h, decide_eq_false (by omega)]
      exact beq_eq_false_iff_ne.2 (by omega)
    · rw [if_neg h, decide_eq_true (by omega)]
      exact beq_iff_eq.2 (by omega)
  obtain ⟨x, y, hx, hy, hxy⟩ := htest
  have HXY := Lib.hid hxy
  clear hxy
  by_cases hn0 : 0 < n
  · have u1 : decide ((0 : Int) < (n : Int)) = true := decide_eq_true (by omega)
    have u2 : decide (0 < n) = true := decide_eq_true hn0
    have u3 : ((n : Int) == 0) = false := beq_eq_false_iff_ne.2 (by omega)
    have u4 : (n == 0) = false := beq_eq_false_iff_ne.2 (by omega)
    obtain ⟨hsome, _⟩ := runesL_some HNn.out hn0
    obtain ⟨c, r, hcr, h45⟩ := runes_head hsome hn0
    have htw := runesW_twice _ _ _ hsome
    have hsz := HSA.out.1
    have v1 : decide ((n : Int) ≤ 32) = true := decide_eq_true (by omega)
    have v1' : decide (n ≤ 32) = true := decide_eq_true hn32
    have v2 : decide ((A.size : Int) ≤ 2 * (n : Int)) = true := decide_eq_true (by omega)
    have hx0 := run_head c r A (by rw [HAd.out, hcr])
    have v3 : ((c.toNat : Int) != 45) = true := by simp; omega
    have v3' : (c.toNat != 45) = true := by simp; omega
    have v4 : ((c.toNat : Int) == 45) = false := beq_eq_false_iff_ne.2 (by omega)
    have HX0 := Lib.hid (And.intro v2 (And.intro v3 (And.intro v3' v4)))
    have HH := Lib.hid hx0
    have HSome := Lib.hid hsome
    have HV := Lib.hid (And.intro v1 v1')
    have HXY2 := Lib.hid (show 0 < m → x = y from fun h => HXY.out hn0 h)
    clear hn0 hsome hcr h45 htw hsz v1 v1' v2 hx0 v3 v3' v4
    go_enter Try.func11, Try.ntmps11
    go_wp2_with fail
    refine (label_awake _).mono ?_
    rintro e w1 ⟨rfl, f1⟩
    have G1 := Lib.hid f1
    clear f1
    go_wp2_with fail
    refine (HA.out w1).mono ?_
    rintro e w2 ⟨rfl, f2⟩
    have G2 := Lib.hid (G1.out.trans f2 (fun i hi => hi.elim))
    clear f2
    go_wp2_with fail
    refine (HB.out w2).mono ?_
    rintro e w3 ⟨rfl, f3⟩
    have G3 := Lib.hid (G2.out.trans f3 (fun i hi => hi.elim))
    clear f3
    -- behind the test
    have hjoin : ∀ wj, Fr (fun _ => False) w wj → True := fun _ _ => trivial
    clear hjoin
    by_cases hm0 : 0 < m
    all_goals
      first
        | (have z1 : decide ((0 : Int) < (m : Int)) = true := decide_eq_true (by omega)
           have z2 : decide (0 < m) = true := decide_eq_true hm0
           obtain rfl := HXY2.out hm0
           clear hm0
           go_wp2_with fail
           refine (HAB.out w3).mono ?_
           rintro e w4 ⟨rfl, f4⟩
           have G4 := Lib.hid (G3.out.trans f4 (fun i hi => hi.elim))
           clear f4
           (cases x <;> go_wp2_with fail))
        | (have z1 : decide ((0 : Int) < (m : Int)) = false := decide_eq_false (by omega)
           have z2 : decide (0 < m) = false := decide_eq_false hm0
           have G4 := G3
           obtain ⟨w4, hw4⟩ : ∃ w4, w4 = w3 := ⟨_, rfl⟩
           subst hw4
           clear hm0
           go_wp2_with fail)
    all_goals
      obtain ⟨K, hK⟩ : ∃ k, k = w4.heap.size := ⟨_, rfl⟩
      have HK := Lib.hid hK
      rw [← hK]
      clear hK
      go_loopw [] (fun wr => ∃ pos : Nat, wr.heap[K]? = some (.stringIter A pos) ∧ Fr (fun _ => False) w wr ∧ pos ≤ a.length ∧ ∃ k, runesW (decide (pos = 0)) (a.drop pos) = some k) (fun wr => a.length - wr.iterPos K)
      case atStart =>
        refine ⟨0, ?_, ?_, Nat.zero_le _, n, ?_⟩
        · rw [HK.out]; exact World.iter_heap w4 A 0
        · exact G4.out.trans (G := fun _ => False) (Fr.of_below ((Below.refl _ _).alloc (Nat.le_refl _) _)) (fun i hi => hi.elim)
        · rw [decide_eq_true rfl, List.drop_zero]; exact HSome.out
      case round =>
        obtain ⟨pos, hit, hfr, hpl, k, hk⟩ := hrel
        have HF := Lib.hid hfr
        by_cases hp : pos < a.length
        · have hpS : pos < A.size := by rw [HSA.out.1]; exact hp
          have hgo := runes_go a pos hp
          have hst := runes_stop a pos hp
          have hal := rune_alone a pos hp
          rw [← HAd.out] at hgo hst hal
          have hnx : ∀ ty, (Instr.next (.pointer (some ⟨K, 0, none⟩)) true ty).run Try.prog wr = _ := fun ty => Lib.run_next_any_at wr K A pos ty hit hpS
          obtain ⟨r, hr⟩ : ∃ r, r = (Utf8.decode A pos).1 := ⟨_, rfl⟩
          obtain ⟨d, hd⟩ : ∃ r, r = (Utf8.decode A pos).2 := ⟨_, rfl⟩
          rw [← hr, ← hd] at hgo
          rw [← hr] at hst hal
          simp only [← hr, ← hd] at hnx
          have HI := Lib.hid (Lib.iterAt_heap wr K A pos (pos + d) hit)
          have hKw : w.heap.size ≤ K := by rw [HK.out]; exact G4.out.size
          have HF2 := Lib.hid (HF.out.iterAt (.inr hKw) A (pos + d))
          have HIT := Lib.hid hit
          have hL : letB r = true := by
            cases hq : letB r with
            | true => rfl
            | false => rw [hst (.inl hq)] at hk; cases hk
          have hnd : ¬ (pos = 0 ∧ r = 45) := fun h => by rw [hst (.inr h)] at hk; cases hk
          obtain ⟨g1, g2, g3, g4⟩ := hgo hL hnd
          rw [g1] at hk
          obtain ⟨k', hk', _⟩ := Option.map_eq_some_iff.1 hk
          have HNext := Lib.hid (show pos + d ≤ a.length ∧ 1 ≤ d ∧ ∃ k, runesW (decide (pos + d = 0)) (a.drop (pos + d)) = some k from ⟨g2, g3, k', by rw [decide_eq_false (by omega)]; exact hk'⟩)
          by_cases h45 : r = 45
          · have s1 : ((r : Int) != 45) = false := by rw [h45]; rfl
            have s2 : ((r : Int) == 45) = true := by rw [h45]; rfl
            clear hr hd hgo hst hal hL hnd g1 g2 g3 g4 hk hk' h45 hit hfr
            go_wp2_with fail
            go_roundw
            case rel => exact ⟨pos + d, HI.out, HF2.out, HNext.out.1, HNext.out.2.2⟩
            case measure => simp only [World.iterPos, HI.out, HIT.out]; have := HNext.out.2.1; omega
          · obtain ⟨l1, hl1, hl2, hl3⟩ := hal hL h45
            have s1 : ((r : Int) != 45) = true := by simp; omega
            have s2 : ((r : Int) == 45) = false := beq_eq_false_iff_ne.2 (by omega)
            have hcv := run_conv_rune r
            rw [hl1] at hcv
            have HRun := Lib.hid (show ∀ w, Calls Try.prog 39 #[.string (str l1)] w fun e w' => e = .returned (.int .i64 1) ∧ Fr (fun _ => False) w w' from fun w => by
              have h := runes_calls l1 (by omega) w
              rw [hl2] at h; exact h)
            clear hr hd hgo hst hal hL hnd g1 g2 g3 g4 hk hk' h45 hit hfr hl1 hl2 hl3
            generalize str l1 = L1 at hcv HRun
            have hcv' := hcv (wr.iterAt K A (pos + d))
            clear hcv
            go_wp2_with fail
            refine (HRun.out _).mono ?_
            rintro e w6 ⟨rfl, f6⟩
            have HI6 := Lib.hid (f6.heap HI.out id)
            have HF6 := Lib.hid (HF2.out.trans f6 (fun i hi => hi.elim))
            clear f6
            go_wp2_with fail
            go_roundw
            case rel => exact ⟨pos + d, HI6.out, HF6.out, HNext.out.1, HNext.out.2.2⟩
            case measure => simp only [World.iterPos, HI6.out, HIT.out]; have := HNext.out.2.1; omega
        · have hpS : ¬ pos < A.size := by rw [HSA.out.1]; exact hp
          have hnx : ∀ ty, (Instr.next (.pointer (some ⟨K, 0, none⟩)) true ty).run Try.prog wr = _ := fun ty => Lib.run_next_end_at wr K A pos ty hit hpS
          obtain ⟨v1, v1'⟩ := HV.out
          obtain ⟨v2, v3, v3', v4⟩ := HX0.out
          have hx0 := HH.out
          clear hit hfr hk hp hpS
          go_wp2_with fail
          go_ret
          exact ⟨rfl, HF.out⟩
  · have u1 : decide ((0 : Int) < (n : Int)) = false := decide_eq_false (by omega)
    have u2 : decide (0 < n) = false := decide_eq_false hn0
    have u3 : ((n : Int) == 0) = true := beq_iff_eq.2 (by omega)
    have HRt2 := Lib.hid (show ∀ w, Calls Try.prog 40 #[.string A] w fun e w' => e = .returned (.bool false) ∧ Fr (fun _ => False) w w' from fun w => by have h := HRt.out w; rw [u2] at h; exact h)
    clear hn0
    go_enter Try.func11, Try.ntmps11
    go_wp2_with fail
    refine (label_awake _).mono ?_
    rintro e w1 ⟨rfl, f1⟩
    have G1 := Lib.hid f1
    clear f1
    go_wp2_with fail
    refine (HA.out w1).mono ?_
    rintro e w2 ⟨rfl, f2⟩
    have G2 := Lib.hid (G1.out.trans f2 (fun i hi => hi.elim))
    clear f2
    go_wp2_with fail
    refine (HB.out w2).mono ?_
    rintro e w3 ⟨rfl, f3⟩
    have G3 := Lib.hid (G2.out.trans f3 (fun i hi => hi.elim))
    clear f3
    go_wp2_with fail
    refine (HRt2.out w3).mono ?_
    rintro e w4 ⟨rfl, f4⟩
    have G4 := Lib.hid (G3.out.trans f4 (fun i hi => hi.elim))
    clear f4
    go_wp2_with fail
    go_ret
    exact ⟨rfl, G4.out⟩
theorem names_walk (A B : ByteArray) (w : World) : Calls Try.prog 11 #[.string A, .string B] w fun e w' => e = .returned (.bool true) ∧ Fr (fun _ => False) w w' := by
  by_cases h : 200 < A.size ∨ 200 < B.size
  · exact names_long A B w h
  · obtain ⟨a, ha⟩ : ∃ a, A = str a := ⟨A.data.toList, by apply ByteArray.ext; simp [str]⟩
    obtain ⟨b, hb⟩ : ∃ b, B = str b := ⟨B.data.toList, by apply ByteArray.ext; simp [str]⟩
    subst ha; subst hb
    rw [str_size, str_size] at h
    exact names_short a b w (by omega) (by omega)
end Go.Proofs.Ythmpmpepokeedaa
