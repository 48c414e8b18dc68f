/- Labels: Few; awake. -/
import Derived.Test.YtcchhfkmhbjdmaaGreatLk
set_option linter.unusedVariables false
set_option linter.unusedSimpArgs false
set_option pp.deepTerms true
set_option pp.maxSteps 100000
namespace Go.Proofs.YtcchhfkmhbjdmaaGreat
open Go.RowKit
section
variable {P : Program} {ops : Array Oper} {Q : Exit → Act → World → Prop} {md : Region.Mode} {S : World → Prop} {e : Nat}
def edgeB (md : Region.Mode) (ops : Array Oper) (k j : Nat) : Bool := match ops[k]? with
  | some o => o.after.any fun ed => Region.binds md ed && ed.on == j
  | none => false
def pathB (md : Region.Mode) (ops : Array Oper) (i : Nat) : Nat → List Nat → Bool
  | k, [] => edgeB md ops k i
  | k, j :: l => edgeB md ops k j && pathB md ops i j l
theorem reach_of_path {i : Nat} : ∀ (l : List Nat) (k : Nat), pathB md ops i k l = true → ∃ n, reachB md ops i n k = true
  | [], k, h => ⟨1, by
    simp only [pathB, edgeB] at h
    unfold reachB
    cases hk : ops[k]? with
    | none => rw [hk] at h; cases h
    | some o =>
      rw [hk] at h
      obtain ⟨ed, hed, hb⟩ := Array.any_eq_true'.1 h
      simp only [Bool.and_eq_true] at hb
      exact Array.any_eq_true'.2 ⟨ed, hed, by rw [hb.1, hb.2]; rfl⟩⟩
  | j :: l, k, h => by
    simp only [pathB, Bool.and_eq_true] at h
    obtain ⟨n, hn⟩ := reach_of_path l j h.2
    refine ⟨n + 1, ?_⟩
    have h1 := h.1
    unfold edgeB at h1
    unfold reachB
    cases hk : ops[k]? with
    | none => rw [hk] at h1; cases h1
    | some o =>
      rw [hk] at h1
      obtain ⟨ed, hed, hb⟩ := Array.any_eq_true'.1 h1
      simp only [Bool.and_eq_true, beq_iff_eq] at hb
      exact Array.any_eq_true'.2 ⟨ed, hed, by rw [hb.1, hb.2, hn]; simp⟩
/-- Take number i first; that the breaker waits for it is shown by a way. -/
theorem wpAnyT_path {i : Nat} {p : List Nat} {oi : Oper} {v : Value} {fuel : Nat} {listed : Array Bool} {a : Act} {w : World} (hi : ops[i]? = some oi)
    (hb : (Region.noSelect ops && Region.free md ops listed i && (Region.ready md ops listed).contains i && decide (e ≠ i) && decide (listed.size = ops.size) && closedB md ops listed) = true) (hp : pathB md ops i e p = true)
    (hQ : ∀ c a w, Q (.panic c) (a.put oi.dst v) w → Q (.panic c) a w) (hS : S w) (hy : YieldsIf P ops S oi v a)
    (h : wpAnyT P md ops Q S e fuel (listed.setIfInBounds i true) (a.put oi.dst v) w) : wpAnyT P md ops Q S e (fuel + 1) listed a w := by
  simp only [Bool.and_eq_true, decide_eq_true_eq] at hb
  obtain ⟨⟨⟨⟨⟨hs, hf⟩, hr⟩, hei⟩, hsz⟩, hc⟩ := hb
  obtain ⟨n, hw⟩ := reach_of_path p e hp
  exact wpAnyT_first hi (Region.noSelect_spec hs) hQ hw hei fuel listed a w hsz (closed_of hc) (Region.free_spec hi hf) (by simpa using hr) hy hS h
theorem wpOp_guarded {i : Nat} {o : Oper} {a : Act} {w : World} {K0 : Act → World → Prop} (hi : ops[i]? = some o) (hg : Region.wanted o (yielded ops a.tmps) = true) (h : ∀ K : Act → World → Prop, (∀ a' w', K0 a' w' → K a' w') → o.wp P a w K Q) : wpOp P ops Q i K0 a w := by
  unfold wpOp
  simp only [hi]
  rw [if_pos hg]
  exact .inl (h _ (fun _ _ h => h))
theorem wpAnyT_doneP {listed : Array Bool} (he : listed.getD e true = true) : ∀ (fuel : Nat) (a : Act) (w : World), wpAny P md ops Q fuel listed a w → wpAnyT P md ops Q S e fuel listed a w := by
  intro fuel
  induction fuel generalizing listed with
  | zero => intro a w h; exact h
  | succ n ih =>
    intro a w h
    refine ⟨h.1, fun i hi => wpOp_mono (fun a' w' h' => ?_) (h.2 i hi)⟩
    have h2 : (listed.setIfInBounds i true).getD e true = true := by
      cases hq : (listed.setIfInBounds i true).getD e true with
      | true => rfl
      | false => rw [getD_set_false hq] at he; cases he
    exact ⟨fun hf => (by rw [h2] at hf; cases hf), ih h2 a' w' h'⟩
end
def fewB (l : List Pr) : Bool := decide (l.length ≤ 20) && l.all (fun p => decide (p.1.length ≤ 200) && decide (p.2.length ≤ 200))
theorem fewB_iff (l : List Pr) : fewB l = true ↔ l.length ≤ 20 ∧ ∀ p ∈ l, p.1.length ≤ 200 ∧ p.2.length ≤ 200 := by
  unfold fewB
  rw [Bool.and_eq_true, decide_eq_true_eq, List.all_eq_true]
  simp only [Bool.and_eq_true, decide_eq_true_eq]
theorem few_no {l : List Pr} {k : Nat} (hk : k < l.length) (h : 20 ≤ k ∨ 200 < l[k].1.length ∨ 200 < l[k].2.length) : fewB l = false := by
  cases hf : fewB l with
  | false => rfl
  | true =>
    have h1 := (fewB_iff l).1 hf
    have h2 := h1.2 _ (List.getElem_mem hk)
    omega
set_option maxRecDepth 20000 in
set_option maxHeartbeats 2000000 in
theorem few_some (b off cap : Nat) (l : List Pr) (w : World) (hb : PB w b off l) (hlc : l.length ≤ cap) (hcap : cap ≤ 9223372036854775807) :
    Calls Tryz.prog 5 #[.slice (some ⟨b, off, none⟩) l.length cap] w fun e w' => e = .returned (.bool (fewB l)) ∧ Fr (fun _ => False) w w' := by
  obtain ⟨n, hn⟩ : ∃ n, n = l.length := ⟨_, rfl⟩
  obtain ⟨r, hr⟩ : ∃ r, r = fewB l := ⟨_, rfl⟩
  have HB := Lib.hid hb
  have HN := Lib.hid hn
  have HR := Lib.hid hr
  rw [← hn, ← hr]
  rw [← hn] at hlc
  clear hb hn hr
  go_enter Tryz.func5, Tryz.ntmps5
  go_wp2_with fail
  go_loopw [3] (fun i wr => ∃ k : Nat, k ≤ n ∧ k ≤ 20 ∧ i = .int .i64 (k : Int) ∧ Fr (fun _ => False) w wr ∧ Aside (∀ j (hj : j < l.length), j < k → l[j].1.length ≤ 200 ∧ l[j].2.length ≤ 200)) (fun i _ => n - (intOf i).toNat)
  case atStart => exact ⟨0, Nat.zero_le _, by omega, rfl, Fr.refl _ _, fun j _ hj => absurd hj (Nat.not_lt_zero _)⟩
  case round =>
    obtain ⟨k, hk, hk20, rfl, hfr, hall⟩ := hrel
    have HF := Lib.hid hfr
    have HA := Lib.hid hall
    clear hall
    by_cases hlt : k < n
    · have hkl : k < l.length := by rw [← HN.out]; exact hlt
      have hi0 : (k : Int) < (n : Int) := by omega
      by_cases h20 : 20 ≤ k
      · have t1 : decide ((20 : Int) ≤ (k : Int)) = true := decide_eq_true (by omega)
        have t2 : decide (20 ≤ k) = true := decide_eq_true h20
        have HE := Lib.hid (show r = false by rw [HR.out]; exact few_no hkl (.inl h20))
        clear hfr h20
        go_wp2_with fail
        go_ret
        exact ⟨by rw [HE.out]; rfl, HF.out⟩
      · have t1 : decide ((20 : Int) ≤ (k : Int)) = false := decide_eq_false (by omega)
        have t2 : decide (20 ≤ k) = false := decide_eq_false h20
        obtain ⟨c0, c1⟩ := (HB.out.fr hfr id).cells k hkl
        obtain ⟨K, hK⟩ : ∃ s, s = str l[k].1 := ⟨_, rfl⟩
        obtain ⟨V, hV⟩ : ∃ s, s = str l[k].2 := ⟨_, rfl⟩
        have hKs : K.size = l[k].1.length := by rw [hK, str_size]
        have hVs : V.size = l[k].2.length := by rw [hV, str_size]
        rw [← hK] at c0
        rw [← hV] at c1
        by_cases e1 : 200 < l[k].1.length
        · have t3 : decide ((200 : Int) < (K.size : Int)) = true := decide_eq_true (by omega)
          have HE := Lib.hid (show r = false by rw [HR.out]; exact few_no hkl (.inr (.inl e1)))
          clear hfr h20 hK hV hKs hVs e1
          go_wp2_with fail
          go_ret
          exact ⟨by rw [HE.out]; rfl, HF.out⟩
        · have t3 : decide ((200 : Int) < (K.size : Int)) = false := decide_eq_false (by omega)
          by_cases e2 : 200 < l[k].2.length
          · have t4 : decide ((200 : Int) < (V.size : Int)) = true := decide_eq_true (by omega)
            have HE := Lib.hid (show r = false by rw [HR.out]; exact few_no hkl (.inr (.inr e2)))
            clear hfr h20 hK hV hKs hVs e1 e2
            go_wp2_with fail
            go_ret
            exact ⟨by rw [HE.out]; rfl, HF.out⟩
          · have t4 : decide ((200 : Int) < (V.size : Int)) = false := decide_eq_false (by omega)
            have HX := Lib.hid (show l[k].1.length ≤ 200 ∧ l[k].2.length ≤ 200 by omega)
            clear hfr hK hV hKs hVs e1 e2
            go_wp2_with fail
            go_roundw
            case rel =>
              refine ⟨k + 1, by omega, by omega, by go_num, HF.out, fun j hj hjk => ?_⟩
              by_cases e : j = k
              · subst e; exact HX.out
              · exact HA.out j hj (by omega)
            case measure => simp [intOf]; omega
    · obtain rfl : k = n := by omega
      have hge : ¬ (k : Int) < (k : Int) := by omega
      have HE := Lib.hid (show r = true by
        rw [HR.out]
        refine (fewB_iff l).2 ⟨by rw [← HN.out]; exact hk20, fun p hp => ?_⟩
        obtain ⟨j, hj, rfl⟩ := List.getElem_of_mem hp
        exact HA.out j hj (by rw [HN.out]; exact hj))
      clear hfr
      go_wp2_with fail
      go_ret
      exact ⟨by rw [HE.out]; rfl, HF.out⟩
set_option maxHeartbeats 1000000 in
theorem few_nil (a : Option Addr) (cap : Nat) (w : World) : Calls Tryz.prog 5 #[.slice a 0 cap] w fun e w' => e = .returned (.bool true) ∧ Fr (fun _ => False) w w' := by
  go_enter Tryz.func5, Tryz.ntmps5
  go_wp2_with fail
  go_loopw [3] (fun i wr => i = .int .i64 0 ∧ Fr (fun _ => False) w wr) (fun _ _ => 0)
  case atStart => exact ⟨rfl, Fr.refl _ _⟩
  case round =>
    obtain ⟨rfl, hf⟩ := hrel
    have HF := Lib.hid hf
    clear hf
    go_wp2_with fail
    go_ret
    exact ⟨rfl, HF.out⟩
theorem few_calls (a : Option Addr) (cap : Nat) (l : List Pr) (w : World) (hl : PSl w a l) (hlc : l.length ≤ cap) (hcap : cap ≤ 9223372036854775807) :
    Calls Tryz.prog 5 #[.slice a l.length cap] w fun e w' => e = .returned (.bool (fewB l)) ∧ Fr (fun _ => False) w w' := by
  rcases hl with rfl | ⟨b, off, rfl, hpb, hlt⟩
  · exact few_nil a cap w
  · exact few_some b off cap l w hpb hlc hcap
/-! ### awake -/
theorem pv_of_own {w : World} {B : Nat} {v : Value} {l : List Pr} (h : w.ownsRow B 42 2 v l.length (l.flatMap encP)) : PV w v l := by
  rcases h.2 with ⟨hv, h0⟩ | ⟨g, cap, cur, rfl, hb, hg, hlc, hcm, hcs, ht⟩
  · have hl : l = [] := List.eq_nil_of_length_eq_zero h0
    subst hl
    exact ⟨none, 0, hv, .inl rfl, Nat.le_refl _, by decide⟩
  · exact ⟨some ⟨g, 0, none⟩, cap, rfl, .inr ⟨g, 0, rfl, by
      have := pb_of_holds (holds_of_cells hg ht)
      simpa using this, lt_of_heap hg⟩, hlc, by unfold maxLen at hcm; omega⟩
theorem wpAnyT_mono {P : Program} {md : Region.Mode} {ops : Array Oper} {Q : Exit → Act → World → Prop} {S S' : World → Prop} {e : Nat} (h : ∀ w, S' w → S w) : ∀ (fuel : Nat) (listed : Array Bool) (a : Act) (w : World), wpAnyT P md ops Q S' e fuel listed a w → wpAnyT P md ops Q S e fuel listed a w
  | 0, _, _, _, hh => hh
  | fuel + 1, _, _, _, hh => ⟨hh.1, fun i hi => wpOp_mono (fun a' w' h' => ⟨fun hl => h _ (h'.1 hl), wpAnyT_mono h fuel _ a' w' h'.2⟩) (hh.2 i hi)⟩
end Go.Proofs.YtcchhfkmhbjdmaaGreat
