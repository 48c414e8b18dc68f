/- Labels: Few; awake. -/
import Derived.Test.YthmpmpepokeedaaLn
set_option linter.unusedVariables false
set_option linter.unusedSimpArgs false
set_option pp.deepTerms true
set_option pp.maxSteps 100000
namespace Go.Proofs.Ythmpmpepokeedaa
open Go.RowKit
section
variable {P : Program} {ops : Array Oper} {Q : Exit → Act → World → Prop} {md : Region.Mode} {S : World → Prop} {e : Nat}
def edgeB (md : Region.Mode) (ops : Array Oper) (k j : Nat) : Bool := match ops[k]? with
  | some o => o.after.any fun ed => Region.binds md ed && ed.on == j
  | none => false
def pathB (md : Region.Mode) (ops : Array Oper) (i : Nat) : Nat → List Nat → Bool
  | k, [] => edgeB md ops k i
  | k, j :: l => edgeB md ops k j && pathB md ops i j l
theorem reach_of_path {i : Nat} : ∀ (l : List Nat) (k : Nat), pathB md ops i k l = true → ∃ n, reachB md ops i n k = true
  | [], k, h => ⟨1, by
    simp only [pathB, edgeB] at h
    unfold reachB
    cases hk : ops[k]? with
    | none => rw [hk] at h; cases h
    | some o =>
      rw [hk] at h
      obtain ⟨ed, hed, hb⟩ := Array.any_eq_true'.1 h
      simp only [Bool.and_eq_true] at hb
      exact Array.any_eq_true'.2 ⟨ed, hed, by rw [hb.1, hb.2]; rfl⟩⟩
  | j :: l, k, h => by
    simp only [pathB, Bool.and_eq_true] at h
    obtain ⟨n, hn⟩ := reach_of_path l j h.2
    refine ⟨n + 1, ?_⟩
    have h1 := h.1
    unfold edgeB at h1
    unfold reachB
    cases hk : ops[k]? with
    | none => rw [hk] at h1; cases h1
    | some o =>
      rw [hk] at h1
      obtain ⟨ed, hed, hb⟩ := Array.any_eq_true'.1 h1
      simp only [Bool.and_eq_true, beq_iff_eq] at hb
      exact Array.any_eq_true'.2 ⟨ed, hed, by rw [hb.1, hb.2, hn]; simp⟩
/-- Take number i first; that the breaker waits for it is shown by a way. -/
theorem wpAnyT_path {i : Nat} {p : List Nat} {oi : Oper} {v : Value} {fuel : Nat} {listed : Array Bool} {a : Act} {w : World} (hi : ops[i]? = some oi)
    (hb : (Region.noSelect ops && Region.free md ops listed i && (Region.ready md ops listed).contains i && decide (e ≠ i) && decide (listed.size = ops.size) && closedB md ops listed) = true) (hp : pathB md ops i e p = true)
    (hQ : ∀ c a w, Q (.panic c) (a.put oi.dst v) w → Q (.panic c) a w) (hS : S w) (hy : YieldsIf P ops S oi v a)
    (h : wpAnyT P md ops Q S e fuel (listed.setIfInBounds i true) (a.put oi.dst v) w) : wpAnyT P md ops Q S e (fuel + 1) listed a w := by
  simp only [Bool.and_eq_true, decide_eq_true_eq] at hb
  obtain ⟨⟨⟨⟨⟨hs, hf⟩, hr⟩, hei⟩, hsz⟩, hc⟩ := hb
  obtain ⟨n, hw⟩ := reach_of_path p e hp
  exact wpAnyT_first hi (Region.noSelect_spec hs) hQ hw hei fuel listed a w hsz (closed_of hc) (Region.free_spec hi hf) (by simpa using hr) hy hS h
theorem wpOp_guarded {i : Nat} {o : Oper} {a : Act} {w : World} {K0 : Act → World → Prop} (hi : ops[i]? = some o) (hg : Region.wanted o (yielded ops a.tmps) = true) (h : ∀ K : Act → World → Prop, (∀ a' w', K0 a' w' → K a' w') → o.wp P a w K Q) : wpOp P ops Q i K0 a w := by
  unfold wpOp
  simp only [hi]
  rw [if_pos hg]
  exact .inl (h _ (fun _ _ h => h))
theorem wpAnyT_done {listed : Array Bool} (he : listed.getD e true = true) : ∀ (fuel : Nat) (a : Act) (w : World), wpAny P md ops Q fuel listed a w → wpAnyT P md ops Q S e fuel listed a w := by
  intro fuel
  induction fuel generalizing listed with
  | zero => intro a w h; exact h
  | succ n ih =>
    intro a w h
    refine ⟨h.1, fun i hi => wpOp_mono (fun a' w' h' => ?_) (h.2 i hi)⟩
    have h2 : (listed.setIfInBounds i true).getD e true = true := by
      cases hq : (listed.setIfInBounds i true).getD e true with
      | true => rfl
      | false => rw [getD_set_false hq] at he; cases he
    exact ⟨fun hf => (by rw [h2] at hf; cases hf), ih h2 a' w' h'⟩
end
def fewB (l : List Pr) : Bool := decide (l.length ≤ 20) && l.all (fun p => decide (p.1.length ≤ 200) && decide (p.2.length ≤ 200))
theorem fewB_iff (l : List Pr) : fewB l = true ↔ l.length ≤ 20 ∧ ∀ p ∈ l, p.1.length ≤ 200 ∧ p.2.length ≤ 200 := by
  unfold fewB
  rw [Bool.and_eq_true, decide_eq_true_eq, List.all_eq_true]
  simp only [Bool.and_eq_true, decide_eq_true_eq]
theorem few_no {l : List Pr} {k : Nat} (hk : k < l.length) (h : 20 ≤ k ∨ 200 < l[k].1.length ∨ 200 < l[k].2.length) : fewB l = false := by
  cases hf : fewB l with
  | false => rfl
  | true =>
    have h1 := (fewB_iff l).1 hf
    have h2 := h1.2 _ (List.getElem_mem hk)
    omega
set_option maxRecDepth 20000 in
set_option maxHeartbeats 2000000 in
theorem few_some (b off cap : Nat) (l : List Pr) (w : World) (hb : PB w b off l) (hlc : l.length ≤ cap) (hcap : cap ≤ 9223372036854775807) :
    Calls Try.prog 33 #[.slice (some ⟨b, off, none⟩) l.length cap] w fun e w' => e = .returned (.bool (fewB l)) ∧ Fr (fun _ => False) w w' := by
  obtain ⟨n, hn⟩ : ∃ n, n = l.length := ⟨_, rfl⟩
  obtain ⟨r, hr⟩ : ∃ r, r = fewB l := ⟨_, rfl⟩
  have HB := Lib.hid hb
  have HN := Lib.hid hn
  have HR := Lib.hid hr
  rw [← hn, ← hr]
  rw [← hn] at hlc
  clear hb hn hr
  go_enter Try.func33, Try.ntmps33
  go_wp2_with fail
  go_loopw [3] (fun i wr => ∃ k : Nat, k ≤ n ∧ k ≤ 20 ∧ i = .int .i64 (k : Int) ∧ Fr (fun _ => False) w wr ∧ Aside (∀ j (hj : j < l.length), j < k → l[j].1.length ≤ 200 ∧ l[j].2.length ≤ 200)) (fun i _ => n - (intOf i).toNat)
  case atStart => exact ⟨0, Nat.zero_le _, by omega, rfl, Fr.refl _ _, fun j _ hj => absurd hj (Nat.not_lt_zero _)⟩
  case round =>
    obtain ⟨k, hk, hk20, rfl, hfr, hall⟩ := hrel
    have HF := Lib.hid hfr
    have HA := Lib.hid hall
    clear hall
    by_cases hlt : k < n
    · have hkl : k < l.length := by rw [← HN.out]; exact hlt
      have hi0 : (k : Int) < (n : Int) := by omega
      by_cases h20 : 20 ≤ k
      · have t1 : decide ((20 : Int) ≤ (k : Int)) = true := decide_eq_true (by omega)
        have t2 : decide (20 ≤ k) = true := decide_eq_true h20
        have HE := Lib.hid (show r = false by rw [HR.out]; exact few_no hkl (.inl h20))
        clear hfr h20
        go_wp2_with fail
        go_ret
        exact ⟨by rw [HE.out]; rfl, HF.out⟩
      · have t1 : decide ((20 : Int) ≤ (k : Int)) = false := decide_eq_false (by omega)
        have t2 : decide (20 ≤ k) = false := decide_eq_false h20
        obtain ⟨c0, c1⟩ := (HB.out.fr hfr id).cells k hkl
        obtain ⟨K, hK⟩ : ∃ s, s = str l[k].1 := ⟨_, rfl⟩
        obtain ⟨V, hV⟩ : ∃ s, s = str l[k].2 := ⟨_, rfl⟩
        have hKs : K.size = l[k].1.length := by rw [hK, str_size]
        have hVs : V.size = l[k].2.length := by rw [hV, str_size]
        rw [← hK] at c0
        rw [← hV] at c1
        by_cases e1 : 200 < l[k].1.length
        · have t3 : decide ((200 : Int) < (K.size : Int)) = true := decide_eq_true (by omega)
          have HE := Lib.hid (show r = false by rw [HR.out]; exact few_no hkl (.inr (.inl e1)))
          clear hfr h20 hK hV hKs hVs e1
          go_wp2_with fail
          go_ret
          exact ⟨by rw [HE.out]; rfl, HF.out⟩
        · have t3 : decide ((200 : Int) < (K.size : Int)) = false := decide_eq_false (by omega)
          by_cases e2 : 200 < l[k].2.length
          · have t4 : decide ((200 : Int) < (V.size : Int)) = true := decide_eq_true (by omega)
            have HE := Lib.hid (show r = false by rw [HR.out]; exact few_no hkl (.inr (.inr e2)))
            clear hfr h20 hK hV hKs hVs e1 e2
            go_wp2_with fail
            go_ret
            exact ⟨by rw [HE.out]; rfl, HF.out⟩
          · have t4 : decide ((200 : Int) < (V.size : Int)) = false := decide_eq_false (by omega)
            have HX := Lib.hid (show l[k].1.length ≤ 200 ∧ l[k].2.length ≤ 200 by omega)
            clear hfr hK hV hKs hVs e1 e2
            go_wp2_with fail
            go_roundw
            case rel =>
              refine ⟨k + 1, by omega, by omega, by go_num, HF.out, fun j hj hjk => ?_⟩
              by_cases e : j = k
              · subst e; exact HX.out
              · exact HA.out j hj (by omega)
            case measure => simp [intOf]; omega
    · obtain rfl : k = n := by omega
      have hge : ¬ (k : Int) < (k : Int) := by omega
      have HE := Lib.hid (show r = true by
        rw [HR.out]
        refine (fewB_iff l).2 ⟨by rw [← HN.out]; exact hk20, fun p hp => ?_⟩
        obtain ⟨j, hj, rfl⟩ := List.getElem_of_mem hp
        exact HA.out j hj (by rw [HN.out]; exact hj))
      clear hfr
      go_wp2_with fail
      go_ret
      exact ⟨by rw [HE.out]; rfl, HF.out⟩
set_option maxHeartbeats 1000000 in
theorem few_nil (a : Option Addr) (cap : Nat) (w : World) : Calls Try.prog 33 #[.slice a 0 cap] w fun e w' => e = .returned (.bool true) ∧ Fr (fun _ => False) w w' := by
  go_enter Try.func33, Try.ntmps33
  go_wp2_with fail
  go_loopw [3] (fun i wr => i = .int .i64 0 ∧ Fr (fun _ => False) w wr) (fun _ _ => 0)
  case atStart => exact ⟨rfl, Fr.refl _ _⟩
  case round =>
    obtain ⟨rfl, hf⟩ := hrel
    have HF := Lib.hid hf
    clear hf
    go_wp2_with fail
    go_ret
    exact ⟨rfl, HF.out⟩
theorem few_calls (a : Option Addr) (cap : Nat) (l : List Pr) (w : World) (hl : PSl w a l) (hlc : l.length ≤ cap) (hcap : cap ≤ 9223372036854775807) :
    Calls Try.prog 33 #[.slice a l.length cap] w fun e w' => e = .returned (.bool (fewB l)) ∧ Fr (fun _ => False) w w' := by
  rcases hl with rfl | ⟨b, off, rfl, hpb, hlt⟩
  · exact few_nil a cap w
  · exact few_some b off cap l w hpb hlc hcap
/-! ### awake -/
def awL : List Pr := [([98], [50]), ([97], [49])]
def awM : List Pr := [([97], [49]), ([98], [50])]
theorem aw_sort : sortR awL = awM := by decide
theorem aw_right : rightB awL = true := by decide
theorem aw_text : textOf awL = [1, 97, 1, 49, 1, 98, 1, 50] := by decide
theorem aw_parse : parseO [1, 97, 1, 49, 1, 98, 1, 50] = some awM := by rw [← aw_text, parse_text aw_right, aw_sort]
theorem aw_bad : parseO [1] = none := by decide
theorem aw_eq : eqB awL awM = true := by decide
theorem aw_sub : subB [([97], [49])] awL = true := by decide
theorem aw_nosub : subB awL [([97], [49])] = false := by decide
theorem aw_r1 : runesL [107, 101, 121, 45, 49] = 5 := by decide
theorem aw_r2 : runesL [206, 177, 50] = 2 := by decide
theorem aw_r3 : runesL [75, 101, 121] = 0 := by decide
theorem aw_r4 : runesL [45, 97] = 0 := by decide
theorem aw_build (w : World) : (Instr.buildSlice 64 2 #[(0, .agg #[.string ⟨#[98]⟩, .string ⟨#[50]⟩]), (1, .agg #[.string ⟨#[97]⟩, .string ⟨#[49]⟩])]).run Try.prog w = .ok (.slice (some ⟨w.heap.size, 0, none⟩) 2 2) (w.alloc (.cells #[.string ⟨#[98]⟩, .string ⟨#[50]⟩, .string ⟨#[97]⟩, .string ⟨#[49]⟩] 77)) := by kernel_rfl
set_option maxRecDepth 20000 in
set_option maxHeartbeats 8000000 in
theorem label_awake (w : World) : Calls Try.prog 32 #[] w fun e w' => e = .returned (.bool true) ∧ Fr (fun _ => False) w w' := by
  obtain ⟨TX, hTX⟩ : ∃ s, s = str [1, 97, 1, 49, 1, 98, 1, 50] := ⟨_, rfl⟩
  obtain ⟨BL, hBL⟩ : ∃ b, b = w.heap.size := ⟨_, rfl⟩
  obtain ⟨w0, hw0⟩ : ∃ w0, w0 = w.alloc (.cells #[.string ⟨#[98]⟩, .string ⟨#[50]⟩, .string ⟨#[97]⟩, .string ⟨#[49]⟩] 77) := ⟨_, rfl⟩
  have hl0 : w0.heap[BL]? = some (.cells #[.string ⟨#[98]⟩, .string ⟨#[50]⟩, .string ⟨#[97]⟩, .string ⟨#[49]⟩] 77 (0, 0)) := by rw [hw0, hBL]; exact heap_alloc_new w _
  have hf0 : Fr (fun _ => False) w w0 := by rw [hw0]; exact (Fr.refl _ _).alloc _
  have hpl : ∀ w', Fr (fun _ => False) w0 w' → PSl w' (some ⟨BL, 0, none⟩) awL := fun w' hf => .inr ⟨BL, 0, rfl, fun i x hx j v hj => by
    have hh := hf.heap hl0 id
    rw [cell_of_row w' BL _ _ _ _ hh]
    match i, hx with
    | 0, hx => cases hx; match j, hj with
      | 0, hj => exact hj
      | 1, hj => exact hj
      | j + 2, hj => simp [encP] at hj
    | 1, hx => cases hx; match j, hj with
      | 0, hj => exact hj
      | 1, hj => exact hj
      | j + 2, hj => simp [encP] at hj
    | i + 2, hx => simp [awL] at hx, lt_of_heap (hf.heap hl0 id)⟩
  have HBd := Lib.hid hBL
  have HW0 := Lib.hid hw0
  have HL0 := Lib.hid hl0
  have HF0 := Lib.hid hf0
  have HPL := Lib.hid hpl
  have HText := Lib.hid (show Calls Try.prog 34 #[.slice (some ⟨BL, 0, none⟩) 2 2] w0 fun e w' => e = .returned (.tuple #[.string TX, .int .i64 0]) ∧ Fr (fun _ => False) w0 w' from by
    have h := text_yes (some ⟨BL, 0, none⟩) 2 awL w0 (hpl w0 (Fr.refl _ _)) (by decide) (by decide) aw_right
    rw [aw_text] at h
    rw [hTX]; exact h)
  have HPar := Lib.hid (show ∀ w, Calls Try.prog 36 #[.string TX] w fun e w' => ∃ BM OM CM, e = .returned (.tuple #[.slice (some ⟨BM, OM, none⟩) 2 CM, .int .i64 0]) ∧ PB w' BM OM awM ∧ BM < w'.heap.size ∧ 2 ≤ CM ∧ CM ≤ 9223372036854775807 ∧ Fr (fun _ => False) w w' from fun w => by
    rw [hTX]
    refine (parse_calls [1, 97, 1, 49, 1, 98, 1, 50] (by decide) w).mono ?_
    rintro e w' ⟨v, c, rfl, rfl, ⟨a, cap, rfl, hps, hlc, hcp⟩, hf⟩
    rw [aw_parse] at hps hlc ⊢
    rcases hps with h0 | ⟨b, off, rfl, hpb, hlt⟩
    · cases h0
    · exact ⟨b, off, cap, rfl, hpb, hlt, hlc, hcp, hf⟩)
  have HBad := Lib.hid (show ∀ w, Calls Try.prog 36 #[.string ⟨#[1]⟩] w fun e w' => ∃ v, e = .returned (.tuple #[v, .int .i64 2]) ∧ Fr (fun _ => False) w w' from fun w => by
    refine (parse_calls [1] (by decide) w).mono ?_
    rintro e w' ⟨v, c, rfl, rfl, _, hf⟩
    rw [aw_bad]
    exact ⟨v, rfl, hf⟩)
  have HR1 := Lib.hid (show ∀ w, Calls Try.prog 40 #[.string ⟨#[107, 101, 121, 45, 49]⟩] w fun e w' => e = .returned (.bool true) ∧ Fr (fun _ => False) w w' from fun w => by
    have h := right_name [107, 101, 121, 45, 49] (by decide) w
    rw [aw_r1] at h; exact h)
  have HR2 := Lib.hid (show ∀ w, Calls Try.prog 39 #[.string ⟨#[206, 177, 50]⟩] w fun e w' => e = .returned (.int .i64 2) ∧ Fr (fun _ => False) w w' from fun w => by
    have h := runes_calls [206, 177, 50] (by decide) w
    rw [aw_r2] at h; exact h)
  have HR3 := Lib.hid (show ∀ w, Calls Try.prog 40 #[.string ⟨#[75, 101, 121]⟩] w fun e w' => e = .returned (.bool false) ∧ Fr (fun _ => False) w w' from fun w => by
    have h := right_name [75, 101, 121] (by decide) w
    rw [aw_r3] at h; exact h)
  have HR4 := Lib.hid (show ∀ w, Calls Try.prog 40 #[.string ⟨#[45, 97]⟩] w fun e w' => e = .returned (.bool false) ∧ Fr (fun _ => False) w w' from fun w => by
    have h := right_name [45, 97] (by decide) w
    rw [aw_r4] at h; exact h)
  have t1 : (TX.toList == [1, 97, 1, 49, 1, 98, 1, 50]) = true := by rw [hTX, str_toList]; rfl
  have t2 : TX.toList = [1, 97, 1, 49, 1, 98, 1, 50] := by rw [hTX, str_toList]
  have HT1 := Lib.hid t1
  have HT2 := Lib.hid t2
  have hbs := aw_build w
  clear hTX hBL hw0 hl0 hf0 hpl t1 t2
  go_enter Try.func32, Try.ntmps32
  go_wp2_with fail
  rw [← HBd.out, ← HW0.out]
  refine HText.out.mono ?_
  rintro e w1 ⟨rfl, f1⟩
  have G1 := Lib.hid f1
  clear f1 hbs
  go_wp2_with fail
  refine (HPar.out w1).mono ?_
  rintro e w2 ⟨BM, OM, CM, rfl, hpm, hbm, hcm1, hcm2, f2⟩
  have G2 := Lib.hid (G1.out.trans f2 (fun i hi => hi.elim))
  have HPM := Lib.hid hpm
  have HBM := Lib.hid hbm
  clear hpm hbm f2
  go_wp2_with fail
  refine (HBad.out w2).mono ?_
  rintro e w3 ⟨vb, rfl, f3⟩
  have G3 := Lib.hid (G2.out.trans f3 (fun i hi => hi.elim))
  have HPM3 := Lib.hid (HPM.out.fr f3 id)
  have HBM3 := Lib.hid (show BM < w3.heap.size from Nat.lt_of_lt_of_le HBM.out f3.size)
  clear f3
  go_wp2_with fail
  refine wp_region_till (fun W' => Fr (fun _ => False) w3.drew W') 58 (by kernel_rfl) ?_
  have HS0 := Lib.hid (Fr.refl (fun _ => False) w3.drew)
  have HW3 := Lib.hid ((Fr.refl (fun _ => False) w3).drew)
  have HEq := Lib.hid (show ∀ W', Fr (fun _ => False) w3.drew W' → Calls Try.prog 44 #[.slice (some ⟨BL, 0, none⟩) 2 2, .slice (some ⟨BM, OM, none⟩) 2 CM] W' fun e w' => e = .returned (.bool true) ∧ Fr (fun _ => False) W' w' from fun W' hW => by
    have hw : Fr (fun _ => False) w3 W' := HW3.out.trans hW (fun i hi => hi.elim)
    have h := equal_calls (some ⟨BL, 0, none⟩) (some ⟨BM, OM, none⟩) 2 CM awL awM (by decide) (by decide) (by decide) (by decide) W' (HPL.out W' (G3.out.trans hw (fun i hi => hi.elim))) (.inr ⟨BM, OM, rfl, HPM3.out.fr hw id, Nat.lt_of_lt_of_le HBM3.out hw.size⟩) (by decide) (by decide) hcm1 hcm2
    rw [aw_eq] at h; exact h)
  have hp1 : ∀ W', Fr (fun _ => False) w3.drew W' → PSl W' (some ⟨BM, OM, none⟩) [([97], [49])] := fun W' hW => by
    have hw : Fr (fun _ => False) w3 W' := HW3.out.trans hW (fun i hi => hi.elim)
    refine .inr ⟨BM, OM, rfl, fun i x hx => ?_, Nat.lt_of_lt_of_le HBM3.out hw.size⟩
    match i, hx with
    | 0, hx => exact (HPM3.out.fr hw id) 0 x hx
    | i + 1, hx => simp at hx
  have HP1 := Lib.hid hp1
  have HSub := Lib.hid (show ∀ W', Fr (fun _ => False) w3.drew W' → Calls Try.prog 42 #[.slice (some ⟨BM, OM, none⟩) 1 CM, .slice (some ⟨BL, 0, none⟩) 2 2] W' fun e w' => e = .returned (.bool true) ∧ Fr (fun _ => False) W' w' from fun W' hW => by
    have hw : Fr (fun _ => False) w3 W' := HW3.out.trans hW (fun i hi => hi.elim)
    have h := subset_calls (some ⟨BM, OM, none⟩) (some ⟨BL, 0, none⟩) CM 2 [([97], [49])] awL (by decide) (by decide) (by decide) (by decide) W' (HP1.out W' hW) (HPL.out W' (G3.out.trans hw (fun i hi => hi.elim))) (by simp; omega) hcm2 (by decide) (by decide)
    rw [aw_sub] at h; exact h)
  have HNSub := Lib.hid (show ∀ W', Fr (fun _ => False) w3.drew W' → Calls Try.prog 42 #[.slice (some ⟨BL, 0, none⟩) 2 2, .slice (some ⟨BM, OM, none⟩) 1 CM] W' fun e w' => e = .returned (.bool false) ∧ Fr (fun _ => False) W' w' from fun W' hW => by
    have hw : Fr (fun _ => False) w3 W' := HW3.out.trans hW (fun i hi => hi.elim)
    have h := subset_calls (some ⟨BL, 0, none⟩) (some ⟨BM, OM, none⟩) 2 CM awL [([97], [49])] (by decide) (by decide) (by decide) (by decide) W' (HPL.out W' (G3.out.trans hw (fun i hi => hi.elim))) (HP1.out W' hW) (by decide) (by decide) (by simp; omega) hcm2
    rw [aw_nosub] at h; exact h)
  have hm0 : ∀ W', Fr (fun _ => False) w3.drew W' → W'.cell? ⟨BM, OM, none⟩ = some (.string ⟨#[97]⟩) ∧ W'.cell? ⟨BM, OM + 1, none⟩ = some (.string ⟨#[49]⟩) := fun W' hW => by
    have h := (HPM3.out.fr (HW3.out.trans hW (fun i hi => hi.elim)) id).cells 0 (by decide)
    exact h
  have hl1 : ∀ W', Fr (fun _ => False) w3.drew W' → W'.cell? ⟨BL, 2, none⟩ = some (.string ⟨#[97]⟩) ∧ W'.cell? ⟨BL, 3, none⟩ = some (.string ⟨#[49]⟩) := fun W' hW => by
    have hh := (G3.out.trans (HW3.out.trans hW (fun i hi => hi.elim)) (fun i hi => hi.elim)).heap HL0.out id
    exact ⟨(cell_of_row W' BL 2 _ _ _ hh).trans rfl, (cell_of_row W' BL 3 _ _ _ hh).trans rfl⟩
  have HM0 := Lib.hid hm0
  have HL1 := Lib.hid hl1
  have HSt := Lib.hid (show ∀ W', (binOp .eql 77 (.agg #[.string ⟨#[97]⟩, .string ⟨#[49]⟩]) (.agg #[.string ⟨#[97]⟩, .string ⟨#[49]⟩])).run Try.prog W' = .ok (.bool true) W' from fun W' => (eqlP.1 ([97], [49]) ([97], [49]) W').trans rfl)
  have hc1 : 1 ≤ CM := by omega
  clear hp1 hm0 hl1
  refine wpAnyT_one (i := 0) rfl (by kernel_rfl) (wpOp_plain rfl rfl (fun K hK => ?_))
  try simp only [Act.put, List.setIfInBounds_toArray]
  try dsimp only [List.getElem_toArray, List.getElem_cons_succ, List.getElem_cons_zero, List.set_cons_zero, List.set_cons_succ]
  have HKK := Lib.hid hK
  clear hK
  go_wp2_with fail
  refine (HR1.out _).mono ?_
  rintro e v1 ⟨rfl, g1⟩
  have HS1 := Lib.hid (HS0.out.trans g1 (fun i hi => hi.elim))
  clear g1
  go_wp2_with fail
  refine HKK.out _ _ ⟨fun _ => HS1.out, ?_⟩
  clear HKK K
  try simp only [Act.put, List.setIfInBounds_toArray]
  try dsimp only [List.getElem_toArray, List.getElem_cons_succ, List.getElem_cons_zero, List.set_cons_zero, List.set_cons_succ]
  refine wpAnyT_path (i := 1) (p := [54, 52, 48, 46, 43, 39, 35, 26, 21, 17, 13, 10, 9, 6, 5, 2]) (v := .bool true) rfl (by kernel_rfl) (by kernel_rfl) (fun _ _ _ h => h) HS1.out (.inl ⟨by rfl, fun W' hW => by clear hW; go_simp⟩) ?_
  try simp only [Act.put, List.setIfInBounds_toArray]
  try dsimp only [List.getElem_toArray, List.getElem_cons_succ, List.getElem_cons_zero, List.set_cons_zero, List.set_cons_succ]
  refine wpAnyT_one (i := 2) rfl (by kernel_rfl) (wpOp_guarded rfl (by rfl) (fun K hK => ?_))
  try simp only [Act.put, List.setIfInBounds_toArray]
  try dsimp only [List.getElem_toArray, List.getElem_cons_succ, List.getElem_cons_zero, List.set_cons_zero, List.set_cons_succ]
  have HKK := Lib.hid hK
  clear hK
  go_wp2_with fail
  refine (HR2.out _).mono ?_
  rintro e v2 ⟨rfl, g2⟩
  have HS2 := Lib.hid (HS1.out.trans g2 (fun i hi => hi.elim))
  clear g2
  go_wp2_with fail
  refine HKK.out _ _ ⟨fun _ => HS2.out, ?_⟩
  clear HKK K
  try simp only [Act.put, List.setIfInBounds_toArray]
  try dsimp only [List.getElem_toArray, List.getElem_cons_succ, List.getElem_cons_zero, List.set_cons_zero, List.set_cons_succ]
  refine wpAnyT_path (i := 3) (p := [54, 52, 48, 46, 43, 39, 35, 26, 21, 17, 13, 10, 9, 6, 5, 4]) (v := .bool true) rfl (by kernel_rfl) (by kernel_rfl) (fun _ _ _ h => h) HS2.out (.inl ⟨by rfl, fun W' hW => by clear hW; go_simp⟩) ?_
  try simp only [Act.put, List.setIfInBounds_toArray]
  try dsimp only [List.getElem_toArray, List.getElem_cons_succ, List.getElem_cons_zero, List.set_cons_zero, List.set_cons_succ]
  refine wpAnyT_path (i := 4) (p := [54, 52, 48, 46, 43, 39, 35, 26, 21, 17, 13, 10, 9, 6, 5]) (v := .bool true) rfl (by kernel_rfl) (by kernel_rfl) (fun _ _ _ h => h) HS2.out (.inl ⟨by rfl, fun W' hW => by clear hW; go_simp⟩) ?_
  try simp only [Act.put, List.setIfInBounds_toArray]
  try dsimp only [List.getElem_toArray, List.getElem_cons_succ, List.getElem_cons_zero, List.set_cons_zero, List.set_cons_succ]
  refine wpAnyT_path (i := 5) (p := [54, 52, 48, 46, 43, 39, 35, 26, 21, 17, 13, 10, 9, 6]) (v := .bool true) rfl (by kernel_rfl) (by kernel_rfl) (fun _ _ _ h => h) HS2.out (.inl ⟨by rfl, fun W' hW => by clear hW; go_simp⟩) ?_
  try simp only [Act.put, List.setIfInBounds_toArray]
  try dsimp only [List.getElem_toArray, List.getElem_cons_succ, List.getElem_cons_zero, List.set_cons_zero, List.set_cons_succ]
  refine wpAnyT_one (i := 6) rfl (by kernel_rfl) (wpOp_guarded rfl (by rfl) (fun K hK => ?_))
  try simp only [Act.put, List.setIfInBounds_toArray]
  try dsimp only [List.getElem_toArray, List.getElem_cons_succ, List.getElem_cons_zero, List.set_cons_zero, List.set_cons_succ]
  have HKK := Lib.hid hK
  clear hK
  go_wp2_with fail
  refine (HR3.out _).mono ?_
  rintro e v3 ⟨rfl, g3⟩
  have HS3 := Lib.hid (HS2.out.trans g3 (fun i hi => hi.elim))
  clear g3
  go_wp2_with fail
  refine HKK.out _ _ ⟨fun _ => HS3.out, ?_⟩
  clear HKK K
  try simp only [Act.put, List.setIfInBounds_toArray]
  try dsimp only [List.getElem_toArray, List.getElem_cons_succ, List.getElem_cons_zero, List.set_cons_zero, List.set_cons_succ]
  refine wpAnyT_path (i := 7) (p := [54, 52, 48, 46, 43, 39, 35, 26, 21, 17, 13, 10, 9, 8]) (v := .bool true) rfl (by kernel_rfl) (by kernel_rfl) (fun _ _ _ h => h) HS3.out (.inl ⟨by rfl, fun W' hW => by clear hW; go_simp⟩) ?_
  try simp only [Act.put, List.setIfInBounds_toArray]
  try dsimp only [List.getElem_toArray, List.getElem_cons_succ, List.getElem_cons_zero, List.set_cons_zero, List.set_cons_succ]
  refine wpAnyT_path (i := 8) (p := [54, 52, 48, 46, 43, 39, 35, 26, 21, 17, 13, 10, 9]) (v := .bool true) rfl (by kernel_rfl) (by kernel_rfl) (fun _ _ _ h => h) HS3.out (.inl ⟨by rfl, fun W' hW => by clear hW; go_simp⟩) ?_
  try simp only [Act.put, List.setIfInBounds_toArray]
  try dsimp only [List.getElem_toArray, List.getElem_cons_succ, List.getElem_cons_zero, List.set_cons_zero, List.set_cons_succ]
  refine wpAnyT_path (i := 9) (p := [54, 52, 48, 46, 43, 39, 35, 26, 21, 17, 13, 10]) (v := .bool true) rfl (by kernel_rfl) (by kernel_rfl) (fun _ _ _ h => h) HS3.out (.inl ⟨by rfl, fun W' hW => by clear hW; go_simp⟩) ?_
  try simp only [Act.put, List.setIfInBounds_toArray]
  try dsimp only [List.getElem_toArray, List.getElem_cons_succ, List.getElem_cons_zero, List.set_cons_zero, List.set_cons_succ]
  refine wpAnyT_one (i := 10) rfl (by kernel_rfl) (wpOp_guarded rfl (by rfl) (fun K hK => ?_))
  try simp only [Act.put, List.setIfInBounds_toArray]
  try dsimp only [List.getElem_toArray, List.getElem_cons_succ, List.getElem_cons_zero, List.set_cons_zero, List.set_cons_succ]
  have HKK := Lib.hid hK
  clear hK
  go_wp2_with fail
  refine (HR4.out _).mono ?_
  rintro e v4 ⟨rfl, g4⟩
  have HS4 := Lib.hid (HS3.out.trans g4 (fun i hi => hi.elim))
  clear g4
  go_wp2_with fail
  refine HKK.out _ _ ⟨fun _ => HS4.out, ?_⟩
  clear HKK K
  try simp only [Act.put, List.setIfInBounds_toArray]
  try dsimp only [List.getElem_toArray, List.getElem_cons_succ, List.getElem_cons_zero, List.set_cons_zero, List.set_cons_succ]
  refine wpAnyT_path (i := 11) (p := [54, 52, 48, 46, 43, 39, 35, 26, 21, 17, 13, 12]) (v := .bool true) rfl (by kernel_rfl) (by kernel_rfl) (fun _ _ _ h => h) HS4.out (.inl ⟨by rfl, fun W' hW => by clear hW; go_simp⟩) ?_
  try simp only [Act.put, List.setIfInBounds_toArray]
  try dsimp only [List.getElem_toArray, List.getElem_cons_succ, List.getElem_cons_zero, List.set_cons_zero, List.set_cons_succ]
  refine wpAnyT_path (i := 12) (p := [54, 52, 48, 46, 43, 39, 35, 26, 21, 17, 13]) (v := .bool true) rfl (by kernel_rfl) (by kernel_rfl) (fun _ _ _ h => h) HS4.out (.inl ⟨by rfl, fun W' hW => by clear hW; go_simp⟩) ?_
  try simp only [Act.put, List.setIfInBounds_toArray]
  try dsimp only [List.getElem_toArray, List.getElem_cons_succ, List.getElem_cons_zero, List.set_cons_zero, List.set_cons_succ]
  refine wpAnyT_path (i := 13) (p := [54, 52, 48, 46, 43, 39, 35, 26, 21, 17]) (v := .bool true) rfl (by kernel_rfl) (by kernel_rfl) (fun _ _ _ h => h) HS4.out (.inl ⟨by rfl, fun W' hW => by clear hW; go_simp⟩) ?_
  try simp only [Act.put, List.setIfInBounds_toArray]
  try dsimp only [List.getElem_toArray, List.getElem_cons_succ, List.getElem_cons_zero, List.set_cons_zero, List.set_cons_succ]
  refine wpAnyT_path (i := 14) (p := [54, 52, 48, 46, 43, 39, 35, 26, 21, 17, 16, 15]) (v := .string TX) rfl (by kernel_rfl) (by kernel_rfl) (fun _ _ _ h => h) HS4.out (.inl ⟨by rfl, fun W' hW => by clear hW; go_simp⟩) ?_
  try simp only [Act.put, List.setIfInBounds_toArray]
  try dsimp only [List.getElem_toArray, List.getElem_cons_succ, List.getElem_cons_zero, List.set_cons_zero, List.set_cons_succ]
  refine wpAnyT_path (i := 15) (p := [54, 52, 48, 46, 43, 39, 35, 26, 21, 17, 16]) (v := .bool true) rfl (by kernel_rfl) (by kernel_rfl) (fun _ _ _ h => h) HS4.out (.inl ⟨by rfl, fun W' hW => by have q1 := HT1.out; have q2 := HT2.out; clear hW; go_simp⟩) ?_
  try simp only [Act.put, List.setIfInBounds_toArray]
  try dsimp only [List.getElem_toArray, List.getElem_cons_succ, List.getElem_cons_zero, List.set_cons_zero, List.set_cons_succ]
  refine wpAnyT_path (i := 16) (p := [54, 52, 48, 46, 43, 39, 35, 26, 21, 17]) (v := .bool true) rfl (by kernel_rfl) (by kernel_rfl) (fun _ _ _ h => h) HS4.out (.inl ⟨by rfl, fun W' hW => by clear hW; go_simp⟩) ?_
  try simp only [Act.put, List.setIfInBounds_toArray]
  try dsimp only [List.getElem_toArray, List.getElem_cons_succ, List.getElem_cons_zero, List.set_cons_zero, List.set_cons_succ]
  refine wpAnyT_path (i := 17) (p := [54, 52, 48, 46, 43, 39, 35, 26, 21]) (v := .bool true) rfl (by kernel_rfl) (by kernel_rfl) (fun _ _ _ h => h) HS4.out (.inl ⟨by rfl, fun W' hW => by clear hW; go_simp⟩) ?_
  try simp only [Act.put, List.setIfInBounds_toArray]
  try dsimp only [List.getElem_toArray, List.getElem_cons_succ, List.getElem_cons_zero, List.set_cons_zero, List.set_cons_succ]
  refine wpAnyT_path (i := 18) (p := [54, 52, 48, 46, 43, 39, 35, 26, 21, 20, 19]) (v := .int .i64 0) rfl (by kernel_rfl) (by kernel_rfl) (fun _ _ _ h => h) HS4.out (.inl ⟨by rfl, fun W' hW => by clear hW; go_simp⟩) ?_
  try simp only [Act.put, List.setIfInBounds_toArray]
  try dsimp only [List.getElem_toArray, List.getElem_cons_succ, List.getElem_cons_zero, List.set_cons_zero, List.set_cons_succ]
  refine wpAnyT_path (i := 19) (p := [54, 52, 48, 46, 43, 39, 35, 26, 21, 20]) (v := .bool true) rfl (by kernel_rfl) (by kernel_rfl) (fun _ _ _ h => h) HS4.out (.inl ⟨by rfl, fun W' hW => by clear hW; go_simp⟩) ?_
  try simp only [Act.put, List.setIfInBounds_toArray]
  try dsimp only [List.getElem_toArray, List.getElem_cons_succ, List.getElem_cons_zero, List.set_cons_zero, List.set_cons_succ]
  refine wpAnyT_path (i := 20) (p := [54, 52, 48, 46, 43, 39, 35, 26, 21]) (v := .bool true) rfl (by kernel_rfl) (by kernel_rfl) (fun _ _ _ h => h) HS4.out (.inl ⟨by rfl, fun W' hW => by clear hW; go_simp⟩) ?_
  try simp only [Act.put, List.setIfInBounds_toArray]
  try dsimp only [List.getElem_toArray, List.getElem_cons_succ, List.getElem_cons_zero, List.set_cons_zero, List.set_cons_succ]
  refine wpAnyT_path (i := 21) (p := [54, 52, 48, 46, 43, 39, 35, 26]) (v := .bool true) rfl (by kernel_rfl) (by kernel_rfl) (fun _ _ _ h => h) HS4.out (.inl ⟨by rfl, fun W' hW => by clear hW; go_simp⟩) ?_
  try simp only [Act.put, List.setIfInBounds_toArray]
  try dsimp only [List.getElem_toArray, List.getElem_cons_succ, List.getElem_cons_zero, List.set_cons_zero, List.set_cons_succ]
  refine wpAnyT_path (i := 22) (p := [54, 52, 48, 46, 43, 39, 35, 26, 25, 24, 23]) (v := .slice (some ⟨BM, OM, none⟩) 2 CM) rfl (by kernel_rfl) (by kernel_rfl) (fun _ _ _ h => h) HS4.out (.inl ⟨by rfl, fun W' hW => by clear hW; go_simp⟩) ?_
  try simp only [Act.put, List.setIfInBounds_toArray]
  try dsimp only [List.getElem_toArray, List.getElem_cons_succ, List.getElem_cons_zero, List.set_cons_zero, List.set_cons_succ]
  refine wpAnyT_path (i := 23) (p := [54, 52, 48, 46, 43, 39, 35, 26, 25, 24]) (v := .int .i64 2) rfl (by kernel_rfl) (by kernel_rfl) (fun _ _ _ h => h) HS4.out (.inl ⟨by rfl, fun W' hW => by clear hW; go_simp⟩) ?_
  try simp only [Act.put, List.setIfInBounds_toArray]
  try dsimp only [List.getElem_toArray, List.getElem_cons_succ, List.getElem_cons_zero, List.set_cons_zero, List.set_cons_succ]
  refine wpAnyT_path (i := 24) (p := [54, 52, 48, 46, 43, 39, 35, 26, 25]) (v := .bool true) rfl (by kernel_rfl) (by kernel_rfl) (fun _ _ _ h => h) HS4.out (.inl ⟨by rfl, fun W' hW => by clear hW; go_simp⟩) ?_
  try simp only [Act.put, List.setIfInBounds_toArray]
  try dsimp only [List.getElem_toArray, List.getElem_cons_succ, List.getElem_cons_zero, List.set_cons_zero, List.set_cons_succ]
  refine wpAnyT_path (i := 25) (p := [54, 52, 48, 46, 43, 39, 35, 26]) (v := .bool true) rfl (by kernel_rfl) (by kernel_rfl) (fun _ _ _ h => h) HS4.out (.inl ⟨by rfl, fun W' hW => by clear hW; go_simp⟩) ?_
  try simp only [Act.put, List.setIfInBounds_toArray]
  try dsimp only [List.getElem_toArray, List.getElem_cons_succ, List.getElem_cons_zero, List.set_cons_zero, List.set_cons_succ]
  refine wpAnyT_path (i := 26) (p := [54, 52, 48, 46, 43, 39, 35]) (v := .bool true) rfl (by kernel_rfl) (by kernel_rfl) (fun _ _ _ h => h) HS4.out (.inl ⟨by rfl, fun W' hW => by clear hW; go_simp⟩) ?_
  try simp only [Act.put, List.setIfInBounds_toArray]
  try dsimp only [List.getElem_toArray, List.getElem_cons_succ, List.getElem_cons_zero, List.set_cons_zero, List.set_cons_succ]
  refine wpAnyT_path (i := 27) (p := [54, 52, 48, 46, 43, 39, 35, 34, 33, 29, 28]) (v := .slice (some ⟨BM, OM, none⟩) 2 CM) rfl (by kernel_rfl) (by kernel_rfl) (fun _ _ _ h => h) HS4.out (.inl ⟨by rfl, fun W' hW => by clear hW; go_simp⟩) ?_
  try simp only [Act.put, List.setIfInBounds_toArray]
  try dsimp only [List.getElem_toArray, List.getElem_cons_succ, List.getElem_cons_zero, List.set_cons_zero, List.set_cons_succ]
  refine wpAnyT_path (i := 28) (p := [54, 52, 48, 46, 43, 39, 35, 34, 33, 29]) (v := .pointer (some ⟨BM, OM, none⟩)) rfl (by kernel_rfl) (by kernel_rfl) (fun _ _ _ h => h) HS4.out (.inl ⟨by rfl, fun W' hW => by clear hW; go_simp⟩) ?_
  try simp only [Act.put, List.setIfInBounds_toArray]
  try dsimp only [List.getElem_toArray, List.getElem_cons_succ, List.getElem_cons_zero, List.set_cons_zero, List.set_cons_succ]
  refine wpAnyT_path (i := 29) (p := [54, 52, 48, 46, 43, 39, 35, 34, 33]) (v := .agg #[.string ⟨#[97]⟩, .string ⟨#[49]⟩]) rfl (by kernel_rfl) (by kernel_rfl) (fun _ _ _ h => h) HS4.out (.inl ⟨by rfl, fun W' hW => by obtain ⟨q1, q2⟩ := HM0.out W' hW; clear hW; go_simp⟩) ?_
  try simp only [Act.put, List.setIfInBounds_toArray]
  try dsimp only [List.getElem_toArray, List.getElem_cons_succ, List.getElem_cons_zero, List.set_cons_zero, List.set_cons_succ]
  refine wpAnyT_path (i := 30) (p := [54, 52, 48, 46, 43, 39, 35, 34, 33, 32, 31]) (v := .slice (some ⟨BL, 0, none⟩) 2 2) rfl (by kernel_rfl) (by kernel_rfl) (fun _ _ _ h => h) HS4.out (.inl ⟨by rfl, fun W' hW => by clear hW; go_simp⟩) ?_
  try simp only [Act.put, List.setIfInBounds_toArray]
  try dsimp only [List.getElem_toArray, List.getElem_cons_succ, List.getElem_cons_zero, List.set_cons_zero, List.set_cons_succ]
  refine wpAnyT_path (i := 31) (p := [54, 52, 48, 46, 43, 39, 35, 34, 33, 32]) (v := .pointer (some ⟨BL, 2, none⟩)) rfl (by kernel_rfl) (by kernel_rfl) (fun _ _ _ h => h) HS4.out (.inl ⟨by rfl, fun W' hW => by clear hW; go_simp⟩) ?_
  try simp only [Act.put, List.setIfInBounds_toArray]
  try dsimp only [List.getElem_toArray, List.getElem_cons_succ, List.getElem_cons_zero, List.set_cons_zero, List.set_cons_succ]
  refine wpAnyT_path (i := 32) (p := [54, 52, 48, 46, 43, 39, 35, 34, 33]) (v := .agg #[.string ⟨#[97]⟩, .string ⟨#[49]⟩]) rfl (by kernel_rfl) (by kernel_rfl) (fun _ _ _ h => h) HS4.out (.inl ⟨by rfl, fun W' hW => by obtain ⟨q1, q2⟩ := HL1.out W' hW; clear hW; go_simp⟩) ?_
  try simp only [Act.put, List.setIfInBounds_toArray]
  try dsimp only [List.getElem_toArray, List.getElem_cons_succ, List.getElem_cons_zero, List.set_cons_zero, List.set_cons_succ]
  refine wpAnyT_path (i := 33) (p := [54, 52, 48, 46, 43, 39, 35, 34]) (v := .bool true) rfl (by kernel_rfl) (by kernel_rfl) (fun _ _ _ h => h) HS4.out (.inl ⟨by rfl, fun W' hW => by have q1 := HSt.out; clear hW; go_simp⟩) ?_
  try simp only [Act.put, List.setIfInBounds_toArray]
  try dsimp only [List.getElem_toArray, List.getElem_cons_succ, List.getElem_cons_zero, List.set_cons_zero, List.set_cons_succ]
  refine wpAnyT_path (i := 34) (p := [54, 52, 48, 46, 43, 39, 35]) (v := .bool true) rfl (by kernel_rfl) (by kernel_rfl) (fun _ _ _ h => h) HS4.out (.inl ⟨by rfl, fun W' hW => by clear hW; go_simp⟩) ?_
  try simp only [Act.put, List.setIfInBounds_toArray]
  try dsimp only [List.getElem_toArray, List.getElem_cons_succ, List.getElem_cons_zero, List.set_cons_zero, List.set_cons_succ]
  refine wpAnyT_path (i := 35) (p := [54, 52, 48, 46, 43, 39]) (v := .bool true) rfl (by kernel_rfl) (by kernel_rfl) (fun _ _ _ h => h) HS4.out (.inl ⟨by rfl, fun W' hW => by clear hW; go_simp⟩) ?_
  try simp only [Act.put, List.setIfInBounds_toArray]
  try dsimp only [List.getElem_toArray, List.getElem_cons_succ, List.getElem_cons_zero, List.set_cons_zero, List.set_cons_succ]
  refine wpAnyT_path (i := 36) (p := [54, 52, 48, 46, 43, 39, 38, 37]) (v := .int .i64 0) rfl (by kernel_rfl) (by kernel_rfl) (fun _ _ _ h => h) HS4.out (.inl ⟨by rfl, fun W' hW => by clear hW; go_simp⟩) ?_
  try simp only [Act.put, List.setIfInBounds_toArray]
  try dsimp only [List.getElem_toArray, List.getElem_cons_succ, List.getElem_cons_zero, List.set_cons_zero, List.set_cons_succ]
  refine wpAnyT_path (i := 37) (p := [54, 52, 48, 46, 43, 39, 38]) (v := .bool true) rfl (by kernel_rfl) (by kernel_rfl) (fun _ _ _ h => h) HS4.out (.inl ⟨by rfl, fun W' hW => by clear hW; go_simp⟩) ?_
  try simp only [Act.put, List.setIfInBounds_toArray]
  try dsimp only [List.getElem_toArray, List.getElem_cons_succ, List.getElem_cons_zero, List.set_cons_zero, List.set_cons_succ]
  refine wpAnyT_path (i := 38) (p := [54, 52, 48, 46, 43, 39]) (v := .bool true) rfl (by kernel_rfl) (by kernel_rfl) (fun _ _ _ h => h) HS4.out (.inl ⟨by rfl, fun W' hW => by clear hW; go_simp⟩) ?_
  try simp only [Act.put, List.setIfInBounds_toArray]
  try dsimp only [List.getElem_toArray, List.getElem_cons_succ, List.getElem_cons_zero, List.set_cons_zero, List.set_cons_succ]
  refine wpAnyT_path (i := 39) (p := [54, 52, 48, 46, 43]) (v := .bool true) rfl (by kernel_rfl) (by kernel_rfl) (fun _ _ _ h => h) HS4.out (.inl ⟨by rfl, fun W' hW => by clear hW; go_simp⟩) ?_
  try simp only [Act.put, List.setIfInBounds_toArray]
  try dsimp only [List.getElem_toArray, List.getElem_cons_succ, List.getElem_cons_zero, List.set_cons_zero, List.set_cons_succ]
  refine wpAnyT_path (i := 40) (p := [54, 52, 48, 46, 43, 42, 41]) (v := .int .i64 2) rfl (by kernel_rfl) (by kernel_rfl) (fun _ _ _ h => h) HS4.out (.inl ⟨by rfl, fun W' hW => by clear hW; go_simp⟩) ?_
  try simp only [Act.put, List.setIfInBounds_toArray]
  try dsimp only [List.getElem_toArray, List.getElem_cons_succ, List.getElem_cons_zero, List.set_cons_zero, List.set_cons_succ]
  refine wpAnyT_path (i := 41) (p := [54, 52, 48, 46, 43, 42]) (v := .bool true) rfl (by kernel_rfl) (by kernel_rfl) (fun _ _ _ h => h) HS4.out (.inl ⟨by rfl, fun W' hW => by clear hW; go_simp⟩) ?_
  try simp only [Act.put, List.setIfInBounds_toArray]
  try dsimp only [List.getElem_toArray, List.getElem_cons_succ, List.getElem_cons_zero, List.set_cons_zero, List.set_cons_succ]
  refine wpAnyT_path (i := 42) (p := [54, 52, 48, 46, 43]) (v := .bool true) rfl (by kernel_rfl) (by kernel_rfl) (fun _ _ _ h => h) HS4.out (.inl ⟨by rfl, fun W' hW => by clear hW; go_simp⟩) ?_
  try simp only [Act.put, List.setIfInBounds_toArray]
  try dsimp only [List.getElem_toArray, List.getElem_cons_succ, List.getElem_cons_zero, List.set_cons_zero, List.set_cons_succ]
  refine wpAnyT_path (i := 43) (p := [54, 52, 48, 46]) (v := .bool true) rfl (by kernel_rfl) (by kernel_rfl) (fun _ _ _ h => h) HS4.out (.inl ⟨by rfl, fun W' hW => by clear hW; go_simp⟩) ?_
  try simp only [Act.put, List.setIfInBounds_toArray]
  try dsimp only [List.getElem_toArray, List.getElem_cons_succ, List.getElem_cons_zero, List.set_cons_zero, List.set_cons_succ]
  refine wpAnyT_path (i := 44) (p := [54, 52, 48, 46]) (v := .slice (some ⟨BL, 0, none⟩) 2 2) rfl (by kernel_rfl) (by kernel_rfl) (fun _ _ _ h => h) HS4.out (.inl ⟨by rfl, fun W' hW => by clear hW; go_simp⟩) ?_
  try simp only [Act.put, List.setIfInBounds_toArray]
  try dsimp only [List.getElem_toArray, List.getElem_cons_succ, List.getElem_cons_zero, List.set_cons_zero, List.set_cons_succ]
  refine wpAnyT_path (i := 45) (p := [54, 52, 48, 46]) (v := .slice (some ⟨BM, OM, none⟩) 2 CM) rfl (by kernel_rfl) (by kernel_rfl) (fun _ _ _ h => h) HS4.out (.inl ⟨by rfl, fun W' hW => by clear hW; go_simp⟩) ?_
  try simp only [Act.put, List.setIfInBounds_toArray]
  try dsimp only [List.getElem_toArray, List.getElem_cons_succ, List.getElem_cons_zero, List.set_cons_zero, List.set_cons_succ]
  refine wpAnyT_one (i := 46) rfl (by kernel_rfl) (wpOp_guarded rfl (by rfl) (fun K hK => ?_))
  try simp only [Act.put, List.setIfInBounds_toArray]
  try dsimp only [List.getElem_toArray, List.getElem_cons_succ, List.getElem_cons_zero, List.set_cons_zero, List.set_cons_succ]
  have HKK := Lib.hid hK
  clear hK
  go_wp2_with fail
  refine (HEq.out _ HS4.out).mono ?_
  rintro e v5 ⟨rfl, g5⟩
  have HS5 := Lib.hid (HS4.out.trans g5 (fun i hi => hi.elim))
  clear g5
  go_wp2_with fail
  refine HKK.out _ _ ⟨fun _ => HS5.out, ?_⟩
  clear HKK K
  try simp only [Act.put, List.setIfInBounds_toArray]
  try dsimp only [List.getElem_toArray, List.getElem_cons_succ, List.getElem_cons_zero, List.set_cons_zero, List.set_cons_succ]
  refine wpAnyT_path (i := 47) (p := [54, 52, 48]) (v := .bool true) rfl (by kernel_rfl) (by kernel_rfl) (fun _ _ _ h => h) HS5.out (.inl ⟨by rfl, fun W' hW => by clear hW; go_simp⟩) ?_
  try simp only [Act.put, List.setIfInBounds_toArray]
  try dsimp only [List.getElem_toArray, List.getElem_cons_succ, List.getElem_cons_zero, List.set_cons_zero, List.set_cons_succ]
  refine wpAnyT_path (i := 48) (p := [54, 52]) (v := .bool true) rfl (by kernel_rfl) (by kernel_rfl) (fun _ _ _ h => h) HS5.out (.inl ⟨by rfl, fun W' hW => by clear hW; go_simp⟩) ?_
  try simp only [Act.put, List.setIfInBounds_toArray]
  try dsimp only [List.getElem_toArray, List.getElem_cons_succ, List.getElem_cons_zero, List.set_cons_zero, List.set_cons_succ]
  refine wpAnyT_path (i := 49) (p := [54, 52, 50]) (v := .slice (some ⟨BM, OM, none⟩) 2 CM) rfl (by kernel_rfl) (by kernel_rfl) (fun _ _ _ h => h) HS5.out (.inl ⟨by rfl, fun W' hW => by clear hW; go_simp⟩) ?_
  try simp only [Act.put, List.setIfInBounds_toArray]
  try dsimp only [List.getElem_toArray, List.getElem_cons_succ, List.getElem_cons_zero, List.set_cons_zero, List.set_cons_succ]
  refine wpAnyT_path (i := 50) (p := [54, 52]) (v := .slice (some ⟨BM, OM, none⟩) 1 CM) rfl (by kernel_rfl) (by kernel_rfl) (fun _ _ _ h => h) HS5.out (.inl ⟨by rfl, fun W' hW => by have q1 : ¬ (CM : Int) < 1 := (by omega); have q2 : ¬ CM = 0 := (by omega); have q3 : (1 : Int) ≤ (CM : Int) := (by omega); clear hW; go_simp⟩) ?_
  try simp only [Act.put, List.setIfInBounds_toArray]
  try dsimp only [List.getElem_toArray, List.getElem_cons_succ, List.getElem_cons_zero, List.set_cons_zero, List.set_cons_succ]
  refine wpAnyT_path (i := 51) (p := [54, 52]) (v := .slice (some ⟨BL, 0, none⟩) 2 2) rfl (by kernel_rfl) (by kernel_rfl) (fun _ _ _ h => h) HS5.out (.inl ⟨by rfl, fun W' hW => by clear hW; go_simp⟩) ?_
  try simp only [Act.put, List.setIfInBounds_toArray]
  try dsimp only [List.getElem_toArray, List.getElem_cons_succ, List.getElem_cons_zero, List.set_cons_zero, List.set_cons_succ]
  refine wpAnyT_one (i := 52) rfl (by kernel_rfl) (wpOp_guarded rfl (by rfl) (fun K hK => ?_))
  try simp only [Act.put, List.setIfInBounds_toArray]
  try dsimp only [List.getElem_toArray, List.getElem_cons_succ, List.getElem_cons_zero, List.set_cons_zero, List.set_cons_succ]
  have HKK := Lib.hid hK
  clear hK
  go_wp2_with fail
  refine (HSub.out _ HS5.out).mono ?_
  rintro e v6 ⟨rfl, g6⟩
  have HS6 := Lib.hid (HS5.out.trans g6 (fun i hi => hi.elim))
  clear g6
  go_wp2_with fail
  refine HKK.out _ _ ⟨fun _ => HS6.out, ?_⟩
  clear HKK K
  try simp only [Act.put, List.setIfInBounds_toArray]
  try dsimp only [List.getElem_toArray, List.getElem_cons_succ, List.getElem_cons_zero, List.set_cons_zero, List.set_cons_succ]
  refine wpAnyT_path (i := 53) (p := [54]) (v := .bool true) rfl (by kernel_rfl) (by kernel_rfl) (fun _ _ _ h => h) HS6.out (.inl ⟨by rfl, fun W' hW => by clear hW; go_simp⟩) ?_
  try simp only [Act.put, List.setIfInBounds_toArray]
  try dsimp only [List.getElem_toArray, List.getElem_cons_succ, List.getElem_cons_zero, List.set_cons_zero, List.set_cons_succ]
  refine wpAnyT_path (i := 54) (p := []) (v := .bool true) rfl (by kernel_rfl) (by kernel_rfl) (fun _ _ _ h => h) HS6.out (.inl ⟨by rfl, fun W' hW => by clear hW; go_simp⟩) ?_
  try simp only [Act.put, List.setIfInBounds_toArray]
  try dsimp only [List.getElem_toArray, List.getElem_cons_succ, List.getElem_cons_zero, List.set_cons_zero, List.set_cons_succ]
  refine wpAnyT_path (i := 55) (p := []) (v := .slice (some ⟨BL, 0, none⟩) 2 2) rfl (by kernel_rfl) (by kernel_rfl) (fun _ _ _ h => h) HS6.out (.inl ⟨by rfl, fun W' hW => by clear hW; go_simp⟩) ?_
  try simp only [Act.put, List.setIfInBounds_toArray]
  try dsimp only [List.getElem_toArray, List.getElem_cons_succ, List.getElem_cons_zero, List.set_cons_zero, List.set_cons_succ]
  refine wpAnyT_path (i := 56) (p := [57]) (v := .slice (some ⟨BM, OM, none⟩) 2 CM) rfl (by kernel_rfl) (by kernel_rfl) (fun _ _ _ h => h) HS6.out (.inl ⟨by rfl, fun W' hW => by clear hW; go_simp⟩) ?_
  try simp only [Act.put, List.setIfInBounds_toArray]
  try dsimp only [List.getElem_toArray, List.getElem_cons_succ, List.getElem_cons_zero, List.set_cons_zero, List.set_cons_succ]
  refine wpAnyT_path (i := 57) (p := []) (v := .slice (some ⟨BM, OM, none⟩) 1 CM) rfl (by kernel_rfl) (by kernel_rfl) (fun _ _ _ h => h) HS6.out (.inl ⟨by rfl, fun W' hW => by have q1 : ¬ (CM : Int) < 1 := (by omega); have q2 : ¬ CM = 0 := (by omega); have q3 : (1 : Int) ≤ (CM : Int) := (by omega); clear hW; go_simp⟩) ?_
  try simp only [Act.put, List.setIfInBounds_toArray]
  try dsimp only [List.getElem_toArray, List.getElem_cons_succ, List.getElem_cons_zero, List.set_cons_zero, List.set_cons_succ]
  refine wpAnyT_one (i := 58) rfl (by kernel_rfl) (wpOp_guarded rfl (by rfl) (fun K hK => ?_))
  try simp only [Act.put, List.setIfInBounds_toArray]
  try dsimp only [List.getElem_toArray, List.getElem_cons_succ, List.getElem_cons_zero, List.set_cons_zero, List.set_cons_succ]
  have HKK := Lib.hid hK
  clear hK
  go_wp2_with fail
  refine (HNSub.out _ HS6.out).mono ?_
  rintro e v7 ⟨rfl, g7⟩
  have HS7 := Lib.hid (HS6.out.trans g7 (fun i hi => hi.elim))
  clear g7
  go_wp2_with fail
  refine HKK.out _ _ ⟨fun _ => HS7.out, ?_⟩
  clear HKK K
  try simp only [Act.put, List.setIfInBounds_toArray]
  try dsimp only [List.getElem_toArray, List.getElem_cons_succ, List.getElem_cons_zero, List.set_cons_zero, List.set_cons_succ]
  refine wpAnyT_done (by first | rfl | kernel_rfl) _ _ _ ?_
  refine wpAny_take (i := 59) (v := .bool true) rfl (by kernel_rfl) (by kernel_rfl) (by kernel_rfl) (fun _ _ _ h => h) (.inl ⟨by rfl, fun W' => by go_simp⟩) ?_
  try simp only [Act.put, List.setIfInBounds_toArray]
  try dsimp only [List.getElem_toArray, List.getElem_cons_succ, List.getElem_cons_zero, List.set_cons_zero, List.set_cons_succ]
  refine wpAny_take (i := 60) (v := .bool true) rfl (by kernel_rfl) (by kernel_rfl) (by kernel_rfl) (fun _ _ _ h => h) (.inl ⟨by rfl, fun W' => by go_simp⟩) ?_
  try simp only [Act.put, List.setIfInBounds_toArray]
  try dsimp only [List.getElem_toArray, List.getElem_cons_succ, List.getElem_cons_zero, List.set_cons_zero, List.set_cons_succ]
  refine wpAny_take (i := 61) (v := .bool true) rfl (by kernel_rfl) (by kernel_rfl) (by kernel_rfl) (fun _ _ _ h => h) (.inl ⟨by rfl, fun W' => by go_simp⟩) ?_
  try simp only [Act.put, List.setIfInBounds_toArray]
  try dsimp only [List.getElem_toArray, List.getElem_cons_succ, List.getElem_cons_zero, List.set_cons_zero, List.set_cons_succ]
  refine wpAny_done (by kernel_rfl) ?_ _
  have HFin := Lib.hid (HF0.out.trans (G3.out.trans (HW3.out.trans HS7.out (fun i hi => hi.elim)) (fun i hi => hi.elim)) (fun i hi => hi.elim))
  go_wp2_with fail
  go_ret
  exact ⟨rfl, HFin.out⟩
end Go.Proofs.Ythmpmpepokeedaa
