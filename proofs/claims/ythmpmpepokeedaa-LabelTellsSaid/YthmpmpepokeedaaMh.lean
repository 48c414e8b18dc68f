/- LabelTells: the walk. -/
import Derived.Test.YthmpmpepokeedaaMg
import Derived.Test.YthmpmpepokeedaaMc
set_option linter.unusedVariables false
set_option linter.unusedSimpArgs false
set_option pp.deepTerms true
set_option pp.maxSteps 100000
namespace Go.Proofs.Ythmpmpepokeedaa
open Go.RowKit
set_option maxRecDepth 20000 in
set_option maxHeartbeats 4000000 in
theorem tells_early (a b : Option Addr) (cap cap2 : Nat) (l m : List Pr) (NB SB : ByteArray) (w : World) (hl : PSl w a l) (hlc : l.length ≤ cap) (hcap : cap ≤ 9223372036854775807) (hm : PSl w b m) (hmc : m.length ≤ cap2) (hcap2 : cap2 ≤ 9223372036854775807)
    (h : 300 < NB.size ∨ fewB l = false ∨ fewB m = false ∨ 1500 < SB.size) :
    Calls Try.prog 8 #[.string NB, .slice a l.length cap, .slice b m.length cap2, .string SB] w fun e w' => e = .returned (.bool true) ∧ Fr (fun _ => False) w w' := by
  have H1 := Lib.hid (show ∀ w', Fr (fun _ => False) w w' → Calls Try.prog 33 #[.slice a l.length cap] w' fun e w2 => e = .returned (.bool (fewB l)) ∧ Fr (fun _ => False) w' w2 from fun w' hf => few_calls a cap l w' (hl.frF hf) hlc hcap)
  have H2 := Lib.hid (show ∀ w', Fr (fun _ => False) w w' → Calls Try.prog 33 #[.slice b m.length cap2] w' fun e w2 => e = .returned (.bool (fewB m)) ∧ Fr (fun _ => False) w' w2 from fun w' hf => few_calls b cap2 m w' (hm.frF hf) hmc hcap2)
  clear hl hlc hcap hm hmc hcap2
  generalize l.length = n at H1 ⊢
  generalize m.length = n2 at H2 ⊢
  generalize fewB l = y at H1 h
  generalize fewB m = z at H2 h
  by_cases h1 : 300 < NB.size
  · have t1 : decide ((300 : Int) < (NB.size : Int)) = true := decide_eq_true (by omega)
    clear h h1
    go_enter Try.func8, Try.ntmps8
    go_wp2_with fail
    refine (label_awake _).mono ?_
    rintro e w1 ⟨rfl, f1⟩
    have G1 := Lib.hid f1
    clear f1
    go_wp2_with fail
    go_ret
    exact ⟨rfl, G1.out⟩
  have t1 : decide ((300 : Int) < (NB.size : Int)) = false := decide_eq_false (by omega)
  cases y with
  | false =>
    clear h h1
    go_enter Try.func8, Try.ntmps8
    go_wp2_with fail
    refine (label_awake _).mono ?_
    rintro e w1 ⟨rfl, f1⟩
    have G1 := Lib.hid f1
    clear f1
    go_wp2_with fail
    refine (H1.out w1 G1.out).mono ?_
    rintro e w2 ⟨rfl, f2⟩
    have G2 := Lib.hid (G1.out.trans f2 (fun i hi => hi.elim))
    clear f2
    go_wp2_with fail
    go_ret
    exact ⟨rfl, G2.out⟩
  | true =>
    cases z with
    | false =>
      clear h h1
      go_enter Try.func8, Try.ntmps8
      go_wp2_with fail
      refine (label_awake _).mono ?_
      rintro e w1 ⟨rfl, f1⟩
      have G1 := Lib.hid f1
      clear f1
      go_wp2_with fail
      refine (H1.out w1 G1.out).mono ?_
      rintro e w2 ⟨rfl, f2⟩
      have G2 := Lib.hid (G1.out.trans f2 (fun i hi => hi.elim))
      clear f2
      go_wp2_with fail
      refine (H2.out w2 G2.out).mono ?_
      rintro e w3 ⟨rfl, f3⟩
      have G3 := Lib.hid (G2.out.trans f3 (fun i hi => hi.elim))
      clear f3
      go_wp2_with fail
      go_ret
      exact ⟨rfl, G3.out⟩
    | true =>
      have h4 : 1500 < SB.size := by
        rcases h with h | h | h | h
        · exact absurd h h1
        · cases h
        · cases h
        · exact h
      have t4 : decide ((1500 : Int) < (SB.size : Int)) = true := decide_eq_true (by omega)
      clear h h1 h4
      go_enter Try.func8, Try.ntmps8
      go_wp2_with fail
      refine (label_awake _).mono ?_
      rintro e w1 ⟨rfl, f1⟩
      have G1 := Lib.hid f1
      clear f1
      go_wp2_with fail
      refine (H1.out w1 G1.out).mono ?_
      rintro e w2 ⟨rfl, f2⟩
      have G2 := Lib.hid (G1.out.trans f2 (fun i hi => hi.elim))
      clear f2
      go_wp2_with fail
      refine (H2.out w2 G2.out).mono ?_
      rintro e w3 ⟨rfl, f3⟩
      have G3 := Lib.hid (G2.out.trans f3 (fun i hi => hi.elim))
      clear f3
      go_wp2_with fail
      go_ret
      exact ⟨rfl, G3.out⟩
set_option maxRecDepth 20000 in
set_option maxHeartbeats 8000000 in
theorem tells_late (a b : Option Addr) (cap cap2 : Nat) (l m : List Pr) (nm s : List UInt8) (w : World) (hl : PSl w a l) (hlc : l.length ≤ cap) (hcap : cap ≤ 9223372036854775807) (hm : PSl w b m) (hmc : m.length ≤ cap2) (hcap2 : cap2 ≤ 9223372036854775807)
    (hn : nm.length ≤ 300) (hfl : fewB l = true) (hfm : fewB m = true) (hs : s.length ≤ 1500) :
    Calls Try.prog 8 #[.string (str nm), .slice a l.length cap, .slice b m.length cap2, .string (str s)] w fun e w' => e = .returned (.bool true) ∧ Fr (fun _ => False) w w' := by
  obtain ⟨fl1, fl2⟩ := (fewB_iff l).1 hfl
  obtain ⟨fm1, fm2⟩ := (fewB_iff m).1 hfm
  have sl : ∀ p ∈ l, p.1.length ≤ 100000 ∧ p.2.length ≤ 100000 := fun p hp => by have := fl2 p hp; omega
  have sm : ∀ p ∈ m, p.1.length ≤ 100000 ∧ p.2.length ≤ 100000 := fun p hp => by have := fm2 p hp; omega
  obtain ⟨x, hx⟩ : ∃ x, x = subB l m := ⟨_, rfl⟩
  obtain ⟨y, hy⟩ : ∃ y, y = subB m l := ⟨_, rfl⟩
  obtain ⟨z, hz⟩ : ∃ z, z = eqB l m := ⟨_, rfl⟩
  have hxyz : z = (x && y) := by rw [hx, hy, hz]; exact eqB_sub l m
  obtain ⟨TX, hTX⟩ : ∃ t, t = str (if rightB l then textOf l else []) := ⟨_, rfl⟩
  obtain ⟨TC, hTC⟩ : ∃ t : Int, t = (if rightB l then 0 else 2) := ⟨_, rfl⟩
  obtain ⟨rn, hrn⟩ : ∃ n, n = runesL nm := ⟨_, rfl⟩
  obtain ⟨bn, hbn⟩ : ∃ b, b = decide (0 < runesL nm) := ⟨_, rfl⟩
  have tb : decide ((0 : Int) < (rn : Int)) = bn := by rw [hbn, hrn]; exact decide_eq_decide.2 (by omega)
  have tb' : decide (0 < rn) = bn := by rw [hbn, hrn]
  obtain ⟨ol, hol⟩ : ∃ o, o = (parseO s).getD [] := ⟨_, rfl⟩
  obtain ⟨oc, hoc⟩ : ∃ c : Int, c = (if (parseO s).isSome then 0 else 2) := ⟨_, rfl⟩
  have A1 := Lib.hid (show ∀ w', Fr (fun _ => False) w w' → Calls Try.prog 33 #[.slice a l.length cap] w' fun e w2 => e = .returned (.bool true) ∧ Fr (fun _ => False) w' w2 from fun w' hf => by have := few_calls a cap l w' (hl.frF hf) hlc hcap; rw [hfl] at this; exact this)
  have A2 := Lib.hid (show ∀ w', Fr (fun _ => False) w w' → Calls Try.prog 33 #[.slice b m.length cap2] w' fun e w2 => e = .returned (.bool true) ∧ Fr (fun _ => False) w' w2 from fun w' hf => by have := few_calls b cap2 m w' (hm.frF hf) hmc hcap2; rw [hfm] at this; exact this)
  have A3 := Lib.hid (show ∀ w', Fr (fun _ => False) w w' → Calls Try.prog 34 #[.slice a l.length cap] w' fun e w2 => e = .returned (.tuple #[.string TX, .int .i64 TC]) ∧ Fr (fun _ => False) w' w2 from fun w' hf => by rw [hTX, hTC]; exact text_calls a cap l (by omega) sl w' (hl.frF hf) hlc hcap)
  have A4 := Lib.hid (show ∀ w', Fr (fun _ => False) w w' → Calls Try.prog 35 #[.slice a l.length cap] w' fun e w2 => e = .returned (.tuple #[.string TX, .int .i64 TC]) ∧ Fr (fun _ => False) w' w2 from fun w' hf => by rw [hTX, hTC]; exact reftext_calls a cap l w' (hl.frF hf) hlc hcap)
  obtain ⟨SB, hSB⟩ : ∃ t, t = str s := ⟨_, rfl⟩
  obtain ⟨NB, hNB⟩ : ∃ t, t = str nm := ⟨_, rfl⟩
  have A5 := Lib.hid (show ∀ w', Calls Try.prog 36 #[.string SB] w' fun e w2 => ∃ v, e = .returned (.tuple #[v, .int .i64 oc]) ∧ PV w2 v ol ∧ Fr (fun _ => False) w' w2 from fun w' => by
    rw [hSB]
    refine (parse_calls s (by omega) w').mono ?_
    rintro e w2 ⟨v, c, h1, h2, h3, h4⟩
    exact ⟨v, by rw [h1, h2, hoc], by rw [hol]; exact h3, h4⟩)
  have A6 := Lib.hid (show ∀ w', Calls Try.prog 37 #[.string SB] w' fun e w2 => ∃ v, e = .returned (.tuple #[v, .int .i64 oc]) ∧ PV w2 v ol ∧ Fr (fun _ => False) w' w2 from fun w' => by
    rw [hSB]
    refine (refparse_calls s (by omega) w').mono ?_
    rintro e w2 ⟨v, c, h1, h2, h3, h4⟩
    exact ⟨v, by rw [h1, h2, hoc], by rw [hol]; exact h3, h4⟩)
  have A7 := Lib.hid (show ∀ w', Calls Try.prog 38 #[.string NB] w' fun e w2 => e = .returned (.int .i64 (rn : Int)) ∧ Fr (fun _ => False) w' w2 from fun w' => by rw [hNB, hrn]; exact refrunes_calls nm (by omega) w')
  have A8 := Lib.hid (show ∀ w', Calls Try.prog 39 #[.string NB] w' fun e w2 => e = .returned (.int .i64 (rn : Int)) ∧ Fr (fun _ => False) w' w2 from fun w' => by rw [hNB, hrn]; exact runes_calls nm (by omega) w')
  have A9 := Lib.hid (show ∀ w', Calls Try.prog 40 #[.string NB] w' fun e w2 => e = .returned (.bool bn) ∧ Fr (fun _ => False) w' w2 from fun w' => by rw [hNB, hbn]; exact right_name nm (by omega) w')
  have B1 := Lib.hid (show ∀ w', Fr (fun _ => False) w w' → Calls Try.prog 42 #[.slice a l.length cap, .slice b m.length cap2] w' fun e w2 => e = .returned (.bool x) ∧ Fr (fun _ => False) w' w2 from fun w' hf => by rw [hx]; exact subset_calls a b cap cap2 l m (by omega) sl (by omega) sm w' (hl.frF hf) (hm.frF hf) hlc hcap hmc hcap2)
  have B2 := Lib.hid (show ∀ w', Fr (fun _ => False) w w' → Calls Try.prog 43 #[.slice a l.length cap, .slice b m.length cap2] w' fun e w2 => e = .returned (.bool x) ∧ Fr (fun _ => False) w' w2 from fun w' hf => by rw [hx]; exact refsubset_calls a b cap cap2 l m w' (hl.frF hf) (hm.frF hf) hlc hcap hmc hcap2)
  have B3 := Lib.hid (show ∀ w', Fr (fun _ => False) w w' → Calls Try.prog 43 #[.slice b m.length cap2, .slice a l.length cap] w' fun e w2 => e = .returned (.bool y) ∧ Fr (fun _ => False) w' w2 from fun w' hf => by rw [hy]; exact refsubset_calls b a cap2 cap m l w' (hm.frF hf) (hl.frF hf) hmc hcap2 hlc hcap)
  have B4 := Lib.hid (show ∀ w', Fr (fun _ => False) w w' → Calls Try.prog 44 #[.slice a l.length cap, .slice b m.length cap2] w' fun e w2 => e = .returned (.bool z) ∧ Fr (fun _ => False) w' w2 from fun w' hf => by rw [hz]; exact equal_calls a b cap cap2 l m (by omega) sl (by omega) sm w' (hl.frF hf) (hm.frF hf) hlc hcap hmc hcap2)
  have hns : NB.size ≤ 300 := by rw [hNB, str_size]; exact hn
  have hss : SB.size ≤ 1500 := by rw [hSB, str_size]; exact hs
  have t1 : decide ((300 : Int) < (NB.size : Int)) = false := decide_eq_false (by omega)
  have t4 : decide ((1500 : Int) < (SB.size : Int)) = false := decide_eq_false (by omega)
  rw [← hNB, ← hSB]
  have HZ := Lib.hid hxyz
  clear hns hss hNB hSB hl hlc hcap hm hmc hcap2 hn hfl hfm hs fl1 fl2 fm1 fm2 sl sm hx hy hz hxyz hTX hTC hrn hbn hol hoc
  generalize l.length = n at *
  generalize m.length = n2 at *
  go_enter Try.func8, Try.ntmps8
  go_wp2_with fail
  refine (label_awake _).mono ?_
  rintro e w1 ⟨rfl, f1⟩
  have G1 := Lib.hid f1
  clear f1
  go_wp2_with fail
  refine (A1.out w1 G1.out).mono ?_
  rintro e w2 ⟨rfl, f2⟩
  have G2 := Lib.hid (G1.out.trans f2 (fun i hi => hi.elim))
  clear f2
  go_wp2_with fail
  refine (A2.out w2 G2.out).mono ?_
  rintro e w3 ⟨rfl, f3⟩
  have G3 := Lib.hid (G2.out.trans f3 (fun i hi => hi.elim))
  clear f3
  go_wp2_with fail
  refine (A3.out w3 G3.out).mono ?_
  rintro e w4 ⟨rfl, f4⟩
  have G4 := Lib.hid (G3.out.trans f4 (fun i hi => hi.elim))
  clear f4
  go_wp2_with fail
  refine (A4.out w4 G4.out).mono ?_
  rintro e w5 ⟨rfl, f5⟩
  have G5 := Lib.hid (G4.out.trans f5 (fun i hi => hi.elim))
  clear f5
  go_wp2_with fail
  refine (A5.out w5).mono ?_
  rintro e w6 ⟨v1, rfl, hp1, f6⟩
  have G6 := Lib.hid (G5.out.trans f6 (fun i hi => hi.elim))
  have P1 := Lib.hid hp1
  clear hp1 f6
  go_wp2_with fail
  refine (A6.out w6).mono ?_
  rintro e w7 ⟨v2, rfl, hp2, f7⟩
  have G7 := Lib.hid (G6.out.trans f7 (fun i hi => hi.elim))
  have P2 := Lib.hid hp2
  have P17 := Lib.hid (P1.out.frF f7)
  clear hp2 f7
  go_wp2_with fail
  refine (A7.out w7).mono ?_
  rintro e w8 ⟨rfl, f8⟩
  have G8 := Lib.hid (G7.out.trans f8 (fun i hi => hi.elim))
  have P18 := Lib.hid (P17.out.frF f8)
  have P28 := Lib.hid (P2.out.frF f8)
  clear f8
  go_wp2_with fail
  refine (A8.out w8).mono ?_
  rintro e w9 ⟨rfl, f9⟩
  have G9 := Lib.hid (G8.out.trans f9 (fun i hi => hi.elim))
  have P19 := Lib.hid (P18.out.frF f9)
  have P29 := Lib.hid (P28.out.frF f9)
  clear f9
  go_wp2_with fail
  refine (A9.out w9).mono ?_
  rintro e wa ⟨rfl, fa⟩
  have Ga := Lib.hid (G9.out.trans fa (fun i hi => hi.elim))
  obtain ⟨a1, k1, rfl, q1, q2, q3⟩ := P19.out.frF fa
  obtain ⟨a2, k2, rfl, r1, r2, r3⟩ := P29.out.frF fa
  have SM := Lib.hid (same_calls a1 a2 k1 k2 ol ol wa q1 r1 q2 q3 r2 r3)
  clear fa q1 q2 q3 r1 r2 r3 P1 P2 P17 P18 P19 P28 P29
  generalize ol.length = n3 at *
  go_wp2_with fail
  refine SM.out.mono ?_
  rintro e wb ⟨rfl, fb⟩
  have Gb := Lib.hid (Ga.out.trans fb (fun i hi => hi.elim))
  have td : decide (ol = ol) = true := decide_eq_true rfl
  clear fb SM
  go_wp2_with fail
  refine (B1.out wb Gb.out).mono ?_
  rintro e wc ⟨rfl, fc⟩
  have Gc := Lib.hid (Gb.out.trans fc (fun i hi => hi.elim))
  clear fc
  go_wp2_with fail
  refine (B2.out wc Gc.out).mono ?_
  rintro e wd ⟨rfl, fd⟩
  have Gd := Lib.hid (Gc.out.trans fd (fun i hi => hi.elim))
  clear fd
  go_wp2_with fail
  refine (B4.out wd Gd.out).mono ?_
  rintro e we ⟨rfl, fe⟩
  have Ge := Lib.hid (Gd.out.trans fe (fun i hi => hi.elim))
  clear fe
  go_wp2_with fail
  refine (B2.out we Ge.out).mono ?_
  rintro e wf ⟨rfl, ff⟩
  have Gf := Lib.hid (Ge.out.trans ff (fun i hi => hi.elim))
  clear ff
  cases x with
  | false =>
    have HZ2 := Lib.hid (show z = false by rw [HZ.out]; rfl)
    go_wp2_with fail
    go_ret
    exact ⟨by rw [HZ2.out]; rfl, Gf.out⟩
  | true =>
    have HZ2 := Lib.hid (show z = y by rw [HZ.out]; simp)
    go_wp2_with fail
    refine (B3.out wf Gf.out).mono ?_
    rintro e wg ⟨rfl, fg⟩
    have Gg := Lib.hid (Gf.out.trans fg (fun i hi => hi.elim))
    clear fg
    go_wp2_with fail
    go_ret
    exact ⟨by rw [HZ2.out]; simp, Gg.out⟩
theorem tells_walk (a b : Option Addr) (cap cap2 : Nat) (l m : List Pr) (NB SB : ByteArray) (w : World) (hl : PSl w a l) (hlc : l.length ≤ cap) (hcap : cap ≤ 9223372036854775807) (hm : PSl w b m) (hmc : m.length ≤ cap2) (hcap2 : cap2 ≤ 9223372036854775807) :
    Calls Try.prog 8 #[.string NB, .slice a l.length cap, .slice b m.length cap2, .string SB] w fun e w' => e = .returned (.bool true) ∧ Fr (fun _ => False) w w' := by
  by_cases h : 300 < NB.size ∨ fewB l = false ∨ fewB m = false ∨ 1500 < SB.size
  · exact tells_early a b cap cap2 l m NB SB w hl hlc hcap hm hmc hcap2 h
  · rw [not_or, not_or, not_or] at h
    have h1 := h.1
    have h4 := h.2.2.2
    have e1 := (str_bk NB).symm
    have e2 := (str_bk SB).symm
    rw [e1, str_size] at h1
    rw [e2, str_size] at h4
    rw [e1, e2]
    exact tells_late a b cap cap2 l m _ _ w hl hlc hcap hm hmc hcap2 (by omega) (by simpa using h.2.1) (by simpa using h.2.2.1) (by omega)
end Go.Proofs.Ythmpmpepokeedaa
