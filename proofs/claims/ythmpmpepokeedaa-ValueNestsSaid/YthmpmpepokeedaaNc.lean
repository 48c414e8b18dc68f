/- Values: how they lie in memory; Few and Of walked. -/
import Derived.Test.YthmpmpepokeedaaNb
import Derived.BigQuiet
set_option linter.unusedVariables false
set_option linter.unusedSimpArgs false
set_option pp.deepTerms true
set_option pp.maxSteps 100000
namespace Go.Proofs.Ythmpmpepokeedaa
open Go.RowKit
/-- The document's value, as five cells; its rows in blocks of D. -/
inductive VR (w : World) (D : Nat → Prop) : VT → List Value → Prop where
  | mk (k n : Int) (s : List UInt8) (b : Bool) (l : List VT) (a : Option Addr) (cap : Nat) (cs : Nat → List Value) (hlc : l.length ≤ cap) (hcap : cap ≤ 9223372036854775807) (hs : s.length ≤ 9223372036854775807)
      (ha : l = [] ∨ ∃ g off, a = some ⟨g, off, none⟩ ∧ D g ∧ ∀ i t, l[i]? = some t → w.rangeAt g (off + i * 5) (cs i))
      (h : ∀ i t, l[i]? = some t → VR w D t (cs i)) : VR w D (.mk k n s b l) [.int .i64 k, .int .i64 n, .string (str s), .bool b, .slice a l.length cap]
theorem VR.fr {w w' : World} {D F : Nat → Prop} {t : VT} {cs : List Value} (h : VR w D t cs) (hf : Fr F w w') (hF : ∀ i, D i → ¬ F i) : VR w' D t cs := by
  induction h with
  | mk k n s b l a cap cs hlc hcap hs ha h ih =>
    refine .mk k n s b l a cap cs hlc hcap hs ?_ ih
    rcases ha with h0 | ⟨g, off, e, hg, hr⟩
    · exact .inl h0
    · exact .inr ⟨g, off, e, hg, fun i t ht j v hj => hf.cell (hr i t ht j v hj) (hF g hg)⟩
theorem VR.frF {w w' : World} {D : Nat → Prop} {t : VT} {cs : List Value} (h : VR w D t cs) (hf : Fr (fun _ => False) w w') : VR w' D t cs := h.fr hf (fun _ _ => id)
theorem VR.mono {w : World} {D E : Nat → Prop} {t : VT} {cs : List Value} (h : VR w D t cs) (hD : ∀ i, D i → E i) : VR w E t cs := by
  induction h with
  | mk k n s b l a cap cs hlc hcap hs ha h ih =>
    refine .mk k n s b l a cap cs hlc hcap hs ?_ ih
    rcases ha with h0 | ⟨g, off, e, hg, hr⟩
    · exact .inl h0
    · exact .inr ⟨g, off, e, hD g hg, hr⟩
theorem VR.five {w : World} {D : Nat → Prop} {t : VT} {cs : List Value} (h : VR w D t cs) : cs.length = 5 := by cases h; rfl
/-- The program's value; its rows in blocks of D. -/
inductive AR (w : World) (D : Nat → Prop) : AV → Value → Prop where
  | non : AR w D .non .nilIface
  | int (n : Int) : AR w D (.int n) (.iface 3 (.int .i64 n))
  | text (s : List UInt8) (hs : s.length ≤ 9223372036854775807) : AR w D (.text s) (.iface 9 (.string (str s)))
  | yes (b : Bool) : AR w D (.yes b) (.iface 4 (.bool b))
  | row (l : List AV) (g cap : Nat) (vs : Nat → Value) (hlc : l.length ≤ cap) (hcap : cap ≤ 9223372036854775807) (hD : D g) (hb : g < w.heap.size) (hc : ∀ i a, l[i]? = some a → w.cell? ⟨g, i, none⟩ = some (vs i))
      (h : ∀ i a, l[i]? = some a → AR w D a (vs i)) : AR w D (.row l) (.iface 58 (.slice (some ⟨g, 0, none⟩) l.length cap))
theorem AR.fr {w w' : World} {D F : Nat → Prop} {t : AV} {v : Value} (h : AR w D t v) (hf : Fr F w w') (hF : ∀ i, D i → ¬ F i) : AR w' D t v := by
  induction h with
  | non => exact .non
  | int n => exact .int n
  | text s hs => exact .text s hs
  | yes b => exact .yes b
  | row l g cap vs hlc hcap hD hb hc h ih => exact .row l g cap vs hlc hcap hD (Nat.lt_of_lt_of_le hb hf.size) (fun i a ha => hf.cell (hc i a ha) (hF g hD)) ih
theorem AR.frF {w w' : World} {D : Nat → Prop} {t : AV} {v : Value} (h : AR w D t v) (hf : Fr (fun _ => False) w w') : AR w' D t v := h.fr hf (fun _ _ => id)
theorem AR.mono {w : World} {D E : Nat → Prop} {t : AV} {v : Value} (h : AR w D t v) (hD : ∀ i, D i → E i) : AR w E t v := by
  induction h with
  | non => exact .non
  | int n => exact .int n
  | text s hs => exact .text s hs
  | yes b => exact .yes b
  | row l g cap vs hlc hcap hg hb hc h ih => exact .row l g cap vs hlc hcap (hD g hg) hb hc ih
theorem AR.one {w : World} {D : Nat → Prop} {t : AV} {v : Value} (h : AR w D t v) : v.oneCell' = true := by cases h <;> rfl
theorem AR.lt {w : World} {D : Nat → Prop} {t : AV} {v : Value} (h : AR w D t v) : AR w (fun i => D i ∧ i < w.heap.size) t v := by
  induction h with
  | non => exact .non
  | int n => exact .int n
  | text s hs => exact .text s hs
  | yes b => exact .yes b
  | row l g cap vs hlc hcap hg hb hc h ih => exact .row l g cap vs hlc hcap ⟨hg, hb⟩ hb hc ih
def fewK : Nat → VT → Bool
  | 0, _ => false
  | j + 1, .mk _ _ s _ l => decide (s.length ≤ 70000) && decide (l.length ≤ 300) && (decide (10 ≤ j + 1) || decide (l.length ≤ 5)) && l.all (fewK j)
theorem info36 : (Try.prog.info? 36).map (·.size) = some 5 := by kernel_rfl
set_option maxRecDepth 20000 in
set_option maxHeartbeats 4000000 in
theorem few_calls (j : Nat) : ∀ (d : Nat) (hj : d + j = 11) (t : VT) (cs : List Value) (D : Nat → Prop) (w : World), VR w D t cs →
    Calls Try.prog 16 #[.agg cs.toArray, .int .i64 (d : Int)] w fun e w' => e = .returned (.bool (fewK j t)) ∧ Fr (fun _ => False) w w' := by
  induction j with
  | zero =>
    intro d hj t cs D w hv
    obtain rfl : d = 11 := by omega
    cases hv with
    | mk k n s b l a cap cs hlc hcap hs ha h =>
      show Calls Try.prog 16 #[.agg #[.int .i64 k, .int .i64 n, .string (str s), .bool b, .slice a l.length cap], .int .i64 11] w _
      obtain ⟨S, hS⟩ : ∃ x, x = str s := ⟨_, rfl⟩
      rw [← hS]
      clear hS ha h
      go_enter Try.func16, Try.ntmps16
      go_wp2_with fail
      go_ret
      exact ⟨rfl, (Fr.refl _ _).alloc _⟩
  | succ j ih =>
    intro d hj t cs D w hv
    cases hv with
    | mk k n s b l a cap cs hlc hcap hs ha h =>
      show Calls Try.prog 16 #[.agg #[.int .i64 k, .int .i64 n, .string (str s), .bool b, .slice a l.length cap], .int .i64 (d : Int)] w _
      obtain ⟨rb, hrb⟩ : ∃ x, x = fewK (j + 1) (.mk k n s b l) := ⟨_, rfl⟩
      rw [← hrb]
      have hrb' : rb = (decide (s.length ≤ 70000) && decide (l.length ≤ 300) && (decide (10 ≤ j + 1) || decide (l.length ≤ 5)) && l.all (fewK j)) := hrb
      obtain ⟨S, hS⟩ : ∃ x, x = str s := ⟨_, rfl⟩
      have hSs : S.size = s.length := by rw [hS, str_size]
      rw [← hS]
      obtain ⟨m, hm⟩ : ∃ x, x = l.length := ⟨_, rfl⟩
      rw [← hm] at hlc hrb' ⊢
      rw [← hSs] at hs hrb'
      have HRB := Lib.hid hrb'
      have HA := Lib.hid ha
      have HV := Lib.hid h
      have HM := Lib.hid hm
      have HJ := Lib.hid hj
      have HIH := Lib.hid ih
      have d0 : decide ((10 : Int) < (d : Int)) = false := decide_eq_false (by omega)
      have d0' : decide (10 < d) = false := decide_eq_false (by omega)
      clear hrb hrb' hS hSs ha h hm ih
      by_cases h1 : 70000 < S.size
      · have t1 : decide ((70000 : Int) < (S.size : Int)) = true := decide_eq_true (by omega)
        have t1' : decide (70000 < S.size) = true := decide_eq_true h1
        have HR := Lib.hid (show rb = false by rw [HRB.out, decide_eq_false (show ¬ S.size ≤ 70000 by omega)]; rfl)
        clear h1 hj
        go_enter Try.func16, Try.ntmps16
        go_wp2_with fail
        go_ret
        exact ⟨by rw [HR.out]; rfl, (Fr.refl _ _).alloc _⟩
      have t1 : decide ((70000 : Int) < (S.size : Int)) = false := decide_eq_false (by omega)
      have t1' : decide (70000 < S.size) = false := decide_eq_false h1
      by_cases h2 : 300 < m
      · have t2 : decide ((300 : Int) < (m : Int)) = true := decide_eq_true (by omega)
        have t2' : decide (300 < m) = true := decide_eq_true h2
        have HR := Lib.hid (show rb = false by rw [HRB.out, decide_eq_false (show ¬ m ≤ 300 by omega)]; simp)
        clear h1 h2 hj
        go_enter Try.func16, Try.ntmps16
        go_wp2_with fail
        go_ret
        exact ⟨by rw [HR.out]; rfl, (Fr.refl _ _).alloc _⟩
      have t2 : decide ((300 : Int) < (m : Int)) = false := decide_eq_false (by omega)
      have t2' : decide (300 < m) = false := decide_eq_false h2
      obtain ⟨q, hq⟩ : ∃ q, q = (decide (1 < d) && decide (5 < m)) := ⟨_, rfl⟩
      have hall : q = false → rb = l.all (fewK j) := fun e => by
        rw [HRB.out, decide_eq_true (show S.size ≤ 70000 by omega), decide_eq_true (show m ≤ 300 by omega)]
        have : (decide (10 ≤ j + 1) || decide (m ≤ 5)) = true := by
          rw [e] at hq
          simp only [Bool.or_eq_true, decide_eq_true_eq]
          by_cases hd : 1 < d
          · by_cases hm5 : 5 < m
            · rw [decide_eq_true hd, decide_eq_true hm5] at hq; cases hq
            · exact .inr (by omega)
          · exact .inl (by omega)
        rw [this]; simp
      have hno : q = true → rb = false := fun e => by
        rw [e] at hq
        have := hq.symm
        simp only [Bool.and_eq_true, decide_eq_true_eq] at this
        rw [HRB.out, decide_eq_false (show ¬ 10 ≤ j + 1 by omega), decide_eq_false (show ¬ m ≤ 5 by omega)]; simp
      have HALL := Lib.hid hall
      have HNO := Lib.hid hno
      have HJ8 := Lib.hid (show d + 1 + j = 11 by omega)
      have hd11 : d ≤ 10 := by omega
      clear hall hno
      cases q with
      | true =>
        have hq2 := hq.symm
        simp only [Bool.and_eq_true, decide_eq_true_eq] at hq2
        have t3 : decide ((1 : Int) < (d : Int)) = true := decide_eq_true (by omega)
        have t3' : decide (1 < d) = true := decide_eq_true (by omega)
        have t4 : decide ((5 : Int) < (m : Int)) = true := decide_eq_true (by omega)
        have t4' : decide (5 < m) = true := decide_eq_true (by omega)
        have HNO2 := Lib.hid (HNO.out rfl)
        clear HNO HALL h1 h2 hj hq hq2
        go_enter Try.func16, Try.ntmps16
        go_wp2_with fail
        go_ret
        exact ⟨by rw [HNO2.out]; rfl, (Fr.refl _ _).alloc _⟩
      | false =>
        obtain ⟨w1, hw1⟩ : ∃ w1, w1 = w.alloc (.cells #[.int .i64 k, .int .i64 n, .string S, .bool b, .slice a m cap] 36) := ⟨_, rfl⟩
        obtain ⟨g, hg⟩ : ∃ g, g = w.heap.size := ⟨_, rfl⟩
        have hb : w1.heap[g]? = some (.cells #[.int .i64 k, .int .i64 n, .string S, .bool b, .slice a m cap] 36 (0, 0)) := by rw [hw1, hg]; exact heap_alloc_new w _
        have HB := Lib.hid hb
        have HF0 := Lib.hid (show Fr (fun _ => False) w w1 by rw [hw1]; exact (Fr.refl _ _).alloc _)
        have HW1 := Lib.hid (And.intro hw1 hg)
        clear h1 h2 hj hw1 hg hb
        have HALL2 := Lib.hid (HALL.out rfl)
        clear HALL HNO
        have HALL := HALL2
        clear HALL2
        by_cases hd : 1 < d
        · have t3 : decide ((1 : Int) < (d : Int)) = true := decide_eq_true (by omega)
          have t3' : decide (1 < d) = true := decide_eq_true (by omega)
          have hm5 : ¬ 5 < m := fun h5 => by rw [decide_eq_true hd, decide_eq_true h5] at hq; cases hq
          have t4 : decide ((5 : Int) < (m : Int)) = false := decide_eq_false (by omega)
          have t4' : decide (5 < m) = false := decide_eq_false hm5
          clear hq hd hm5
          go_enter Try.func16, Try.ntmps16
          go_wp2_with fail
          rw [← HW1.out.2, ← HW1.out.1]
          go_loopw [5] (fun i wr => ∃ u : Nat, u ≤ m ∧ i = .int .i64 (u : Int) ∧ Fr (fun _ => False) w1 wr ∧ Aside (∀ v, v < u → ∀ x, l[v]? = some x → fewK j x = true)) (fun i _ => m - (intOf i).toNat)
          case atStart => exact ⟨0, Nat.zero_le _, rfl, Fr.refl _ _, fun v hv => absurd hv (Nat.not_lt_zero _)⟩
          case round =>
            obtain ⟨u, hu, rfl, hfr, hall⟩ := hrel
            have HF := Lib.hid hfr
            have HAL := Lib.hid hall
            have c4 : wr.cell? ⟨g, 4, none⟩ = some (.slice a m cap) := (cell_of_row wr g 4 _ _ _ (hfr.heap HB.out id)).trans rfl
            clear hfr hall
            by_cases hlt : u < m
            · have hul : u < l.length := by rw [← HM.out]; exact hlt
              rcases HA.out with h0 | ⟨g2, off, rfl, hD, hr⟩
              · exact absurd hul (by rw [h0]; simp)
              have hi0 : (u : Int) < (m : Int) := by omega
              have HRG := Lib.hid (show wr.rangeAt g2 (off + u * 5) (cs u) from fun i v hi => (HF0.out.trans HF.out (fun i hi => hi.elim)).cell (hr u _ (List.getElem?_eq_getElem hul) i v hi) id)
              have hvr := HV.out u _ (List.getElem?_eq_getElem hul)
              have HLN := Lib.hid (show (Try.prog.info? 36).map (·.size) = some (cs u).length by rw [hvr.five]; exact info36)
              have HC := Lib.hid (show Calls Try.prog 16 #[.agg (cs u).toArray, .int .i64 ((d + 1 : Nat) : Int)] wr fun e w' => e = .returned (.bool (fewK j (l[u]'hul))) ∧ Fr (fun _ => False) wr w' from HIH.out (d + 1) HJ8.out _ _ D wr (hvr.frF (HF0.out.trans HF.out (fun i hi => hi.elim))))
              have hw1 : IntKind.i64.wrap ((d : Int) + 1) = ((d + 1 : Nat) : Int) := by rw [IntWalk.i64_in _ (by omega)]; omega
              obtain ⟨d1, hd1⟩ : ∃ x, x = d + 1 := ⟨_, rfl⟩
              rw [← hd1] at HC hw1
              obtain ⟨x1, hx1⟩ : ∃ x, l[u]? = some x := ⟨_, List.getElem?_eq_getElem hul⟩
              obtain ⟨b1, hb1⟩ : ∃ x, x = fewK j x1 := ⟨_, rfl⟩
              rw [show l[u]'hul = x1 from Option.some.inj ((List.getElem?_eq_getElem hul).symm.trans hx1), ← hb1] at HC
              have HB1 := Lib.hid hb1
              have HUL := Lib.hid hx1
              clear hvr hr hD hd1 hb1 hx1 hul
              go_wp2_with (with_reducible refine wpList_load_mid (op := ⟨some 41, _, _, _, _, _⟩) rfl 36 _ rfl g2 (off + u * 5) rfl (cs u) _ HRG.out Try.underlying36 rfl HLN.out ?_)
              refine HC.out.mono ?_
              rintro e w2 ⟨rfl, f2⟩
              have HF2 := Lib.hid (HF.out.trans f2 (fun i hi => hi.elim))
              clear f2 HC
              cases b1 with
              | false =>
                have HR := Lib.hid (show rb = false by
                  rw [HALL.out]
                  rw [List.all_eq_false]
                  exact ⟨x1, List.mem_of_getElem? HUL.out, by rw [← HB1.out]; simp⟩)
                go_wp2_with fail
                go_ret
                exact ⟨by rw [HR.out]; rfl, HF0.out.trans HF2.out (fun i hi => hi.elim)⟩
              | true =>
                go_wp2_with fail
                go_roundw
                case rel =>
                  refine ⟨u + 1, by omega, by go_num, HF2.out, fun v hv x hx => ?_⟩
                  by_cases hvu : v = u
                  · subst hvu
                    rw [HUL.out] at hx
                    cases hx
                    exact HB1.out.symm
                  · exact HAL.out v (by omega) x hx
                case measure => simp [intOf]; omega
            · obtain rfl : u = m := by omega
              have hge : ¬ (u : Int) < (u : Int) := by omega
              have HR := Lib.hid (show rb = true by
                rw [HALL.out, List.all_eq_true]
                intro x hx
                obtain ⟨v, hv, rfl⟩ := List.getElem_of_mem hx
                exact HAL.out v (by rw [HM.out]; exact hv) _ (List.getElem?_eq_getElem hv))
              clear hlt
              go_wp2_with fail
              go_ret
              exact ⟨by rw [HR.out]; rfl, HF0.out.trans HF.out (fun i hi => hi.elim)⟩
        · have t3 : decide ((1 : Int) < (d : Int)) = false := decide_eq_false (by omega)
          have t3' : decide (1 < d) = false := decide_eq_false (by omega)
          clear hq hd
          go_enter Try.func16, Try.ntmps16
          go_wp2_with fail
          rw [← HW1.out.2, ← HW1.out.1]
          go_loopw [5] (fun i wr => ∃ u : Nat, u ≤ m ∧ i = .int .i64 (u : Int) ∧ Fr (fun _ => False) w1 wr ∧ Aside (∀ v, v < u → ∀ x, l[v]? = some x → fewK j x = true)) (fun i _ => m - (intOf i).toNat)
          case atStart => exact ⟨0, Nat.zero_le _, rfl, Fr.refl _ _, fun v hv => absurd hv (Nat.not_lt_zero _)⟩
          case round =>
            obtain ⟨u, hu, rfl, hfr, hall⟩ := hrel
            have HF := Lib.hid hfr
            have HAL := Lib.hid hall
            have c4 : wr.cell? ⟨g, 4, none⟩ = some (.slice a m cap) := (cell_of_row wr g 4 _ _ _ (hfr.heap HB.out id)).trans rfl
            clear hfr hall
            by_cases hlt : u < m
            · have hul : u < l.length := by rw [← HM.out]; exact hlt
              rcases HA.out with h0 | ⟨g2, off, rfl, hD, hr⟩
              · exact absurd hul (by rw [h0]; simp)
              have hi0 : (u : Int) < (m : Int) := by omega
              have HRG := Lib.hid (show wr.rangeAt g2 (off + u * 5) (cs u) from fun i v hi => (HF0.out.trans HF.out (fun i hi => hi.elim)).cell (hr u _ (List.getElem?_eq_getElem hul) i v hi) id)
              have hvr := HV.out u _ (List.getElem?_eq_getElem hul)
              have HLN := Lib.hid (show (Try.prog.info? 36).map (·.size) = some (cs u).length by rw [hvr.five]; exact info36)
              have HC := Lib.hid (show Calls Try.prog 16 #[.agg (cs u).toArray, .int .i64 ((d + 1 : Nat) : Int)] wr fun e w' => e = .returned (.bool (fewK j (l[u]'hul))) ∧ Fr (fun _ => False) wr w' from HIH.out (d + 1) HJ8.out _ _ D wr (hvr.frF (HF0.out.trans HF.out (fun i hi => hi.elim))))
              have hw1 : IntKind.i64.wrap ((d : Int) + 1) = ((d + 1 : Nat) : Int) := by rw [IntWalk.i64_in _ (by omega)]; omega
              obtain ⟨d1, hd1⟩ : ∃ x, x = d + 1 := ⟨_, rfl⟩
              rw [← hd1] at HC hw1
              obtain ⟨x1, hx1⟩ : ∃ x, l[u]? = some x := ⟨_, List.getElem?_eq_getElem hul⟩
              obtain ⟨b1, hb1⟩ : ∃ x, x = fewK j x1 := ⟨_, rfl⟩
              rw [show l[u]'hul = x1 from Option.some.inj ((List.getElem?_eq_getElem hul).symm.trans hx1), ← hb1] at HC
              have HB1 := Lib.hid hb1
              have HUL := Lib.hid hx1
              clear hvr hr hD hd1 hb1 hx1 hul
              go_wp2_with (with_reducible refine wpList_load_mid (op := ⟨some 41, _, _, _, _, _⟩) rfl 36 _ rfl g2 (off + u * 5) rfl (cs u) _ HRG.out Try.underlying36 rfl HLN.out ?_)
              refine HC.out.mono ?_
              rintro e w2 ⟨rfl, f2⟩
              have HF2 := Lib.hid (HF.out.trans f2 (fun i hi => hi.elim))
              clear f2 HC
              cases b1 with
              | false =>
                have HR := Lib.hid (show rb = false by
                  rw [HALL.out]
                  rw [List.all_eq_false]
                  exact ⟨x1, List.mem_of_getElem? HUL.out, by rw [← HB1.out]; simp⟩)
                go_wp2_with fail
                go_ret
                exact ⟨by rw [HR.out]; rfl, HF0.out.trans HF2.out (fun i hi => hi.elim)⟩
              | true =>
                go_wp2_with fail
                go_roundw
                case rel =>
                  refine ⟨u + 1, by omega, by go_num, HF2.out, fun v hv x hx => ?_⟩
                  by_cases hvu : v = u
                  · subst hvu
                    rw [HUL.out] at hx
                    cases hx
                    exact HB1.out.symm
                  · exact HAL.out v (by omega) x hx
                case measure => simp [intOf]; omega
            · obtain rfl : u = m := by omega
              have hge : ¬ (u : Int) < (u : Int) := by omega
              have HR := Lib.hid (show rb = true by
                rw [HALL.out, List.all_eq_true]
                intro x hx
                obtain ⟨v, hv, rfl⟩ := List.getElem_of_mem hx
                exact HAL.out v (by rw [HM.out]; exact hv) _ (List.getElem?_eq_getElem hv))
              clear hlt
              go_wp2_with fail
              go_ret
              exact ⟨by rw [HR.out]; rfl, HF0.out.trans HF.out (fun i hi => hi.elim)⟩
end Go.Proofs.Ythmpmpepokeedaa
