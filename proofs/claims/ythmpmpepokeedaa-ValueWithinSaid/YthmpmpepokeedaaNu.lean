/- Values: want; the walk of ValueWithin. -/
import Derived.Test.YthmpmpepokeedaaNt
import Derived.Test.YthmpmpepokeedaaNq
set_option linter.unusedVariables false
set_option linter.unusedSimpArgs false
set_option pp.deepTerms true
set_option pp.maxSteps 100000
namespace Go.Proofs.Ythmpmpepokeedaa
open Go.RowKit
set_option maxRecDepth 20000 in
theorem want_calls (k c y1 : Int) (S : ByteArray) (bb : Bool) (L : Value) (kind : Int) (P Q : Nat) (w : World) (hP : w.heap[P]? = some (.cells #[.int .i64 c] 3 (0, 0))) (hQ : w.heap[Q]? = some (.cells #[.int .i64 k, .int .i64 y1, .string S, .bool bb, L] 36 (0, 0))) :
    Calls Try.prog 25 #[.int .i64 kind, .pointer (some ⟨P, 0, none⟩), .pointer (some ⟨Q, 0, none⟩)] w fun e w' => e = .returned (.int .i64 (if c ≠ 0 then c else if k ≠ kind then 9 else 0)) ∧ w' = w := by
  have c0 : w.cell? ⟨P, 0, none⟩ = some (.int .i64 c) := (cell_of_row w P 0 _ _ _ hP).trans rfl
  have c4 : w.cell? ⟨Q, 0, none⟩ = some (.int .i64 k) := (cell_of_row w Q 0 _ _ _ hQ).trans rfl
  clear hP hQ
  by_cases h : c = 0
  · subst h
    by_cases h2 : k = kind
    · subst h2
      go_enter Try.func25, Try.ntmps25
      go_wp2_with fail
      go_ret
      exact ⟨by simp, rfl⟩
    · have t1 : (k == kind) = false := beq_eq_false_iff_ne.2 h2
      have t2 : (k != kind) = true := bne_iff_ne.2 h2
      have HE := Lib.hid h2
      clear h2
      go_enter Try.func25, Try.ntmps25
      go_wp2_with fail
      go_ret
      exact ⟨by simp [HE.out], rfl⟩
  · have t1 : (c == 0) = false := beq_eq_false_iff_ne.2 h
    have t2 : (c != 0) = true := bne_iff_ne.2 h
    have HE := Lib.hid h
    clear h
    go_enter Try.func25, Try.ntmps25
    go_wp2_with fail
    go_ret
    exact ⟨by simp [HE.out], rfl⟩
theorem within_cases (l : List Int) : ∀ t, (withinV t l).2 = 0 ∨ (withinV t l) = (zeroT, 4) ∨ (withinV t l) = (zeroT, 9) := by
  induction l with
  | nil => intro t; cases t; unfold withinV; exact .inl rfl
  | cons i r ih =>
    intro t
    cases t with
    | mk k n s b m =>
      by_cases hk : k = 4
      · rw [show withinV (.mk k n s b m) (i :: r) = if i < 0 ∨ (m.length : Int) ≤ i then (zeroT, 4) else withinV (m.getD i.toNat zeroT) r from by rw [withinV, if_neg (by simp [hk])]]
        by_cases h : i < 0 ∨ (m.length : Int) ≤ i
        · rw [if_pos h]; exact .inr (.inl rfl)
        · rw [if_neg h]; exact ih _
      · rw [show withinV (.mk k n s b m) (i :: r) = (zeroT, 9) from by rw [withinV, if_pos hk]]; exact .inr (.inr rfl)
theorem few_within (l : List Int) : ∀ (j : Nat) (t : VT), fewK j t = true → rowN (ofV (withinV t l).1) ≤ 300 := by
  induction l with
  | nil =>
    intro j t h
    cases j with
    | zero => cases h
    | succ j =>
      cases t with
      | mk k n s b m =>
        unfold fewK at h
        simp only [Bool.and_eq_true, decide_eq_true_eq] at h
        rw [show (withinV (.mk k n s b m) []).1 = .mk k n s b m from by rw [withinV]]
        rw [ofV]
        by_cases h1 : k = 1
        · rw [if_pos h1]; exact Nat.zero_le _
        by_cases h2 : k = 2
        · rw [if_neg h1, if_pos h2]; exact Nat.zero_le _
        by_cases h3 : k = 3
        · rw [if_neg h1, if_neg h2, if_pos h3]; exact Nat.zero_le _
        by_cases h4 : k = 4
        · rw [if_neg h1, if_neg h2, if_neg h3, if_pos h4, ofVs_map]
          show (m.map ofV).length ≤ 300
          rw [List.length_map]; exact h.1.1.2
        · rw [if_neg h1, if_neg h2, if_neg h3, if_neg h4]; exact Nat.zero_le _
  | cons i r ih =>
    intro j t h
    cases j with
    | zero => cases h
    | succ j =>
      cases t with
      | mk k n s b m =>
        have hz : rowN (ofV zeroT) ≤ 300 := by decide
        by_cases hk : k = 4
        · rw [show withinV (.mk k n s b m) (i :: r) = if i < 0 ∨ (m.length : Int) ≤ i then (zeroT, 4) else withinV (m.getD i.toNat zeroT) r from by rw [withinV, if_neg (by simp [hk])]]
          by_cases hr : i < 0 ∨ (m.length : Int) ≤ i
          · rw [if_pos hr]; exact hz
          · rw [if_neg hr]
            unfold fewK at h
            simp only [Bool.and_eq_true, decide_eq_true_eq, List.all_eq_true] at h
            have hlt : i.toNat < m.length := by omega
            rw [List.getD_eq_getElem?_getD, List.getElem?_eq_getElem hlt]
            exact ih j _ (h.2 _ (List.getElem_mem hlt))
        · rw [show withinV (.mk k n s b m) (i :: r) = (zeroT, 9) from by rw [withinV, if_pos hk]]; exact hz
/-- What the four answers are, beside what is come to. -/
def Told (c : Nat) (k nn : Int) (s : List UInt8) (b : Bool) (m : Nat) (ni : Int) (T : List UInt8) (B : Bool) (ls : Value) (ei es eb el : Nat) : Prop :=
  (c = 4 ∧ ei = 4 ∧ es = 4 ∧ eb = 4 ∧ el = 4 ∧ ni = 0 ∧ T = [] ∧ B = false ∧ ls = .slice none 0 0) ∨
  (c = 9 ∧ ei = 9 ∧ es = 9 ∧ eb = 9 ∧ el = 9 ∧ ni = 0 ∧ T = [] ∧ B = false ∧ ls = .slice none 0 0) ∨
  (c = 0 ∧ k = 1 ∧ ei = 0 ∧ es = 9 ∧ eb = 9 ∧ el = 9 ∧ ni = nn ∧ T = [] ∧ B = false ∧ ls = .slice none 0 0) ∨
  (c = 0 ∧ k = 2 ∧ ei = 9 ∧ es = 0 ∧ eb = 9 ∧ el = 9 ∧ ni = 0 ∧ T = s ∧ B = false ∧ ls = .slice none 0 0) ∨
  (c = 0 ∧ k = 3 ∧ ei = 9 ∧ es = 9 ∧ eb = 0 ∧ el = 9 ∧ ni = 0 ∧ T = [] ∧ B = b ∧ ls = .slice none 0 0) ∨
  (c = 0 ∧ k = 4 ∧ ei = 9 ∧ es = 9 ∧ eb = 9 ∧ el = 0 ∧ ni = 0 ∧ T = [] ∧ B = false ∧ ∃ gg cc, ls = .slice (some ⟨gg, 0, none⟩) m cc) ∨
  (c = 0 ∧ k ≠ 1 ∧ k ≠ 2 ∧ k ≠ 3 ∧ k ≠ 4 ∧ ei = 9 ∧ es = 9 ∧ eb = 9 ∧ el = 9 ∧ ni = 0 ∧ T = [] ∧ B = false ∧ ls = .slice none 0 0)
theorem told_of {w : World} {D : Nat → Prop} {t : VT} {l : List Int} {c : Nat} {k nn : Int} {s : List UInt8} {b : Bool} {ll : List VT} {ls : Value} (h : withinV t l = (.mk k nn s b ll, c)) (hls : LsR w D (ofV (.mk k nn s b ll)) ls) :
    Told c k nn s b ll.length (theI (ofV (.mk k nn s b ll))) (theS (ofV (.mk k nn s b ll))) (theB (ofV (.mk k nn s b ll))) ls (toldC (okI (ofV (.mk k nn s b ll))) c) (toldC (okS (ofV (.mk k nn s b ll))) c) (toldC (okB (ofV (.mk k nn s b ll))) c) (toldC (okL (ofV (.mk k nn s b ll))) c) := by
  unfold Told
  rcases within_cases l t with h0 | h0 | h0
  · rw [h] at h0
    have hc : c = 0 := h0
    subst hc
    clear h h0
    by_cases h1 : k = 1
    · subst h1; exact .inr (.inr (.inl ⟨rfl, rfl, rfl, rfl, rfl, rfl, rfl, rfl, rfl, hls⟩))
    by_cases h2 : k = 2
    · subst h2; exact .inr (.inr (.inr (.inl ⟨rfl, rfl, rfl, rfl, rfl, rfl, rfl, rfl, rfl, hls⟩)))
    by_cases h3 : k = 3
    · subst h3; exact .inr (.inr (.inr (.inr (.inl ⟨rfl, rfl, rfl, rfl, rfl, rfl, rfl, rfl, rfl, hls⟩))))
    by_cases h4 : k = 4
    · subst h4
      have hls' : LsR w D (.row (ofVs ll)) ls := hls
      obtain ⟨gg, cc, vs, rfl, _⟩ := hls'
      rw [ofVs_map, List.length_map]
      exact .inr (.inr (.inr (.inr (.inr (.inl ⟨rfl, rfl, rfl, rfl, rfl, rfl, rfl, rfl, rfl, gg, cc, rfl⟩)))))
    have hof : ofV (.mk k nn s b ll) = .non := by rw [ofV, if_neg h1, if_neg h2, if_neg h3, if_neg h4]
    rw [hof] at hls ⊢
    exact .inr (.inr (.inr (.inr (.inr (.inr ⟨rfl, h1, h2, h3, h4, rfl, rfl, rfl, rfl, rfl, rfl, rfl, hls⟩)))))
  · rw [h] at h0
    cases h0
    exact .inl ⟨rfl, rfl, rfl, rfl, rfl, rfl, rfl, rfl, hls⟩
  · rw [h] at h0
    cases h0
    exact .inr (.inl ⟨rfl, rfl, rfl, rfl, rfl, rfl, rfl, rfl, hls⟩)
set_option maxRecDepth 20000 in
set_option maxHeartbeats 8000000 in
theorem vwithin_early (t : VT) (cs : List Value) (D : Nat → Prop) (A : Option Addr) (cap : Nat) (l : List Int) (w : World) (hv : VR w D t cs) (hl : IntsAt w A l) (h : fewK 11 t = false ∨ 12 < l.length) :
    Calls Try.prog 5 #[.agg cs.toArray, .slice A l.length cap] w fun e w' => e = .returned (.bool true) ∧ Fr (fun _ => False) w w' := by
  have h5 := hv.five
  obtain ⟨c0, c1, c2, c3, c4, rfl⟩ : ∃ c0 c1 c2 c3 c4, cs = [c0, c1, c2, c3, c4] := by
    match cs, h5 with
    | [c0, c1, c2, c3, c4], _ => exact ⟨_, _, _, _, _, rfl⟩
  obtain ⟨w1, hw1⟩ : ∃ w1, w1 = w.alloc (.cells #[c0, c1, c2, c3, c4] 36) := ⟨_, rfl⟩
  obtain ⟨g, hg⟩ : ∃ g, g = w.heap.size := ⟨_, rfl⟩
  obtain ⟨n, hn⟩ : ∃ n, n = l.length := ⟨_, rfl⟩
  have hb : w1.heap[g]? = some (.cells #[c0, c1, c2, c3, c4] 36 (0, 0)) := by rw [hw1, hg]; exact heap_alloc_new w _
  have HF1 := Lib.hid (show Fr (fun _ => False) w w1 by rw [hw1]; exact (Fr.refl _ _).alloc _)
  have HX := Lib.hid (show ∀ W', Fr (fun _ => False) w1 W' → W'.rangeAt g 0 [c0, c1, c2, c3, c4] from fun W' hf => rangeAt_all (hf.heap hb id))
  have HV := Lib.hid (show ∀ W', Fr (fun _ => False) w1 W' → VR W' D t [c0, c1, c2, c3, c4] from fun W' hf => hv.frF (HF1.out.trans hf (fun i hi => hi.elim)))
  have HL := Lib.hid (show ∀ W', Fr (fun _ => False) w1 W' → IntsAt W' A l from fun W' hf => hl.frF (HF1.out.trans hf (fun i hi => hi.elim)))
  have HW1 := Lib.hid hw1
  have HG := Lib.hid hg
  have HLi := Lib.hid (show (Try.prog.info? 36).map (·.size) = some ([c0, c1, c2, c3, c4] : List Value).length from info36)
  show Calls Try.prog 5 #[.agg #[c0, c1, c2, c3, c4], .slice A l.length cap] w _
  obtain ⟨fb, hfb⟩ : ∃ b, b = fewK 11 t := ⟨_, rfl⟩
  have HFew := Lib.hid (show ∀ W', Fr (fun _ => False) w1 W' → Calls Try.prog 16 #[.agg #[c0, c1, c2, c3, c4], .int .i64 0] W' fun e w'' => e = .returned (.bool fb) ∧ Fr (fun _ => False) W' w'' from fun W' hf => by rw [hfb]; exact few_calls 11 0 rfl t _ D W' (HV.out W' hf))
  rw [← hfb, ← hn] at h
  rw [← hn]
  clear hv h5 hw1 hg hb hfb hl hn
  cases fb with
  | false =>
    clear h
    go_enter Try.func5, Try.ntmps5
    go_wp2_with fail
    rw [← HG.out, ← HW1.out]
    refine (value_awake w1).mono ?_
    rintro e w2 ⟨rfl, f2⟩
    have G2 := Lib.hid f2
    clear f2
    go_wp2_with (first | (with_reducible refine wpList_load_mid (op := ⟨some 19, _, _, _, _, _⟩) rfl 36 _ rfl g 0 rfl [c0, c1, c2, c3, c4] _ (HX.out _ G2.out) Try.underlying36 rfl HLi.out ?_))
    refine (HFew.out w2 G2.out).mono ?_
    rintro e w3 ⟨rfl, f3⟩
    have G3 := Lib.hid (G2.out.trans f3 (fun i hi => hi.elim))
    clear f3
    go_wp2_with fail
    go_ret
    exact ⟨rfl, HF1.out.trans G3.out (fun i hi => hi.elim)⟩
  | true =>
    have hs : 12 < n := by rcases h with h | h; cases h; exact h
    have t1 : decide ((12 : Int) < (n : Int)) = true := decide_eq_true (by omega)
    have t1' : decide (12 < n) = true := decide_eq_true hs
    clear h hs
    go_enter Try.func5, Try.ntmps5
    go_wp2_with fail
    rw [← HG.out, ← HW1.out]
    refine (value_awake w1).mono ?_
    rintro e w2 ⟨rfl, f2⟩
    have G2 := Lib.hid f2
    clear f2
    go_wp2_with (first | (with_reducible refine wpList_load_mid (op := ⟨some 19, _, _, _, _, _⟩) rfl 36 _ rfl g 0 rfl [c0, c1, c2, c3, c4] _ (HX.out _ G2.out) Try.underlying36 rfl HLi.out ?_))
    refine (HFew.out w2 G2.out).mono ?_
    rintro e w3 ⟨rfl, f3⟩
    have G3 := Lib.hid (G2.out.trans f3 (fun i hi => hi.elim))
    clear f3
    go_wp2_with fail
    go_ret
    exact ⟨rfl, HF1.out.trans G3.out (fun i hi => hi.elim)⟩
set_option maxRecDepth 20000 in
set_option maxHeartbeats 8000000 in
theorem vwithin_late (t : VT) (cs : List Value) (D : Nat → Prop) (A : Option Addr) (cap : Nat) (l : List Int) (w : World) (hv : VR w D t cs) (hl : IntsAt w A l) (hlc : l.length ≤ cap) (hcap : cap ≤ 9223372036854775807) (hf : fewK 11 t = true) (hs : l.length ≤ 12) :
    Calls Try.prog 5 #[.agg cs.toArray, .slice A l.length cap] w fun e w' => e = .returned (.bool true) ∧ Fr (fun _ => False) w w' := by
  have h5 := hv.five
  obtain ⟨c0, c1, c2, c3, c4, rfl⟩ : ∃ c0 c1 c2 c3 c4, cs = [c0, c1, c2, c3, c4] := by
    match cs, h5 with
    | [c0, c1, c2, c3, c4], _ => exact ⟨_, _, _, _, _, rfl⟩
  obtain ⟨w1, hw1⟩ : ∃ w1, w1 = w.alloc (.cells #[c0, c1, c2, c3, c4] 36) := ⟨_, rfl⟩
  obtain ⟨g, hg⟩ : ∃ g, g = w.heap.size := ⟨_, rfl⟩
  obtain ⟨n, hn⟩ : ∃ n, n = l.length := ⟨_, rfl⟩
  have hb : w1.heap[g]? = some (.cells #[c0, c1, c2, c3, c4] 36 (0, 0)) := by rw [hw1, hg]; exact heap_alloc_new w _
  have HF1 := Lib.hid (show Fr (fun _ => False) w w1 by rw [hw1]; exact (Fr.refl _ _).alloc _)
  have HX := Lib.hid (show ∀ W', Fr (fun _ => False) w1 W' → W'.rangeAt g 0 [c0, c1, c2, c3, c4] from fun W' hf => rangeAt_all (hf.heap hb id))
  have HV := Lib.hid (show ∀ W', Fr (fun _ => False) w1 W' → VR W' D t [c0, c1, c2, c3, c4] from fun W' hf => hv.frF (HF1.out.trans hf (fun i hi => hi.elim)))
  have HL := Lib.hid (show ∀ W', Fr (fun _ => False) w1 W' → IntsAt W' A l from fun W' hf => hl.frF (HF1.out.trans hf (fun i hi => hi.elim)))
  have HW1 := Lib.hid hw1
  have HG := Lib.hid hg
  have HLi := Lib.hid (show (Try.prog.info? 36).map (·.size) = some ([c0, c1, c2, c3, c4] : List Value).length from info36)
  show Calls Try.prog 5 #[.agg #[c0, c1, c2, c3, c4], .slice A l.length cap] w _
  have HFew := Lib.hid (show ∀ W', Fr (fun _ => False) w1 W' → Calls Try.prog 16 #[.agg #[c0, c1, c2, c3, c4], .int .i64 0] W' fun e w'' => e = .returned (.bool true) ∧ Fr (fun _ => False) W' w'' from fun W' hf' => by rw [← hf]; exact few_calls 11 0 rfl t _ D W' (HV.out W' hf'))
  have HOfV := Lib.hid (show ∀ W', Fr (fun _ => False) w1 W' → Calls Try.prog 18 #[.agg #[c0, c1, c2, c3, c4]] W' fun e w'' => ∃ v, e = .returned v ∧ AR w'' (fun i => W'.heap.size ≤ i) (ofV t) v ∧ Fr (fun _ => False) W' w'' from fun W' hf' => of_calls 11 t _ D W' (HV.out W' hf') hf)
  have HLC := Lib.hid hlc
  have HCap := Lib.hid hcap
  have HRN := Lib.hid (few_within l 11 t hf)
  obtain ⟨y, c, hyc⟩ : ∃ y c, withinV t l = (y, c) := ⟨_, _, rfl⟩
  have HYC := Lib.hid hyc
  have HWi := Lib.hid (show ∀ W', Fr (fun _ => False) w1 W' → Calls Try.prog 24 #[.agg #[c0, c1, c2, c3, c4], .slice A n cap] W' fun e w'' => ∃ cs', e = .returned (.tuple #[.agg cs'.toArray, .int .i64 (c : Int)]) ∧ VR w'' D y cs' ∧ Fr (fun _ => False) W' w'' from fun W' hf' => by
    have h := refwithin_calls t _ D A cap l W' (HV.out W' hf') (HL.out W' hf') hlc hcap
    rw [hyc, ← hn] at h
    exact h)
  have HN := Lib.hid hn
  rw [← hn] at hs ⊢
  have t1 : decide ((12 : Int) < (n : Int)) = false := decide_eq_false (by omega)
  have t1' : decide (12 < n) = false := decide_eq_false (by omega)
  clear hv h5 hw1 hg hb hf hl hn hyc hlc hcap hs
  go_enter Try.func5, Try.ntmps5
  go_wp2_with fail
  rw [← HG.out, ← HW1.out]
  refine (value_awake w1).mono ?_
  rintro e w2 ⟨rfl, f2⟩
  have G2 := Lib.hid f2
  clear f2
  go_wp2_with (first | (with_reducible refine wpList_load_mid (op := ⟨some 19, _, _, _, _, _⟩) rfl 36 _ rfl g 0 rfl [c0, c1, c2, c3, c4] _ (HX.out _ G2.out) Try.underlying36 rfl HLi.out ?_))
  refine (HFew.out w2 G2.out).mono ?_
  rintro e w3 ⟨rfl, f3⟩
  have G3 := Lib.hid (G2.out.trans f3 (fun i hi => hi.elim))
  clear f3
  go_wp2_with (first | (with_reducible refine wpList_load_mid (op := ⟨some 27, _, _, _, _, _⟩) rfl 36 _ rfl g 0 rfl [c0, c1, c2, c3, c4] _ (HX.out _ G3.out) Try.underlying36 rfl HLi.out ?_))
  refine (HOfV.out w3 G3.out).mono ?_
  rintro e w4 ⟨va, rfl, har, f4⟩
  have G4 := Lib.hid (G3.out.trans f4 (fun i hi => hi.elim))
  have HAR := Lib.hid har
  clear f4 har
  go_wp2_with (first | (with_reducible refine wpList_load_mid (op := ⟨some 30, _, _, _, _, _⟩) rfl 36 _ rfl g 0 rfl [c0, c1, c2, c3, c4] _ (HX.out _ G4.out) Try.underlying36 rfl HLi.out ?_))
  refine (HWi.out w4 G4.out).mono ?_
  rintro e w5 ⟨cs2, rfl, hv2, f5⟩
  have F5 := Lib.hid f5
  have G5 := Lib.hid (G4.out.trans f5 (fun i hi => hi.elim))
  clear f5
  cases hv2 with
  | mk k nn s b ll a cp csf hlc2 hcap2 hs2 ha2 h2 =>
  clear hlc2 hcap2 hs2 ha2 h2
  obtain ⟨S, hS⟩ : ∃ S, S = str s := ⟨_, rfl⟩
  obtain ⟨m, hm⟩ : ∃ m, m = ll.length := ⟨_, rfl⟩
  rw [← hS, ← hm]
  have HS := Lib.hid hS
  have HM := Lib.hid hm
  clear hS hm
  have hb6 : ((w5.alloc (.cells #[.int .i64 0, .int .i64 0, .string ⟨#[]⟩, .bool false, .slice none 0 0] 36)).alloc (.cells #[.int .i64 0] 3)).heap[w5.heap.size]? = some (.cells #[.int .i64 0, .int .i64 0, .string ⟨#[]⟩, .bool false, .slice none 0 0] 36 (0, 0)) := ((Fr.refl (fun _ => False) _).alloc _).heap (heap_alloc_new w5 _) id
  have HB6 := Lib.hid hb6
  have hz6 : ((w5.alloc (.cells #[.int .i64 0, .int .i64 0, .string ⟨#[]⟩, .bool false, .slice none 0 0] 36)).alloc (.cells #[.int .i64 0] 3)).heap[w5.heap.size + 1]? = some (.cells #[.int .i64 0] 3 (0, 0)) := by
    have h := heap_alloc_new (w5.alloc (.cells #[.int .i64 0, .int .i64 0, .string ⟨#[]⟩, .bool false, .slice none 0 0] 36)) (.cells #[.int .i64 0] 3)
    rwa [World.size_alloc] at h
  have hz7 : (((w5.alloc (.cells #[.int .i64 0, .int .i64 0, .string ⟨#[]⟩, .bool false, .slice none 0 0] 36)).alloc (.cells #[.int .i64 0] 3)).setRow w5.heap.size #[.int .i64 k, .int .i64 nn, .string S, .bool b, .slice a m cp]).heap[w5.heap.size + 1]? = some (.cells #[.int .i64 0] 3 (0, 0)) := ((Fr.refl (fun k => k = w5.heap.size) _).setRow w5.heap.size #[.int .i64 k, .int .i64 nn, .string S, .bool b, .slice a m cp] (.inl rfl)).heap hz6 (by omega)
  have hb7 : (((w5.alloc (.cells #[.int .i64 0, .int .i64 0, .string ⟨#[]⟩, .bool false, .slice none 0 0] 36)).alloc (.cells #[.int .i64 0] 3)).setRow w5.heap.size #[.int .i64 k, .int .i64 nn, .string S, .bool b, .slice a m cp]).heap[w5.heap.size]? = some (.cells #[.int .i64 k, .int .i64 nn, .string S, .bool b, .slice a m cp] 36 (0, 0)) := setRow_heap _ w5.heap.size #[.int .i64 0, .int .i64 0, .string ⟨#[]⟩, .bool false, .slice none 0 0] _ 36 _ hb6
  have c7 : (((w5.alloc (.cells #[.int .i64 0, .int .i64 0, .string ⟨#[]⟩, .bool false, .slice none 0 0] 36)).alloc (.cells #[.int .i64 0] 3)).setRow w5.heap.size #[.int .i64 k, .int .i64 nn, .string S, .bool b, .slice a m cp]).cell? ⟨w5.heap.size + 1, 0, none⟩ = some (.int .i64 0) := (cell_of_row _ _ 0 _ _ _ hz7).trans rfl
  have f7 : (((w5.alloc (.cells #[.int .i64 0, .int .i64 0, .string ⟨#[]⟩, .bool false, .slice none 0 0] 36)).alloc (.cells #[.int .i64 0] 3)).setRow w5.heap.size #[.int .i64 k, .int .i64 nn, .string S, .bool b, .slice a m cp]).frozen? ⟨w5.heap.size + 1, 0, none⟩ = false := frozen_of_row _ _ _ _ _ hz7
  have HP8 := Lib.hid (show ((((w5.alloc (.cells #[.int .i64 0, .int .i64 0, .string ⟨#[]⟩, .bool false, .slice none 0 0] 36)).alloc (.cells #[.int .i64 0] 3)).setRow w5.heap.size #[.int .i64 k, .int .i64 nn, .string S, .bool b, .slice a m cp]).setCell ⟨w5.heap.size + 1, 0, none⟩ (.int .i64 (c : Int))).heap[w5.heap.size + 1]? = some (.cells #[.int .i64 (c : Int)] 3 (0, 0)) from heap_setCell_same _ (w5.heap.size + 1) 0 _ _ _ hz7)
  have HQ8 := Lib.hid (show ((((w5.alloc (.cells #[.int .i64 0, .int .i64 0, .string ⟨#[]⟩, .bool false, .slice none 0 0] 36)).alloc (.cells #[.int .i64 0] 3)).setRow w5.heap.size #[.int .i64 k, .int .i64 nn, .string S, .bool b, .slice a m cp]).setCell ⟨w5.heap.size + 1, 0, none⟩ (.int .i64 (c : Int))).heap[w5.heap.size]? = some (.cells #[.int .i64 k, .int .i64 nn, .string S, .bool b, .slice a m cp] 36 (0, 0)) from ((Fr.refl (fun k => k = w5.heap.size + 1) _).setCell ⟨w5.heap.size + 1, 0, none⟩ (.int .i64 (c : Int)) (.inl rfl)).heap hb7 (by omega))
  have HF8 := Lib.hid (show Fr (fun _ => False) w5 ((((w5.alloc (.cells #[.int .i64 0, .int .i64 0, .string ⟨#[]⟩, .bool false, .slice none 0 0] 36)).alloc (.cells #[.int .i64 0] 3)).setRow w5.heap.size #[.int .i64 k, .int .i64 nn, .string S, .bool b, .slice a m cp]).setCell ⟨w5.heap.size + 1, 0, none⟩ (.int .i64 (c : Int))) from ((((Fr.refl _ _).alloc _).alloc _).setRow _ _ (.inr (Nat.le_refl _))).setCell _ _ (.inr (Nat.le_succ _)))
  clear hb6 hz6 hz7 hb7
  go_wp2_with (first | (with_reducible refine wpList_store_whole (op := ⟨none, .store 36 _ _, _, _, _, _⟩) rfl 36 _ _ rfl w5.heap.size 36 #[.int .i64 0, .int .i64 0, .string ⟨#[]⟩, .bool false, .slice none 0 0] #[.int .i64 k, .int .i64 nn, .string S, .bool b, .slice a m cp] rfl rfl HB6.out rfl (by kernel_rfl) (by simp [Value.oneCell']) ?_))
  generalize hW8 : ((((w5.alloc (.cells #[.int .i64 0, .int .i64 0, .string ⟨#[]⟩, .bool false, .slice none 0 0] 36)).alloc (.cells #[.int .i64 0] 3)).setRow w5.heap.size #[.int .i64 k, .int .i64 nn, .string S, .bool b, .slice a m cp]).setCell ⟨w5.heap.size + 1, 0, none⟩ (.int .i64 (c : Int))) = w8 at HP8 HQ8 HF8 ⊢
  clear hW8 c7 f7 HB6
  obtain ⟨p, hp⟩ : ∃ p, p = w5.heap.size := ⟨_, rfl⟩
  rw [← hp] at HP8 HQ8 ⊢
  clear hp
  have G8 := Lib.hid (G5.out.trans HF8.out (fun i hi => hi.elim))
  obtain ⟨ni, hni⟩ : ∃ x, x = theI (ofV (.mk k nn s b ll)) := ⟨_, rfl⟩
  obtain ⟨T, hT⟩ : ∃ x, x = theS (ofV (.mk k nn s b ll)) := ⟨_, rfl⟩
  obtain ⟨B, hB⟩ : ∃ x, x = theB (ofV (.mk k nn s b ll)) := ⟨_, rfl⟩
  obtain ⟨ei, hei⟩ : ∃ x, x = toldC (okI (ofV (.mk k nn s b ll))) c := ⟨_, rfl⟩
  obtain ⟨es, hes⟩ : ∃ x, x = toldC (okS (ofV (.mk k nn s b ll))) c := ⟨_, rfl⟩
  obtain ⟨eb, heb⟩ : ∃ x, x = toldC (okB (ofV (.mk k nn s b ll))) c := ⟨_, rfl⟩
  obtain ⟨el, hel⟩ : ∃ x, x = toldC (okL (ofV (.mk k nn s b ll))) c := ⟨_, rfl⟩
  have hwa : withinA (ofV t) l = (ofV (.mk k nn s b ll), c) := by rw [within_same, HYC.out]
  have HA4 := Lib.hid (show ∀ W', Fr (fun _ => False) w8 W' → AR W' (fun i => w3.heap.size ≤ i) (ofV t) va from fun W' hf' => HAR.out.frF ((F5.out.trans HF8.out (fun i hi => hi.elim)).trans hf' (fun i hi => hi.elim)))
  have HL4 := Lib.hid (show ∀ W', Fr (fun _ => False) w8 W' → IntsAt W' A l from fun W' hf' => HL.out W' (G8.out.trans hf' (fun i hi => hi.elim)))
  have HInt := Lib.hid (show ∀ W', Fr (fun _ => False) w8 W' → Calls Try.prog 26 #[va, .slice A n cap] W' fun e w'' => e = .returned (.tuple #[.int .i64 ni, .int .i64 (ei : Int)]) ∧ Fr (fun _ => False) W' w'' from fun W' hf' => by
    have h := int_calls (ofV t) _ va A cap l W' (HA4.out W' hf') (HL4.out W' hf') HLC.out HCap.out
    rw [hwa, ← HN.out] at h
    rw [hni, hei]; exact h)
  have HText := Lib.hid (show ∀ W', Fr (fun _ => False) w8 W' → Calls Try.prog 27 #[va, .slice A n cap] W' fun e w'' => e = .returned (.tuple #[.string (str T), .int .i64 (es : Int)]) ∧ Fr (fun _ => False) W' w'' from fun W' hf' => by
    have h := text_calls (ofV t) _ va A cap l W' (HA4.out W' hf') (HL4.out W' hf') HLC.out HCap.out
    rw [hwa, ← HN.out] at h
    rw [hT, hes]; exact h)
  have HBool := Lib.hid (show ∀ W', Fr (fun _ => False) w8 W' → Calls Try.prog 28 #[va, .slice A n cap] W' fun e w'' => e = .returned (.tuple #[.bool B, .int .i64 (eb : Int)]) ∧ Fr (fun _ => False) W' w'' from fun W' hf' => by
    have h := bool_calls (ofV t) _ va A cap l W' (HA4.out W' hf') (HL4.out W' hf') HLC.out HCap.out
    rw [hwa, ← HN.out] at h
    rw [hB, heb]; exact h)
  have HList := Lib.hid (show ∀ W', Fr (fun _ => False) w8 W' → Calls Try.prog 29 #[va, .slice A n cap] W' fun e w'' => ∃ ls, e = .returned (.tuple #[ls, .int .i64 (el : Int)]) ∧ LsR w'' (fun i => w3.heap.size ≤ i) (ofV (.mk k nn s b ll)) ls ∧ Fr (fun _ => False) W' w'' from fun W' hf' => by
    have h := list_calls (ofV t) _ va A cap l W' (HA4.out W' hf') (HL4.out W' hf') HLC.out HCap.out (by rw [within_same]; exact Nat.le_trans HRN.out (by decide))
    rw [hwa, ← HN.out] at h
    rw [hel]; exact h)
  have HTold := Lib.hid (show ∀ (W' : World) (ls : Value), LsR W' (fun i => w3.heap.size ≤ i) (ofV (.mk k nn s b ll)) ls → Told c k nn s b m ni T B ls ei es eb el from fun W' ls hls => by rw [hni, hT, hB, hei, hes, heb, hel, HM.out]; exact told_of HYC.out hls)
  obtain ⟨TS, hTS⟩ : ∃ x, x = str T := ⟨_, rfl⟩
  rw [← hTS] at HText
  have HTS := Lib.hid hTS
  clear hni hT hB hei hes heb hel hwa hTS
  refine (HInt.out w8 (Fr.refl _ _)).mono ?_
  rintro e w9 ⟨rfl, f9⟩
  have G9 := Lib.hid f9
  clear f9
  go_wp2_with fail
  refine (HText.out w9 G9.out).mono ?_
  rintro e w10 ⟨rfl, f10⟩
  have G10 := Lib.hid (G9.out.trans f10 (fun i hi => hi.elim))
  clear f10
  go_wp2_with fail
  refine (HBool.out w10 G10.out).mono ?_
  rintro e w11 ⟨rfl, f11⟩
  have G11 := Lib.hid (G10.out.trans f11 (fun i hi => hi.elim))
  clear f11
  go_wp2_with fail
  refine (HList.out w11 G11.out).mono ?_
  rintro e w12 ⟨ls, rfl, hls, f12⟩
  have G12 := Lib.hid (G11.out.trans f12 (fun i hi => hi.elim))
  have hcase := HTold.out w12 ls hls
  clear f12 hls
  have hP := G12.out.heap HP8.out id
  have hQ := G12.out.heap HQ8.out id
  have HWant := Lib.hid (show ∀ (kind x : Int), (if (c : Int) ≠ 0 then (c : Int) else if k ≠ kind then 9 else 0) = x → Calls Try.prog 25 #[.int .i64 kind, .pointer (some ⟨p + 1, 0, none⟩), .pointer (some ⟨p, 0, none⟩)] w12 fun e w' => e = .returned (.int .i64 x) ∧ w' = w12 from fun kind x hx => by
    rw [← hx]; exact want_calls k c nn S b _ kind (p + 1) p w12 hP hQ)
  have d1 : w12.cell? ⟨p, 1, none⟩ = some (.int .i64 nn) := (cell_of_row w12 p 1 _ _ _ hQ).trans rfl
  have d2 : w12.cell? ⟨p, 2, none⟩ = some (.string S) := (cell_of_row w12 p 2 _ _ _ hQ).trans rfl
  have d3 : w12.cell? ⟨p, 3, none⟩ = some (.bool b) := (cell_of_row w12 p 3 _ _ _ hQ).trans rfl
  have d4 : w12.cell? ⟨p, 4, none⟩ = some (.slice a m cp) := (cell_of_row w12 p 4 _ _ _ hQ).trans rfl
  have HFin := Lib.hid (show Fr (fun _ => False) w w12 from (HF1.out.trans G8.out (fun i hi => hi.elim)).trans G12.out (fun i hi => hi.elim))
  have tS : (S.toList == S.toList) = true := beq_self_eq_true _
  clear hP hQ
  unfold Told at hcase
  rcases hcase with ⟨rfl, rfl, rfl, rfl, rfl, rfl, rfl, rfl, rfl⟩ | ⟨rfl, rfl, rfl, rfl, rfl, rfl, rfl, rfl, rfl⟩ | ⟨rfl, rfl, rfl, rfl, rfl, rfl, hni, rfl, rfl, rfl⟩ | ⟨rfl, rfl, rfl, rfl, rfl, rfl, rfl, hT, rfl, rfl⟩ | ⟨rfl, rfl, rfl, rfl, rfl, rfl, rfl, rfl, hB, rfl⟩ | ⟨rfl, rfl, rfl, rfl, rfl, rfl, rfl, rfl, rfl, gg, cc, rfl⟩ | ⟨rfl, k1, k2, k3, k4, rfl, rfl, rfl, rfl, rfl, rfl, rfl, rfl⟩
  · have hT0 : TS = ⟨#[]⟩ := by rw [HTS.out]; rfl
    subst hT0
    go_wp2_with fail
    refine (HWant.out 1 4 (by rfl)).mono ?_
    rintro e wz ⟨rfl, rfl⟩
    go_wp2_with fail
    refine (HWant.out 2 4 (by rfl)).mono ?_
    rintro e wz ⟨rfl, rfl⟩
    go_wp2_with fail
    refine (HWant.out 3 4 (by rfl)).mono ?_
    rintro e wz ⟨rfl, rfl⟩
    go_wp2_with fail
    refine (HWant.out 4 4 (by rfl)).mono ?_
    rintro e wz ⟨rfl, rfl⟩
    go_wp2_with fail
    go_ret
    exact ⟨rfl, HFin.out⟩
  · have hT0 : TS = ⟨#[]⟩ := by rw [HTS.out]; rfl
    subst hT0
    go_wp2_with fail
    refine (HWant.out 1 9 (by rfl)).mono ?_
    rintro e wz ⟨rfl, rfl⟩
    go_wp2_with fail
    refine (HWant.out 2 9 (by rfl)).mono ?_
    rintro e wz ⟨rfl, rfl⟩
    go_wp2_with fail
    refine (HWant.out 3 9 (by rfl)).mono ?_
    rintro e wz ⟨rfl, rfl⟩
    go_wp2_with fail
    refine (HWant.out 4 9 (by rfl)).mono ?_
    rintro e wz ⟨rfl, rfl⟩
    go_wp2_with fail
    go_ret
    exact ⟨rfl, HFin.out⟩
  · subst hni
    have hT0 : TS = ⟨#[]⟩ := by rw [HTS.out]; rfl
    subst hT0
    go_wp2_with fail
    refine (HWant.out 1 0 (by rfl)).mono ?_
    rintro e wz ⟨rfl, rfl⟩
    go_wp2_with fail
    refine (HWant.out 2 9 (by rfl)).mono ?_
    rintro e wz ⟨rfl, rfl⟩
    go_wp2_with fail
    refine (HWant.out 3 9 (by rfl)).mono ?_
    rintro e wz ⟨rfl, rfl⟩
    go_wp2_with fail
    refine (HWant.out 4 9 (by rfl)).mono ?_
    rintro e wz ⟨rfl, rfl⟩
    go_wp2_with fail
    go_ret
    exact ⟨rfl, HFin.out⟩
  · have hT0 : TS = S := by rw [HTS.out, HS.out, hT]
    subst hT0
    clear hT
    go_wp2_with fail
    refine (HWant.out 1 9 (by rfl)).mono ?_
    rintro e wz ⟨rfl, rfl⟩
    go_wp2_with fail
    refine (HWant.out 2 0 (by rfl)).mono ?_
    rintro e wz ⟨rfl, rfl⟩
    go_wp2_with fail
    refine (HWant.out 3 9 (by rfl)).mono ?_
    rintro e wz ⟨rfl, rfl⟩
    go_wp2_with fail
    refine (HWant.out 4 9 (by rfl)).mono ?_
    rintro e wz ⟨rfl, rfl⟩
    go_wp2_with fail
    go_ret
    exact ⟨rfl, HFin.out⟩
  · subst hB
    have hT0 : TS = ⟨#[]⟩ := by rw [HTS.out]; rfl
    subst hT0
    go_wp2_with fail
    refine (HWant.out 1 9 (by rfl)).mono ?_
    rintro e wz ⟨rfl, rfl⟩
    go_wp2_with fail
    refine (HWant.out 2 9 (by rfl)).mono ?_
    rintro e wz ⟨rfl, rfl⟩
    go_wp2_with fail
    refine (HWant.out 3 0 (by rfl)).mono ?_
    rintro e wz ⟨rfl, rfl⟩
    go_wp2_with fail
    refine (HWant.out 4 9 (by rfl)).mono ?_
    rintro e wz ⟨rfl, rfl⟩
    go_wp2_with fail
    go_ret
    exact ⟨rfl, HFin.out⟩
  · have hT0 : TS = ⟨#[]⟩ := by rw [HTS.out]; rfl
    subst hT0
    go_wp2_with fail
    refine (HWant.out 1 9 (by rfl)).mono ?_
    rintro e wz ⟨rfl, rfl⟩
    go_wp2_with fail
    refine (HWant.out 2 9 (by rfl)).mono ?_
    rintro e wz ⟨rfl, rfl⟩
    go_wp2_with fail
    refine (HWant.out 3 9 (by rfl)).mono ?_
    rintro e wz ⟨rfl, rfl⟩
    go_wp2_with fail
    refine (HWant.out 4 0 (by rfl)).mono ?_
    rintro e wz ⟨rfl, rfl⟩
    go_wp2_with fail
    go_ret
    exact ⟨rfl, HFin.out⟩
  · have hT0 : TS = ⟨#[]⟩ := by rw [HTS.out]; rfl
    subst hT0
    have HKK := Lib.hid (And.intro k1 (And.intro k2 (And.intro k3 k4)))
    clear k1 k2 k3 k4
    go_wp2_with fail
    refine (HWant.out 1 9 (by simp [HKK.out.1, HKK.out.2.1, HKK.out.2.2.1, HKK.out.2.2.2])).mono ?_
    rintro e wz ⟨rfl, rfl⟩
    go_wp2_with fail
    refine (HWant.out 2 9 (by simp [HKK.out.1, HKK.out.2.1, HKK.out.2.2.1, HKK.out.2.2.2])).mono ?_
    rintro e wz ⟨rfl, rfl⟩
    go_wp2_with fail
    refine (HWant.out 3 9 (by simp [HKK.out.1, HKK.out.2.1, HKK.out.2.2.1, HKK.out.2.2.2])).mono ?_
    rintro e wz ⟨rfl, rfl⟩
    go_wp2_with fail
    refine (HWant.out 4 9 (by simp [HKK.out.1, HKK.out.2.1, HKK.out.2.2.1, HKK.out.2.2.2])).mono ?_
    rintro e wz ⟨rfl, rfl⟩
    go_wp2_with fail
    go_ret
    exact ⟨rfl, HFin.out⟩
theorem vwithin_walk (t : VT) (cs : List Value) (D : Nat → Prop) (A : Option Addr) (cap : Nat) (l : List Int) (w : World) (hv : VR w D t cs) (hl : IntsAt w A l) (hlc : l.length ≤ cap) (hcap : cap ≤ 9223372036854775807) :
    Calls Try.prog 5 #[.agg cs.toArray, .slice A l.length cap] w fun e w' => e = .returned (.bool true) ∧ Fr (fun _ => False) w w' := by
  by_cases h : fewK 11 t = false ∨ 12 < l.length
  · exact vwithin_early t cs D A cap l w hv hl h
  · rw [not_or] at h
    exact vwithin_late t cs D A cap l w hv hl hlc hcap (by simpa using h.1) (by omega)
end Go.Proofs.Ythmpmpepokeedaa
