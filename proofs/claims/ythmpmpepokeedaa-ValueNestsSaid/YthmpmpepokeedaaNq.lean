/- ValueTells: the walk. -/
import Derived.Test.YthmpmpepokeedaaNp
set_option linter.unusedVariables false
set_option linter.unusedSimpArgs false
set_option pp.deepTerms true
set_option pp.maxSteps 100000
namespace Go.Proofs.Ythmpmpepokeedaa
open Go.RowKit
theorem lenL_le (len : AV → Nat) (N : Nat) : ∀ (l : List VT), (∀ t ∈ l, len (ofV t) ≤ N) → lenL len (ofVs l) ≤ l.length * N
  | [], _ => by simp [ofVs, lenL]
  | t :: r, h => by
    have h1 := h t (by simp)
    have h2 := lenL_le len N r (fun x hx => h x (by simp [hx]))
    rw [ofVs, lenL, List.length_cons, Nat.succ_mul]
    omega
theorem lenK_leaf (k : Nat) (a : AV) (h : ∀ l, a ≠ .row l) : lenK k a ≤ 65538 := by
  cases a with
  | non => cases k <;> simp [lenK]
  | int n => cases k <;> simp [lenK]
  | text s =>
    have e : lenK k (.text s) = if 65535 < s.length then 0 else s.length + 3 := by cases k <;> rfl
    rw [e]; split <;> omega
  | yes b => cases k <;> simp [lenK]
  | row l => exact absurd rfl (h l)
theorem ofV_row {k n : Int} {s : List UInt8} {b : Bool} {l : List VT} {m : List AV} (h : ofV (.mk k n s b l) = .row m) : m = ofVs l := by
  unfold ofV at h
  split at h
  · cases h
  · split at h
    · cases h
    · split at h
      · cases h
      · split at h
        · exact (AV.row.inj h).symm
        · cases h
theorem lenK_step (k c N M : Nat) (hM : 65538 ≤ M) (hN : c * N + 2 ≤ M) (hc : k + 4 ≤ 9 ∧ 5 ≤ c ∨ 255 ≤ c) (ih : ∀ t, fewK (k + 3) t = true → lenK k (ofV t) ≤ N) (t : VT) (hf : fewK (k + 4) t = true) : lenK (k + 1) (ofV t) ≤ M := by
  obtain ⟨kk, n, s, b, l⟩ := t
  by_cases hr : ∃ m, ofV (.mk kk n s b l) = .row m
  · obtain ⟨m, hm⟩ := hr
    have hml := ofV_row hm
    rw [hm, hml]
    have hf2 : (decide (s.length ≤ 70000) && decide (l.length ≤ 300) && (decide (10 ≤ k + 3 + 1) || decide (l.length ≤ 5)) && l.all (fewK (k + 3))) = true := hf
    simp only [Bool.and_eq_true, Bool.or_eq_true, decide_eq_true_eq, List.all_eq_true] at hf2
    show (if 255 < (ofVs l).length then 0 else lenL (lenK k) (ofVs l) + 2) ≤ M
    have hol : (ofVs l).length = l.length := by rw [ofVs_map, List.length_map]
    rw [hol]
    split
    · omega
    · rename_i h255
      have h1 := lenL_le (lenK k) N l (fun t ht => ih t (hf2.2 t ht))
      have hlc : l.length ≤ c := by
        rcases hc with ⟨hk, h5⟩ | h5
        · rcases hf2.1.2 with h | h <;> omega
        · omega
      have h2 : l.length * N ≤ c * N := Nat.mul_le_mul_right N hlc
      omega
  · exact Nat.le_trans (lenK_leaf (k + 1) _ (fun m e => hr ⟨m, e⟩)) hM
theorem lenK0 (t : VT) (hf : fewK 3 t = true) : lenK 0 (ofV t) ≤ 65538 := by
  by_cases hr : ∃ m, ofV t = .row m
  · obtain ⟨m, hm⟩ := hr
    rw [hm]; exact Nat.zero_le _
  · exact lenK_leaf 0 _ (fun m e => hr ⟨m, e⟩)
theorem lenK1 (t : VT) (hf : fewK 4 t = true) : lenK 1 (ofV t) ≤ 327692 := lenK_step 0 5 65538 327692 (by decide) (by decide) (.inl ⟨by omega, by omega⟩) lenK0 t hf
theorem lenK2 (t : VT) (hf : fewK 5 t = true) : lenK 2 (ofV t) ≤ 1638462 := lenK_step 1 5 327692 1638462 (by decide) (by decide) (.inl ⟨by omega, by omega⟩) lenK1 t hf
theorem lenK3 (t : VT) (hf : fewK 6 t = true) : lenK 3 (ofV t) ≤ 8192312 := lenK_step 2 5 1638462 8192312 (by decide) (by decide) (.inl ⟨by omega, by omega⟩) lenK2 t hf
theorem lenK4 (t : VT) (hf : fewK 7 t = true) : lenK 4 (ofV t) ≤ 40961562 := lenK_step 3 5 8192312 40961562 (by decide) (by decide) (.inl ⟨by omega, by omega⟩) lenK3 t hf
theorem lenK5 (t : VT) (hf : fewK 8 t = true) : lenK 5 (ofV t) ≤ 204807812 := lenK_step 4 5 40961562 204807812 (by decide) (by decide) (.inl ⟨by omega, by omega⟩) lenK4 t hf
theorem lenK6 (t : VT) (hf : fewK 9 t = true) : lenK 6 (ofV t) ≤ 1024039062 := lenK_step 5 5 204807812 1024039062 (by decide) (by decide) (.inl ⟨by omega, by omega⟩) lenK5 t hf
theorem lenK7 (t : VT) (hf : fewK 10 t = true) : lenK 7 (ofV t) ≤ 261129960812 := lenK_step 6 255 1024039062 261129960812 (by decide) (by decide) (.inr (by omega)) lenK6 t hf
theorem lenK8 (t : VT) (hf : fewK 11 t = true) : lenK 8 (ofV t) ≤ 66588140007062 := lenK_step 7 255 261129960812 66588140007062 (by decide) (by decide) (.inr (by omega)) lenK7 t hf
theorem few_len {t : VT} (hf : fewK 11 t = true) : lenK 8 (ofV t) ≤ 140737488355328 := Nat.le_trans (lenK8 t hf) (by decide)
theorem lenL_eq (k : Nat) (ih : ∀ a, (encA k a).2 = 0 → lenK k a = (encA k a).1.length) : ∀ (l : List AV), (encL (encA k) l).2 = 0 → lenL (lenK k) l = (encL (encA k) l).1.length
  | [], _ => rfl
  | a :: r, h => by
    obtain ⟨h1, h2, h3⟩ := encL_ok (enc := encA k) (a := a) (r := r) (s := (encL (encA k) (a :: r)).1) (Prod.ext rfl h)
    rw [h3, lenL, ih a h1, lenL_eq k ih r h2, List.length_append]
theorem lenK_eq : ∀ (k : Nat) (a : AV), (encA k a).2 = 0 → lenK k a = (encA k a).1.length
  | k, .non, h => absurd h (by cases k <;> simp [encA])
  | k, .int n, _ => by cases k <;> rfl
  | k, .text s, h => by
    have e : lenK k (.text s) = if 65535 < s.length then 0 else s.length + 3 := by cases k <;> rfl
    have e2 : encA k (.text s) = if 65535 < s.length then ([], 3) else (115 :: UInt8.ofNat (s.length / 256) :: UInt8.ofNat s.length :: s, 0) := by cases k <;> rfl
    rw [e2] at h
    rw [e, e2]
    split
    · rename_i hh; rw [if_pos hh] at h; cases h
    · rfl
  | k, .yes b, _ => by cases k <;> rfl
  | 0, .row l, h => by simp [encA] at h
  | k + 1, .row l, h => by
    simp only [encA] at h ⊢
    simp only [lenK]
    split
    · rename_i hh; rw [if_pos hh] at h; cases h
    · rename_i hh
      rw [if_neg hh] at h
      split
      · rename_i h2
        rw [lenL_eq k (fun a => lenK_eq k a) l h2]
        simp
      · rename_i h2; rw [if_neg h2] at h; exact absurd h h2
theorem dec_whole {l : List UInt8} {a : AV} (h : decA 8 l = some (a, [])) : encA 8 a = (l, 0) ∧ WfA a ∧ lenK 8 a = l.length := by
  obtain ⟨p, hp, hl, hw⟩ := enc_dec 8 l a [] h
  rw [List.append_nil] at hl
  subst hl
  exact ⟨hp, hw, by rw [lenK_eq 8 a (by rw [hp]), hp]⟩
theorem nil_eq (W : World) : (binOp .eql 20 .nilIface .nilIface).run Try.prog W = .ok (.bool true) W := by kernel_rfl
set_option maxRecDepth 20000 in
set_option maxHeartbeats 8000000 in
theorem vtells_early (t : VT) (cs : List Value) (D : Nat → Prop) (SB : ByteArray) (w : World) (hv : VR w D t cs) (h : fewK 11 t = false ∨ 3000 < SB.size) :
    Calls Try.prog 4 #[.agg cs.toArray, .string SB] w fun e w' => e = .returned (.bool true) ∧ Fr (fun _ => False) w w' := by
  have h5 := hv.five
  obtain ⟨c0, c1, c2, c3, c4, rfl⟩ : ∃ c0 c1 c2 c3 c4, cs = [c0, c1, c2, c3, c4] := by
    match cs, h5 with
    | [c0, c1, c2, c3, c4], _ => exact ⟨_, _, _, _, _, rfl⟩
  obtain ⟨w1, hw1⟩ : ∃ w1, w1 = w.alloc (.cells #[c0, c1, c2, c3, c4] 36) := ⟨_, rfl⟩
  obtain ⟨g, hg⟩ : ∃ g, g = w.heap.size := ⟨_, rfl⟩
  have hb : w1.heap[g]? = some (.cells #[c0, c1, c2, c3, c4] 36 (0, 0)) := by rw [hw1, hg]; exact heap_alloc_new w _
  have HF1 := Lib.hid (show Fr (fun _ => False) w w1 by rw [hw1]; exact (Fr.refl _ _).alloc _)
  have HX := Lib.hid (show ∀ W', Fr (fun _ => False) w1 W' → W'.rangeAt g 0 [c0, c1, c2, c3, c4] from fun W' hf => rangeAt_all (hf.heap hb id))
  have HV := Lib.hid (show ∀ W', Fr (fun _ => False) w1 W' → VR W' D t [c0, c1, c2, c3, c4] from fun W' hf => hv.frF (HF1.out.trans hf (fun i hi => hi.elim)))
  have HW1 := Lib.hid hw1
  have HG := Lib.hid hg
  have HLi := Lib.hid (show (Try.prog.info? 36).map (·.size) = some ([c0, c1, c2, c3, c4] : List Value).length from info36)
  show Calls Try.prog 4 #[.agg #[c0, c1, c2, c3, c4], .string SB] w _
  obtain ⟨fb, hfb⟩ : ∃ b, b = fewK 11 t := ⟨_, rfl⟩
  have HFew := Lib.hid (show ∀ W', Fr (fun _ => False) w1 W' → Calls Try.prog 16 #[.agg #[c0, c1, c2, c3, c4], .int .i64 0] W' fun e w'' => e = .returned (.bool fb) ∧ Fr (fun _ => False) W' w'' from fun W' hf => by rw [hfb]; exact few_calls 11 0 rfl t _ D W' (HV.out W' hf))
  rw [← hfb] at h
  clear hv h5 hw1 hg hb hfb
  cases fb with
  | false =>
    clear h
    go_enter Try.func4, Try.ntmps4
    go_wp2_with fail
    rw [← HG.out, ← HW1.out]
    refine (value_awake w1).mono ?_
    rintro e w2 ⟨rfl, f2⟩
    have G2 := Lib.hid f2
    clear f2
    go_wp2_with (first | (with_reducible refine wpList_load_mid (op := ⟨some 17, _, _, _, _, _⟩) rfl 36 _ rfl g 0 rfl [c0, c1, c2, c3, c4] _ (HX.out _ G2.out) Try.underlying36 rfl HLi.out ?_))
    refine (HFew.out w2 G2.out).mono ?_
    rintro e w3 ⟨rfl, f3⟩
    have G3 := Lib.hid (G2.out.trans f3 (fun i hi => hi.elim))
    clear f3
    go_wp2_with fail
    go_ret
    exact ⟨rfl, HF1.out.trans G3.out (fun i hi => hi.elim)⟩
  | true =>
    have hs : 3000 < SB.size := by rcases h with h | h; cases h; exact h
    have t1 : decide ((3000 : Int) < (SB.size : Int)) = true := decide_eq_true (by omega)
    have t1' : decide (3000 < SB.size) = true := decide_eq_true hs
    clear h hs
    go_enter Try.func4, Try.ntmps4
    go_wp2_with fail
    rw [← HG.out, ← HW1.out]
    refine (value_awake w1).mono ?_
    rintro e w2 ⟨rfl, f2⟩
    have G2 := Lib.hid f2
    clear f2
    go_wp2_with (first | (with_reducible refine wpList_load_mid (op := ⟨some 17, _, _, _, _, _⟩) rfl 36 _ rfl g 0 rfl [c0, c1, c2, c3, c4] _ (HX.out _ G2.out) Try.underlying36 rfl HLi.out ?_))
    refine (HFew.out w2 G2.out).mono ?_
    rintro e w3 ⟨rfl, f3⟩
    have G3 := Lib.hid (G2.out.trans f3 (fun i hi => hi.elim))
    clear f3
    go_wp2_with fail
    go_ret
    exact ⟨rfl, HF1.out.trans G3.out (fun i hi => hi.elim)⟩
set_option maxRecDepth 20000 in
set_option maxHeartbeats 16000000 in
theorem vtells_late (t : VT) (cs : List Value) (D : Nat → Prop) (s : List UInt8) (SB : ByteArray) (hSB : SB = str s) (w : World) (hv : VR w D t cs) (hf : fewK 11 t = true) (hs : s.length ≤ 3000) :
    Calls Try.prog 4 #[.agg cs.toArray, .string SB] w fun e w' => e = .returned (.bool true) ∧ Fr (fun _ => False) w w' := by
  have h5 := hv.five
  obtain ⟨c0, c1, c2, c3, c4, rfl⟩ : ∃ c0 c1 c2 c3 c4, cs = [c0, c1, c2, c3, c4] := by
    match cs, h5 with
    | [c0, c1, c2, c3, c4], _ => exact ⟨_, _, _, _, _, rfl⟩
  obtain ⟨w1, hw1⟩ : ∃ w1, w1 = w.alloc (.cells #[c0, c1, c2, c3, c4] 36) := ⟨_, rfl⟩
  obtain ⟨g, hg⟩ : ∃ g, g = w.heap.size := ⟨_, rfl⟩
  have hb : w1.heap[g]? = some (.cells #[c0, c1, c2, c3, c4] 36 (0, 0)) := by rw [hw1, hg]; exact heap_alloc_new w _
  have HF1 := Lib.hid (show Fr (fun _ => False) w w1 by rw [hw1]; exact (Fr.refl _ _).alloc _)
  have HX := Lib.hid (show ∀ W', Fr (fun _ => False) w1 W' → W'.rangeAt g 0 [c0, c1, c2, c3, c4] from fun W' hf => rangeAt_all (hf.heap hb id))
  have HV := Lib.hid (show ∀ W', Fr (fun _ => False) w1 W' → VR W' D t [c0, c1, c2, c3, c4] from fun W' hf => hv.frF (HF1.out.trans hf (fun i hi => hi.elim)))
  have HW1 := Lib.hid hw1
  have HG := Lib.hid hg
  have HLi := Lib.hid (show (Try.prog.info? 36).map (·.size) = some ([c0, c1, c2, c3, c4] : List Value).length from info36)
  show Calls Try.prog 4 #[.agg #[c0, c1, c2, c3, c4], .string SB] w _
  have HFew := Lib.hid (show ∀ W', Fr (fun _ => False) w1 W' → Calls Try.prog 16 #[.agg #[c0, c1, c2, c3, c4], .int .i64 0] W' fun e w'' => e = .returned (.bool true) ∧ Fr (fun _ => False) W' w'' from fun W' hf' => by rw [← hf]; exact few_calls 11 0 rfl t _ D W' (HV.out W' hf'))
  have HOfV := Lib.hid (show ∀ W', Fr (fun _ => False) w1 W' → Calls Try.prog 18 #[.agg #[c0, c1, c2, c3, c4]] W' fun e w'' => ∃ v, e = .returned v ∧ AR w'' (fun i => W'.heap.size ≤ i) (ofV t) v ∧ Fr (fun _ => False) W' w'' from fun W' hf' => of_calls 11 t _ D W' (HV.out W' hf') hf)
  have HLen := Lib.hid (few_len hf)
  obtain ⟨R, hR⟩ : ∃ R, R = encA 8 (ofV t) := ⟨_, rfl⟩
  have HRR := Lib.hid hR
  have HRp := Lib.hid (show ∀ W', Fr (fun _ => False) w1 W' → Calls Try.prog 19 #[.agg #[c0, c1, c2, c3, c4]] W' fun e w'' => e = .returned (.tuple #[.string (str R.1), .int .i64 (R.2 : Int)]) ∧ Fr (fun _ => False) W' w'' from fun W' hf' => by rw [hR]; exact refprint_calls t _ D W' (HV.out W' hf') hf HLen.out)
  have HPa := Lib.hid (show ∀ W', Calls Try.prog 20 #[.string SB] W' (PaRe s W') from fun W' => by rw [hSB]; exact vparse_calls s (by omega) W')
  have HRe := Lib.hid (show ∀ W', Calls Try.prog 21 #[.string SB] W' (RpE s W') from fun W' => by rw [hSB]; exact refparse_calls s (by omega) W')
  have hss : SB.size ≤ 3000 := by rw [hSB, str_size]; exact hs
  have HSB := Lib.hid hSB
  have t1 : decide ((3000 : Int) < (SB.size : Int)) = false := decide_eq_false (by omega)
  have t1' : decide (3000 < SB.size) = false := decide_eq_false (by omega)
  have hnil := nil_eq
  clear hv h5 hw1 hg hb hf hR hSB hss
  go_enter Try.func4, Try.ntmps4
  go_wp2_with fail
  rw [← HG.out, ← HW1.out]
  refine (value_awake w1).mono ?_
  rintro e w2 ⟨rfl, f2⟩
  have G2 := Lib.hid f2
  clear f2
  go_wp2_with (first | (with_reducible refine wpList_load_mid (op := ⟨some 17, _, _, _, _, _⟩) rfl 36 _ rfl g 0 rfl [c0, c1, c2, c3, c4] _ (HX.out _ G2.out) Try.underlying36 rfl HLi.out ?_))
  refine (HFew.out w2 G2.out).mono ?_
  rintro e w3 ⟨rfl, f3⟩
  have G3 := Lib.hid (G2.out.trans f3 (fun i hi => hi.elim))
  clear f3
  go_wp2_with (first | (with_reducible refine wpList_load_mid (op := ⟨some 26, _, _, _, _, _⟩) rfl 36 _ rfl g 0 rfl [c0, c1, c2, c3, c4] _ (HX.out _ G3.out) Try.underlying36 rfl HLi.out ?_))
  refine (HOfV.out w3 G3.out).mono ?_
  rintro e w4 ⟨va, rfl, har, f4⟩
  have HPr := Lib.hid (show Calls Try.prog 17 #[va] w4 fun e w'' => e = .returned (.tuple #[.string (str R.1), .int .i64 (R.2 : Int)]) ∧ Fr (fun _ => False) w4 w'' from by rw [HRR.out]; exact print_calls _ _ va w4 har HLen.out)
  have G4 := Lib.hid (G3.out.trans f4 (fun i hi => hi.elim))
  clear f4 har
  obtain ⟨T, hT⟩ : ∃ x, x = str R.1 := ⟨_, rfl⟩
  rw [← hT] at HPr HRp
  clear hT
  go_wp2_with fail
  refine HPr.out.mono ?_
  rintro e w5 ⟨rfl, f5⟩
  have G5 := Lib.hid (G4.out.trans f5 (fun i hi => hi.elim))
  clear f5 HPr
  go_wp2_with (first | (with_reducible refine wpList_load_mid (op := ⟨some 32, _, _, _, _, _⟩) rfl 36 _ rfl g 0 rfl [c0, c1, c2, c3, c4] _ (HX.out _ G5.out) Try.underlying36 rfl HLi.out ?_))
  refine (HRp.out w5 G5.out).mono ?_
  rintro e w6 ⟨rfl, f6⟩
  have G6 := Lib.hid (G5.out.trans f6 (fun i hi => hi.elim))
  clear f6
  go_wp2_with fail
  refine (HPa.out w6).mono ?_
  rintro e w7 ⟨v1, e1, rfl, hone, hcase, f7⟩
  have G7 := Lib.hid (G6.out.trans f7 (fun i hi => hi.elim))
  have HOne := Lib.hid hone
  clear f7 hone
  go_wp2_with fail
  refine (HRe.out w7).mono ?_
  rintro e w8 ⟨cs2, e2, rfl, h5, h1, hrc, f8⟩
  have G8 := Lib.hid (G7.out.trans f8 (fun i hi => hi.elim))
  have HLi2 := Lib.hid (show (Try.prog.info? 36).map (·.size) = some cs2.length by rw [h5]; exact info36)
  have HLi3 := Lib.hid (show (Try.prog.info? 36).map (·.size) = some cs2.toArray.size by rw [show cs2.toArray.size = 5 by simpa using h5]; exact info36)
  have HZ5 := Lib.hid (show (#[.int .i64 0, .int .i64 0, .string ⟨#[]⟩, .bool false, .slice none 0 0] : Array Value).size = cs2.toArray.size by simpa using h5.symm)
  have HOA := Lib.hid (show ∀ v ∈ cs2.toArray.toList, v.oneCell' = true by simpa using h1)
  have HF8 := Lib.hid f8
  have HY := Lib.hid (show ∀ W', Fr (fun _ => False) (w8.alloc (.cells cs2.toArray 36)) W' → W'.rangeAt w8.heap.size 0 cs2 from fun W' hf => rangeAt_all (hf.heap (heap_alloc_new w8 _) id))
  have G9 := Lib.hid (G8.out.alloc (.cells cs2.toArray 36))
  have hcc : (∃ a, decA 8 s = some (a, []) ∧ e1 = 0 ∧ e2 = 0 ∧ AR w7 (fun i => w6.heap.size ≤ i) a v1 ∧ VR w8 (fun i => w7.heap.size ≤ i) (toV a) cs2) ∨ (e1 = 2 ∧ e2 = 2 ∧ v1 = .nilIface) := by
    unfold RpC at hrc
    cases hd : decA 8 s with
    | none => rw [hd] at hcase hrc; exact .inr ⟨hcase.1, hrc.1, hcase.2⟩
    | some x =>
      obtain ⟨a, rest⟩ := x
      rw [hd] at hcase hrc
      cases rest with
      | nil => exact .inl ⟨a, rfl, hcase.1, hrc.1, hcase.2, hrc.2⟩
      | cons c t => exact .inr ⟨hcase.1, hrc.1, hcase.2⟩
  have tT : (T.toList == T.toList) = true := beq_self_eq_true _
  clear f8 h5 h1 hrc hcase
  have hST := True.intro
  rcases hcc with ⟨a, hd, rfl, rfl, har, hvr⟩ | ⟨rfl, rfl, rfl⟩
  rotate_left
  · clear hST
    go_wp2_with (first | (with_reducible refine wpList_store_fresh (op := ⟨none, .store 36 _ _, _, _, _, _⟩) rfl 36 _ _ rfl w8 #[.int .i64 0, .int .i64 0, .string ⟨#[]⟩, .bool false, .slice none 0 0] cs2.toArray rfl rfl rfl HZ5.out HLi3.out HOA.out ?_))
    go_ret
    exact ⟨rfl, HF1.out.trans G9.out (fun i hi => hi.elim)⟩
  · obtain ⟨k1, k2, k3⟩ := dec_whole hd
    have HAR := Lib.hid (show ∀ W', Fr (fun _ => False) (w8.alloc (.cells cs2.toArray 36)) W' → AR W' (fun i => w6.heap.size ≤ i) a v1 from fun W' hf => har.frF ((HF8.out.alloc (.cells cs2.toArray 36)).trans hf (fun i hi => hi.elim)))
    have HV2 := Lib.hid (show ∀ W', Fr (fun _ => False) (w8.alloc (.cells cs2.toArray 36)) W' → VR W' (fun i => w7.heap.size ≤ i) (toV a) cs2 from fun W' hf => hvr.frF (((Fr.refl _ w8).alloc (.cells cs2.toArray 36)).trans hf (fun i hi => hi.elim)))
    have HK := Lib.hid (And.intro k1 (And.intro k2 (show lenK 8 a ≤ 140737488355328 by rw [k3]; omega)))
    obtain ⟨wy, hwy⟩ : ∃ wy, wy = w8.alloc (.cells cs2.toArray 36) := ⟨_, rfl⟩
    obtain ⟨y0, hy0⟩ : ∃ y, y = w8.heap.size := ⟨_, rfl⟩
    have HPx := Lib.hid (show Calls Try.prog 17 #[v1] (w8.alloc (.cells cs2.toArray 36)) fun e w'' => e = .returned (.tuple #[.string SB, .int .i64 0]) ∧ Fr (fun _ => False) (w8.alloc (.cells cs2.toArray 36)) w'' from by
      have h := print_calls a _ v1 _ (HAR.out _ (Fr.refl _ _)) HK.out.2.2
      rw [HK.out.1] at h
      rw [HSB.out]; exact h)
    have HWy := Lib.hid hwy
    have HY0 := Lib.hid hy0
    clear hd har hvr k1 k2 k3 hwy hy0 hST
    have hone := HOne.out
    go_wp2_with (first | (with_reducible refine wpList_store_fresh (op := ⟨none, .store 36 _ _, _, _, _, _⟩) rfl 36 _ _ rfl w8 #[.int .i64 0, .int .i64 0, .string ⟨#[]⟩, .bool false, .slice none 0 0] cs2.toArray rfl rfl rfl HZ5.out HLi3.out HOA.out ?_))
    refine HPx.out.mono ?_
    rintro e wc ⟨rfl, fc⟩
    have Gc := Lib.hid (G9.out.trans fc (fun i hi => hi.elim))
    have HYc := Lib.hid (show ∀ W', Fr (fun _ => False) wc W' → W'.rangeAt w8.heap.size 0 cs2 from fun W' hf => HY.out W' (fc.trans hf (fun i hi => hi.elim)))
    have HVc := Lib.hid (show ∀ W', Fr (fun _ => False) wc W' → VR W' (fun i => w7.heap.size ≤ i) (toV a) cs2 from fun W' hf => HV2.out W' (fc.trans hf (fun i hi => hi.elim)))
    have HOf := Lib.hid (show ∀ W', Fr (fun _ => False) wc W' → Calls Try.prog 23 #[v1] W' fun e w'' => ∃ cs, e = .returned (.agg cs.toArray) ∧ VR w'' (fun i => W'.heap.size ≤ i) (toV a) cs ∧ Fr (fun _ => False) W' w'' from fun W' hf => ofx_calls a _ v1 W' (HAR.out W' (fc.trans hf (fun i hi => hi.elim))) HK.out.2.1 HK.out.2.2 (by rw [HK.out.1]))
    clear fc HPx HY HV2
    have HY := HYc
    have HV2 := HVc
    clear HYc HVc
    rw [← HY0.out] at HY ⊢
    have tS : (SB.toList == SB.toList) = true := beq_self_eq_true _
    go_wp2_with fail
    refine wp_region_till (fun w' => Fr (fun _ => False) (wc.drew) w') 11 rfl ?_
    generalize hW0 : wc.drew = W0
    have HS0 := Lib.hid (Fr.refl (fun _ => False) W0)
    have HWc := Lib.hid (show Fr (fun _ => False) wc W0 by rw [← hW0]; exact (Fr.refl _ _).drew)
    clear hW0
    refine wpAnyT_path (i := 0) (p := [7, 2, 1]) (v := .int .i64 0) rfl (by kernel_rfl) (by kernel_rfl) (fun _ _ _ h => h) HS0.out (.inl ⟨by rfl, fun W' hW => by clear hW; go_simp⟩) ?_
    try simp only [Act.put, List.setIfInBounds_toArray]
    try dsimp only [List.getElem_toArray, List.getElem_cons_succ, List.getElem_cons_zero, List.set_cons_zero, List.set_cons_succ]
    refine wpAnyT_path (i := 1) (p := [7, 2]) (v := .bool true) rfl (by kernel_rfl) (by kernel_rfl) (fun _ _ _ h => h) HS0.out (.inl ⟨by rfl, fun W' hW => by clear hW; go_simp⟩) ?_
    try simp only [Act.put, List.setIfInBounds_toArray]
    try dsimp only [List.getElem_toArray, List.getElem_cons_succ, List.getElem_cons_zero, List.set_cons_zero, List.set_cons_succ]
    refine wpAnyT_path (i := 2) (p := [7]) (v := .bool true) rfl (by kernel_rfl) (by kernel_rfl) (fun _ _ _ h => h) HS0.out (.inl ⟨by rfl, fun W' hW => by clear hW; go_simp⟩) ?_
    try simp only [Act.put, List.setIfInBounds_toArray]
    try dsimp only [List.getElem_toArray, List.getElem_cons_succ, List.getElem_cons_zero, List.set_cons_zero, List.set_cons_succ]
    refine wpAnyT_path (i := 3) (p := [7, 6, 5]) (v := .string SB) rfl (by kernel_rfl) (by kernel_rfl) (fun _ _ _ h => h) HS0.out (.inl ⟨by rfl, fun W' hW => by clear hW; go_simp⟩) ?_
    try simp only [Act.put, List.setIfInBounds_toArray]
    try dsimp only [List.getElem_toArray, List.getElem_cons_succ, List.getElem_cons_zero, List.set_cons_zero, List.set_cons_succ]
    refine wpAnyT_path (i := 4) (p := [7, 6, 5]) (v := .string SB) rfl (by kernel_rfl) (by kernel_rfl) (fun _ _ _ h => h) HS0.out (.inl ⟨by rfl, fun W' hW => by clear hW; go_simp⟩) ?_
    try simp only [Act.put, List.setIfInBounds_toArray]
    try dsimp only [List.getElem_toArray, List.getElem_cons_succ, List.getElem_cons_zero, List.set_cons_zero, List.set_cons_succ]
    refine wpAnyT_path (i := 5) (p := [7, 6]) (v := .bool true) rfl (by kernel_rfl) (by kernel_rfl) (fun _ _ _ h => h) HS0.out (.inl ⟨by rfl, fun W' hW => by clear hW; go_simp⟩) ?_
    try simp only [Act.put, List.setIfInBounds_toArray]
    try dsimp only [List.getElem_toArray, List.getElem_cons_succ, List.getElem_cons_zero, List.set_cons_zero, List.set_cons_succ]
    refine wpAnyT_path (i := 6) (p := [7]) (v := .bool true) rfl (by kernel_rfl) (by kernel_rfl) (fun _ _ _ h => h) HS0.out (.inl ⟨by rfl, fun W' hW => by clear hW; go_simp⟩) ?_
    try simp only [Act.put, List.setIfInBounds_toArray]
    try dsimp only [List.getElem_toArray, List.getElem_cons_succ, List.getElem_cons_zero, List.set_cons_zero, List.set_cons_succ]
    refine wpAnyT_path (i := 7) (p := []) (v := .bool true) rfl (by kernel_rfl) (by kernel_rfl) (fun _ _ _ h => h) HS0.out (.inl ⟨by rfl, fun W' hW => by clear hW; go_simp⟩) ?_
    try simp only [Act.put, List.setIfInBounds_toArray]
    try dsimp only [List.getElem_toArray, List.getElem_cons_succ, List.getElem_cons_zero, List.set_cons_zero, List.set_cons_succ]
    refine wpAnyT_path (i := 8) (p := [9]) (v := v1) rfl (by kernel_rfl) (by kernel_rfl) (fun _ _ _ h => h) HS0.out (.inl ⟨by rfl, fun W' hW => by clear hW; go_simp⟩) ?_
    try simp only [Act.put, List.setIfInBounds_toArray]
    try dsimp only [List.getElem_toArray, List.getElem_cons_succ, List.getElem_cons_zero, List.set_cons_zero, List.set_cons_succ]
    refine wpAnyT_path (i := 10) (p := []) (v := .agg cs2.toArray) rfl (by kernel_rfl) (by kernel_rfl) (fun _ _ _ h => h) HS0.out (yieldsIf_load_mid (by rfl) 36 (.tmp 11) rfl y0 0 rfl cs2 _ (fun W' hW => HY.out W' (HWc.out.trans hW (fun i hi => hi.elim))) Try.underlying36 rfl HLi2.out) ?_
    try simp only [Act.put, List.setIfInBounds_toArray]
    try dsimp only [List.getElem_toArray, List.getElem_cons_succ, List.getElem_cons_zero, List.set_cons_zero, List.set_cons_succ]
    refine wpAnyT_one (i := 9) rfl (by kernel_rfl) (wpOp_guarded rfl (by rfl) (fun K hK => ?_))
    try simp only [Act.put, List.setIfInBounds_toArray]
    try dsimp only [List.getElem_toArray, List.getElem_cons_succ, List.getElem_cons_zero, List.set_cons_zero, List.set_cons_succ]
    have HKK2 := Lib.hid hK
    clear hK
    go_wp2_with fail
    refine (HOf.out W0 HWc.out).mono ?_
    rintro e wd ⟨cs3, rfl, hv3, fd⟩
    have HSd := Lib.hid fd
    have HV3 := Lib.hid hv3
    clear fd hv3
    go_wp2_with fail
    refine HKK2.out _ _ ⟨fun _ => HSd.out, ?_⟩
    clear HKK2 K
    try simp only [Act.put, List.setIfInBounds_toArray]
    try dsimp only [List.getElem_toArray, List.getElem_cons_succ, List.getElem_cons_zero, List.set_cons_zero, List.set_cons_succ]
    refine wpAnyT_one (i := 11) rfl (by kernel_rfl) (wpOp_guarded rfl (by rfl) (fun K hK => ?_))
    try simp only [Act.put, List.setIfInBounds_toArray]
    try dsimp only [List.getElem_toArray, List.getElem_cons_succ, List.getElem_cons_zero, List.set_cons_zero, List.set_cons_succ]
    have HKK2 := Lib.hid hK
    clear hK
    have HSm := Lib.hid (refsame_calls HV3.out cs2 _ wd (Fr.refl _ _) (HV2.out wd (HWc.out.trans HSd.out (fun i hi => hi.elim))))
    go_wp2_with fail
    refine HSm.out.mono ?_
    rintro e wf ⟨rfl, ff⟩
    have HSf := Lib.hid (HSd.out.trans ff (fun i hi => hi.elim))
    clear ff HSm
    go_wp2_with fail
    refine HKK2.out _ _ ⟨fun _ => HSf.out, ?_⟩
    clear HKK2 K
    try simp only [Act.put, List.setIfInBounds_toArray]
    try dsimp only [List.getElem_toArray, List.getElem_cons_succ, List.getElem_cons_zero, List.set_cons_zero, List.set_cons_succ]
    refine wpAnyT_done (by first | rfl | kernel_rfl) _ _ _ ?_
    refine wpAny_take (i := 12) (v := .bool true) rfl (by kernel_rfl) (by kernel_rfl) (by kernel_rfl) (fun _ _ _ h => h) (.inl ⟨by rfl, fun W' => by go_simp⟩) ?_
    try simp only [Act.put, List.setIfInBounds_toArray]
    try dsimp only [List.getElem_toArray, List.getElem_cons_succ, List.getElem_cons_zero, List.set_cons_zero, List.set_cons_succ]
    refine wpAny_take (i := 13) (v := .bool true) rfl (by kernel_rfl) (by kernel_rfl) (by kernel_rfl) (fun _ _ _ h => h) (.inl ⟨by rfl, fun W' => by go_simp⟩) ?_
    try simp only [Act.put, List.setIfInBounds_toArray]
    try dsimp only [List.getElem_toArray, List.getElem_cons_succ, List.getElem_cons_zero, List.set_cons_zero, List.set_cons_succ]
    refine wpAny_done (by kernel_rfl) ?_ _
    have HFin := Lib.hid (((HF1.out.trans Gc.out (fun i hi => hi.elim)).trans HWc.out (fun i hi => hi.elim)).trans HSf.out (fun i hi => hi.elim))
    go_wp2_with fail
    go_ret
    exact ⟨rfl, HFin.out⟩
theorem vtells_walk (t : VT) (cs : List Value) (D : Nat → Prop) (SB : ByteArray) (w : World) (hv : VR w D t cs) :
    Calls Try.prog 4 #[.agg cs.toArray, .string SB] w fun e w' => e = .returned (.bool true) ∧ Fr (fun _ => False) w w' := by
  by_cases h : fewK 11 t = false ∨ 3000 < SB.size
  · exact vtells_early t cs D SB w hv h
  · rw [not_or] at h
    have e1 : SB = str SB.data.toList := by
      obtain ⟨⟨l⟩⟩ := SB
      rfl
    exact vtells_late t cs D SB.data.toList SB e1 w hv (by simpa using h.1) (by have := h.2; rw [e1, str_size] at this; omega)
end Go.Proofs.Ythmpmpepokeedaa
