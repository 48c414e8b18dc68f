/- Values: the document's Print walked. -/
import Derived.Test.YthmpmpepokeedaaNd
set_option linter.unusedVariables false
set_option linter.unusedSimpArgs false
set_option pp.deepTerms true
set_option pp.maxSteps 100000
namespace Go.Proofs.Ythmpmpepokeedaa
open Go.RowKit
def Aside (p : Prop) : Prop := p
theorem str_append (a b : List UInt8) : str a ++ str b = str (a ++ b) := by
  apply ByteArray.ext
  simp [str]
/-- No value's number is beyond 64 bits. -/
inductive WfV : VT → Prop where
  | mk (k n : Int) (s : List UInt8) (b : Bool) (l : List VT) (hk : inI k) (hn : inI n) (h : ∀ t ∈ l, WfV t) : WfV (.mk k n s b l)
theorem encL_snoc (enc : AV → List UInt8 × Nat) (l : List AV) (a : AV) (h : (encL enc l).2 = 0) : encL enc (l ++ [a]) = if (enc a).2 = 0 then ((encL enc l).1 ++ (enc a).1, 0) else ([], (enc a).2) := by
  induction l with
  | nil => simp only [List.nil_append, encL, if_true]; split <;> simp
  | cons x r ih =>
    have h1 : (enc x).2 = 0 ∧ (encL enc r).2 = 0 := by
      simp only [encL] at h
      by_cases hx : (enc x).2 = 0
      · rw [if_pos hx] at h
        by_cases hr : (encL enc r).2 = 0
        · exact ⟨hx, hr⟩
        · rw [if_neg hr] at h; exact absurd h hr
      · rw [if_neg hx] at h; exact absurd h hx
    rw [List.cons_append]
    simp only [encL, if_pos h1.1, ih h1.2, if_pos h1.2]
    by_cases ha : (enc a).2 = 0
    · simp only [if_pos ha, if_true, List.append_assoc]
    · simp only [if_neg ha]
/-- One that is refused: the row is refused with its error. -/
theorem encL_bad (enc : AV → List UInt8 × Nat) (l r : List AV) (a : AV) (h : (encL enc l).2 = 0) (ha : (enc a).2 ≠ 0) : encL enc (l ++ a :: r) = ([], (enc a).2) := by
  induction l with
  | nil => simp only [List.nil_append, encL, if_neg ha]
  | cons x l ih =>
    have h1 : (enc x).2 = 0 ∧ (encL enc l).2 = 0 := by
      simp only [encL] at h
      by_cases hx : (enc x).2 = 0
      · rw [if_pos hx] at h
        by_cases hr : (encL enc l).2 = 0
        · exact ⟨hx, hr⟩
        · rw [if_neg hr] at h; exact absurd h hr
      · rw [if_neg hx] at h; exact absurd h hx
    rw [List.cons_append]
    simp only [encL, if_pos h1.1, ih h1.2, if_neg ha]
/-- How many bytes may be written for a value, whether it is refused or not. -/
def lenL (len : AV → Nat) : List AV → Nat
  | [] => 0
  | a :: r => len a + lenL len r
def lenK : Nat → AV → Nat
  | _, .non => 0
  | _, .int _ => 9
  | _, .text s => if 65535 < s.length then 0 else s.length + 3
  | _, .yes _ => 1
  | 0, .row _ => 0
  | k + 1, .row l => if 255 < l.length then 0 else lenL (lenK k) l + 2
theorem lenL_append (len : AV → Nat) (l m : List AV) : lenL len (l ++ m) = lenL len l + lenL len m := by
  induction l with
  | nil => simp [lenL]
  | cons a r ih => rw [List.cons_append, lenL, lenL, ih]; omega
theorem lenL_take (len : AV → Nat) (l : List AV) (u : Nat) : lenL len (l.take u) ≤ lenL len l := by
  have := lenL_append len (l.take u) (l.drop u)
  rw [List.take_append_drop] at this
  omega
theorem lenL_mem (len : AV → Nat) : ∀ (l : List AV) (a : AV), a ∈ l → len a ≤ lenL len l
  | x :: r, a, h => by
    rw [lenL]
    rcases List.mem_cons.1 h with rfl | h
    · omega
    · have := lenL_mem len r a h; omega
theorem encL_len (k : Nat) (ih : ∀ a, (encA k a).1.length ≤ lenK k a) (l : List AV) : (encL (encA k) l).1.length ≤ lenL (lenK k) l := by
  induction l with
  | nil => simp [encL, lenL]
  | cons a r ih2 =>
    simp only [encL, lenL]
    have := ih a
    split
    · split
      · simp only [List.length_append]; omega
      · simp
    · simp
theorem encA_len : ∀ (k : Nat) (a : AV), (encA k a).1.length ≤ lenK k a
  | k, .non => by simp [encA, lenK]
  | k, .int n => by simp [encA, lenK, be8]
  | k, .text s => by simp only [encA, lenK]; split <;> simp
  | k, .yes b => by simp [encA, lenK]
  | 0, .row l => by simp [encA, lenK]
  | k + 1, .row l => by
    simp only [encA, lenK]
    have := encL_len k (fun a => encA_len k a) l
    split
    · simp
    · split
      · simp only [List.length_cons]; omega
      · simp
def lowB (n : Int) : Nat → List UInt8
  | 0 => []
  | u + 1 => bAt n u :: lowB n u
theorem be8_low (n : Int) : be8 n = lowB n 8 := rfl
theorem lowB_length (n : Int) (u : Nat) : (lowB n u).length = u := by
  induction u with
  | zero => rfl
  | succ u ih => rw [lowB, List.length_cons, ih]
theorem rangeAt_all {w : World} {b : Nat} {cs : List Value} {t : TypeId} {fr : Nat × Nat} (h : w.heap[b]? = some (.cells cs.toArray t fr)) : w.rangeAt b 0 cs := fun j v hj => by
  rw [cell_of_row w b _ _ _ _ h]
  simpa using hj
/-- A slice of bytes just made, as a string. -/
theorem conv_new (l : List UInt8) (n : Nat) (hn : l.length = n) (w : World) : (convert 89 9 (.slice (some ⟨w.heap.size, 0, none⟩) n n)).run Try.prog (w.alloc (.cells (bcells l).toArray 5)) = .ok (.string (str l)) (w.alloc (.cells (bcells l).toArray 5)) :=
  run_convert_str _ _ _ Try.underlying89 Try.underlying5 w.heap.size 0 n n l hn (rangeAt_all (heap_alloc_new w _)) _ Try.underlying9
theorem conv_one (c : UInt8) (w : World) : (convert 89 9 (.slice (some ⟨w.heap.size, 0, none⟩) 1 1)).run Try.prog (w.alloc (.cells #[.int .u8 (c.toNat : Int)] 5)) = .ok (.string (str [c])) (w.alloc (.cells #[.int .u8 (c.toNat : Int)] 5)) := conv_new [c] 1 rfl w
theorem conv_two (c d : UInt8) (w : World) : (convert 89 9 (.slice (some ⟨w.heap.size, 0, none⟩) 2 2)).run Try.prog (w.alloc (.cells #[.int .u8 (c.toNat : Int), .int .u8 (d.toNat : Int)] 5)) = .ok (.string (str [c, d])) (w.alloc (.cells #[.int .u8 (c.toNat : Int), .int .u8 (d.toNat : Int)] 5)) := conv_new [c, d] 2 rfl w
set_option maxRecDepth 20000 in
set_option maxHeartbeats 8000000 in
theorem told_leaf (j d : Nat) (k n : Int) (s : List UInt8) (b : Bool) (l : List VT) (a : Option Addr) (cap : Nat) (w : World) (hs : s.length ≤ 70000) (hk : k ≠ 4) :
    Calls Try.prog 54 #[.agg #[.int .i64 k, .int .i64 n, .string (str s), .bool b, .slice a l.length cap], .int .i64 (d : Int)] w fun e w' => e = .returned (.tuple #[.string (str (encA j (ofV (.mk k n s b l))).1), .int .i64 ((encA j (ofV (.mk k n s b l))).2 : Int)]) ∧ Fr (fun _ => False) w w' := by
  obtain ⟨S, hS⟩ : ∃ x, x = str s := ⟨_, rfl⟩
  have hSs : S.size = s.length := by rw [hS, str_size]
  have hs7 : S.size ≤ 70000 := by rw [hSs]; exact hs
  rw [← hS]
  obtain ⟨m, hm⟩ : ∃ x, x = l.length := ⟨_, rfl⟩
  rw [← hm]
  have HS := Lib.hid (And.intro hS hSs)
  clear hS hSs hm hs
  obtain ⟨w1, hw1⟩ : ∃ w1, w1 = w.alloc (.cells #[.int .i64 k, .int .i64 n, .string S, .bool b, .slice a m cap] 36) := ⟨_, rfl⟩
  obtain ⟨g, hg⟩ : ∃ g, g = w.heap.size := ⟨_, rfl⟩
  have HF0 := Lib.hid (show Fr (fun _ => False) w w1 by rw [hw1]; exact (Fr.refl _ _).alloc _)
  have HW1 := Lib.hid (And.intro hw1 hg)
  clear hw1 hg
  obtain ⟨R, hR⟩ : ∃ R, R = encA j (ofV (.mk k n s b l)) := ⟨_, rfl⟩
  rw [← hR]
  by_cases h1 : k = 1
  · subst h1
    have HE := Lib.hid (show R = (105 :: be8 n, 0) by rw [hR]; cases j <;> rfl)
    clear hR hk
    go_enter Try.func54, Try.ntmps54
    go_wp2_with fail
    rw [← HW1.out.2, ← HW1.out.1]
    go_loopw [6, 7, 8] (fun x y i wr => ∃ u : Nat, u ≤ 8 ∧ x = .string (str (lowB n u)) ∧ y = .int .i64 (n / 256 ^ u) ∧ i = .int .i64 (u : Int) ∧ Fr (fun _ => False) w1 wr) (fun _ _ i _ => 8 - (intOf i).toNat)
    case atStart => exact ⟨0, by omega, rfl, by simp, rfl, Fr.refl _ _⟩
    case round =>
      obtain ⟨u, hu, rfl, rfl, rfl, hfr⟩ := hrel
      have HF := Lib.hid hfr
      obtain ⟨T, hT⟩ : ∃ T, T = str (lowB n u) := ⟨_, rfl⟩
      have hTs : T.size = u := by rw [hT, str_size, lowB_length]
      obtain ⟨y, hy⟩ : ∃ y, y = n / 256 ^ u := ⟨_, rfl⟩
      rw [← hT, ← hy]
      by_cases hlt : u < 8
      · obtain ⟨c, hc⟩ : ∃ c, c = bAt n u := ⟨_, rfl⟩
        have hw1 : y % 256 = (c.toNat : Int) := by rw [hc, bAt_toNat, hy]
        have hw2 : IntKind.u8.wrap y = (c.toNat : Int) := by rw [IntKind.wrap_u8', hw1]
        have hcv := conv_one c wr
        have hz : (str [c]).size + T.size ≤ 9223372036854775807 := by rw [str_size]; simp; omega
        obtain ⟨T2, hT2⟩ : ∃ T2, str [c] ++ T = T2 := ⟨_, rfl⟩
        have HT2 := Lib.hid (show T2 = str (lowB n (u + 1)) by rw [← hT2, hT, hc, str_append]; rfl)
        obtain ⟨y2, hy2⟩ : ∃ y2, y / 256 = y2 := ⟨_, rfl⟩
        have HY2 := Lib.hid (show y2 = n / 256 ^ (u + 1) by rw [← hy2, hy, Int.ediv_ediv_of_nonneg (by exact Int.pow_nonneg (by decide)), Int.pow_succ])
        have hu8 : (u : Int) < 8 := by omega
        clear hT hTs hy hc hw1 hfr
        go_wp2_with fail
        go_roundw
        case rel => exact ⟨u + 1, by omega, by rw [HT2.out], by rw [HY2.out], by go_num, HF.out.alloc _⟩
        case measure => simp [intOf]; omega
      · obtain rfl : u = 8 := by omega
        have hge : ¬ ((8 : Nat) : Int) < 8 := by omega
        have hz : (ByteArray.mk #[105]).size + T.size ≤ 9223372036854775807 := by rw [show (ByteArray.mk #[105]).size = 1 from rfl]; omega
        obtain ⟨T2, hT2⟩ : ∃ T2, ByteArray.mk #[105] ++ T = T2 := ⟨_, rfl⟩
        have HT2 := Lib.hid (show T2 = str R.1 by rw [← hT2, hT, HE.out, be8_low, show ByteArray.mk #[105] = str [105] from rfl, str_append]; rfl)
        clear hT hTs hy hfr
        go_wp2_with fail
        go_ret2
        exact ⟨by rw [HT2.out, HE.out]; rfl, HF0.out.trans HF.out (fun i hi => hi.elim)⟩
  by_cases h2 : k = 2
  · subst h2
    by_cases hlong : 65535 < S.size
    · have HE := Lib.hid (show R = ([], 3) by rw [hR]; rw [HS.out.2] at hlong; cases j <;> (show (if 65535 < s.length then _ else _) = _; rw [if_pos hlong]))
      have t1 : decide ((65535 : Int) < (S.size : Int)) = true := decide_eq_true (by omega)
      have t1' : decide (65535 < S.size) = true := decide_eq_true (by omega)
      clear hR hk h1 hlong
      go_enter Try.func54, Try.ntmps54
      go_wp2_with fail
      go_ret2
      exact ⟨by rw [HE.out]; rfl, (Fr.refl _ _).alloc _⟩
    · have HE := Lib.hid (show R = (115 :: UInt8.ofNat (s.length / 256) :: UInt8.ofNat s.length :: s, 0) by rw [hR]; rw [HS.out.2] at hlong; cases j <;> (show (if 65535 < s.length then _ else _) = _; rw [if_neg hlong]))
      have t1 : decide ((65535 : Int) < (S.size : Int)) = false := decide_eq_false (by omega)
      have t1' : decide (65535 < S.size) = false := decide_eq_false (by omega)
      obtain ⟨q, hq⟩ : ∃ q, q = S.size / 256 := ⟨_, rfl⟩
      obtain ⟨c, hc⟩ : ∃ c, c = UInt8.ofNat q := ⟨_, rfl⟩
      obtain ⟨e, he⟩ : ∃ e, e = UInt8.ofNat S.size := ⟨_, rfl⟩
      have hq1 : Int.tdiv (S.size : Int) 256 = (q : Int) := by rw [hq, Int.tdiv_eq_ediv_of_nonneg (by omega)]; rfl
      have hq2 : IntKind.i64.wrap (q : Int) = (q : Int) := IntWalk.i64_in _ (by omega)
      have hc1 : (q : Int) % 256 = (c.toNat : Int) := by rw [hc]; simp
      have hc2 : IntKind.u8.wrap (q : Int) = (c.toNat : Int) := by rw [IntKind.wrap_u8', hc1]
      have he1 : (S.size : Int) % 256 = (e.toNat : Int) := by rw [he]; simp
      have he2 : IntKind.u8.wrap (S.size : Int) = (e.toNat : Int) := by rw [IntKind.wrap_u8', he1]
      have hcv := conv_two c e w1
      have hz1 : (ByteArray.mk #[115]).size + (str [c, e]).size ≤ 9223372036854775807 := by rw [str_size, show (ByteArray.mk #[115]).size = 1 from rfl]; simp
      obtain ⟨T1, hT1⟩ : ∃ T, ByteArray.mk #[115] ++ str [c, e] = T := ⟨_, rfl⟩
      have hz2 : T1.size + S.size ≤ 9223372036854775807 := by rw [← hT1, ByteArray.size_append, str_size, show (ByteArray.mk #[115]).size = 1 from rfl]; simp; omega
      obtain ⟨T2, hT2⟩ : ∃ T, T1 ++ S = T := ⟨_, rfl⟩
      have HT2 := Lib.hid (show T2 = str R.1 by rw [← hT2, ← hT1, HE.out, HS.out.1, hc, he, hq, HS.out.2, show ByteArray.mk #[115] = str [115] from rfl, str_append, str_append]; rfl)
      rw [HW1.out.1] at hcv
      simp only [World.size_alloc] at hcv
      clear hR hk h1 hlong hq hc hc1 he he1
      go_enter Try.func54, Try.ntmps54
      go_wp2_with fail
      go_ret2
      exact ⟨by rw [HT2.out, HE.out]; rfl, ((Fr.refl _ _).alloc _).alloc _⟩
  by_cases h3 : k = 3
  · subst h3
    cases b with
    | false =>
      have HE := Lib.hid (show R = ([110], 0) by rw [hR]; cases j <;> rfl)
      clear hR hk h1 h2
      go_enter Try.func54, Try.ntmps54
      go_wp2_with fail
      go_ret2
      exact ⟨by rw [HE.out]; rfl, (Fr.refl _ _).alloc _⟩
    | true =>
      have HE := Lib.hid (show R = ([121], 0) by rw [hR]; cases j <;> rfl)
      clear hR hk h1 h2
      go_enter Try.func54, Try.ntmps54
      go_wp2_with fail
      go_ret2
      exact ⟨by rw [HE.out]; rfl, (Fr.refl _ _).alloc _⟩
  · have HE := Lib.hid (show R = ([], 9) by
      rw [hR, show ofV (.mk k n s b l) = .non by unfold ofV; rw [if_neg h1, if_neg h2, if_neg h3, if_neg hk]]
      cases j <;> rfl)
    have t1 : (k == 1) = false := beq_eq_false_iff_ne.2 h1
    have t2 : (k == 2) = false := beq_eq_false_iff_ne.2 h2
    have t3 : (k == 3) = false := beq_eq_false_iff_ne.2 h3
    have t4 : (k == 4) = false := beq_eq_false_iff_ne.2 hk
    clear hR hk h1 h2 h3
    go_enter Try.func54, Try.ntmps54
    go_wp2_with fail
    go_ret2
    exact ⟨by rw [HE.out]; rfl, (Fr.refl _ _).alloc _⟩
set_option maxRecDepth 20000 in
set_option maxHeartbeats 8000000 in
theorem told_calls (j : Nat) : ∀ (d : Nat) (hj : d + j = 8) (t : VT) (cs : List Value) (D : Nat → Prop) (w : World), VR w D t cs → fewK (j + 3) t = true → lenK j (ofV t) ≤ 140737488355328 →
    Calls Try.prog 54 #[.agg cs.toArray, .int .i64 (d : Int)] w fun e w' => e = .returned (.tuple #[.string (str (encA j (ofV t)).1), .int .i64 ((encA j (ofV t)).2 : Int)]) ∧ Fr (fun _ => False) w w' := by
  induction j with
  | zero =>
    intro d hj t cs D w hv hf hlen
    obtain rfl : d = 8 := by omega
    cases hv with
    | mk k n s b l a cap cs hlc hcap hs ha h =>
      have hf2 : (decide (s.length ≤ 70000) && decide (l.length ≤ 300) && (decide (10 ≤ 2 + 1) || decide (l.length ≤ 5)) && l.all (fewK 2)) = true := hf
      simp only [Bool.and_eq_true, decide_eq_true_eq, List.all_eq_true] at hf2
      by_cases h4 : k = 4
      · subst h4
        show Calls Try.prog 54 #[.agg #[.int .i64 4, .int .i64 n, .string (str s), .bool b, .slice a l.length cap], .int .i64 8] w _
        obtain ⟨S, hS⟩ : ∃ x, x = str s := ⟨_, rfl⟩
        rw [← hS]
        have HE := Lib.hid (show encA 0 (ofV (.mk 4 n s b l)) = ([], 3) from rfl)
        obtain ⟨m, hm⟩ : ∃ x, x = l.length := ⟨_, rfl⟩
        rw [← hm] at hlc hf2 ⊢
        clear hS hm ha h hf hf2 hlen
        rw [HE.out]
        by_cases hlong : 255 < m
        · have t1 : decide ((255 : Int) < (m : Int)) = true := decide_eq_true (by omega)
          have t1' : decide (255 < m) = true := decide_eq_true hlong
          clear hlong
          go_enter Try.func54, Try.ntmps54
          go_wp2_with fail
          go_ret2
          exact ⟨rfl, (Fr.refl _ _).alloc _⟩
        · have t1 : decide ((255 : Int) < (m : Int)) = false := decide_eq_false (by omega)
          have t1' : decide (255 < m) = false := decide_eq_false hlong
          clear hlong
          go_enter Try.func54, Try.ntmps54
          go_wp2_with fail
          go_ret2
          exact ⟨rfl, (Fr.refl _ _).alloc _⟩
      · exact told_leaf 0 8 k n s b l a cap w hf2.1.1.1 h4
  | succ j ih =>
    intro d hj t cs D w hv hf hlen
    cases hv with
    | mk k n s b l a cap cs hlc hcap hs ha h =>
      have hf2 : (decide (s.length ≤ 70000) && decide (l.length ≤ 300) && (decide (10 ≤ j + 1 + 2 + 1) || decide (l.length ≤ 5)) && l.all (fewK (j + 3))) = true := hf
      simp only [Bool.and_eq_true, decide_eq_true_eq, List.all_eq_true] at hf2
      by_cases h4 : k = 4
      · subst h4
        have hlen2 : (if 255 < (ofVs l).length then 0 else lenL (lenK j) (ofVs l) + 2) ≤ 140737488355328 := hlen
        have hol : (ofVs l).length = l.length := by rw [ofVs_map, List.length_map]
        rw [hol] at hlen2
        have HE0 := Lib.hid (show encA (j + 1) (ofV (.mk 4 n s b l)) = (if 255 < (ofVs l).length then ([], 3) else if (encL (encA j) (ofVs l)).2 = 0 then (108 :: UInt8.ofNat (ofVs l).length :: (encL (encA j) (ofVs l)).1, 0) else ([], (encL (encA j) (ofVs l)).2)) from rfl)
        rw [hol] at HE0
        obtain ⟨R, hR⟩ : ∃ R, R = encA (j + 1) (ofV (.mk 4 n s b l)) := ⟨_, rfl⟩
        rw [← hR] at HE0 ⊢
        show Calls Try.prog 54 #[.agg #[.int .i64 4, .int .i64 n, .string (str s), .bool b, .slice a l.length cap], .int .i64 (d : Int)] w _
        obtain ⟨S, hS⟩ : ∃ x, x = str s := ⟨_, rfl⟩
        rw [← hS]
        obtain ⟨m, hm⟩ : ∃ x, x = l.length := ⟨_, rfl⟩
        have hm3 : m ≤ 300 := by rw [hm]; exact hf2.1.1.2
        rw [← hm] at hlc hlen2 HE0 ⊢
        have HA := Lib.hid ha
        have HV := Lib.hid h
        have HM := Lib.hid (And.intro hm hol)
        have HIH := Lib.hid ih
        have HFew := Lib.hid hf2.2
        have HJ := Lib.hid (show d + 1 + j = 8 by omega)
        have hd8 : d ≤ 7 := by omega
        have d0 : decide ((8 : Int) ≤ (d : Int)) = false := decide_eq_false (by omega)
        have d0' : decide (8 ≤ d) = false := decide_eq_false (by omega)
        clear hS ha h hm ih hf hf2 hs hj hR hlen hol
        obtain ⟨w1, hw1⟩ : ∃ w1, w1 = w.alloc (.cells #[.int .i64 4, .int .i64 n, .string S, .bool b, .slice a m cap] 36) := ⟨_, rfl⟩
        obtain ⟨g, hg⟩ : ∃ g, g = w.heap.size := ⟨_, rfl⟩
        have hb : w1.heap[g]? = some (.cells #[.int .i64 4, .int .i64 n, .string S, .bool b, .slice a m cap] 36 (0, 0)) := by rw [hw1, hg]; exact heap_alloc_new w _
        have HB := Lib.hid hb
        have HF0 := Lib.hid (show Fr (fun _ => False) w w1 by rw [hw1]; exact (Fr.refl _ _).alloc _)
        have HW1 := Lib.hid (And.intro hw1 hg)
        clear hw1 hg hb
        by_cases hlong : 255 < m
        · have t1 : decide ((255 : Int) < (m : Int)) = true := decide_eq_true (by omega)
          have t1' : decide (255 < m) = true := decide_eq_true hlong
          have HE := Lib.hid (show R = ([], 3) by rw [HE0.out, if_pos hlong])
          clear hlong hlen2
          go_enter Try.func54, Try.ntmps54
          go_wp2_with fail
          go_ret2
          exact ⟨by rw [HE.out]; rfl, (Fr.refl _ _).alloc _⟩
        have t1 : decide ((255 : Int) < (m : Int)) = false := decide_eq_false (by omega)
        have t1' : decide (255 < m) = false := decide_eq_false hlong
        rw [if_neg hlong] at hlen2 HE0
        have HL2 := Lib.hid hlen2
        obtain ⟨c, hc⟩ : ∃ c, c = UInt8.ofNat m := ⟨_, rfl⟩
        rw [← hc] at HE0
        have hc1 : (m : Int) % 256 = (c.toNat : Int) := by rw [hc]; simp
        have hc2 : IntKind.u8.wrap (m : Int) = (c.toNat : Int) := by rw [IntKind.wrap_u8', hc1]
        have hcv := conv_one c w1
        rw [HW1.out.1] at hcv
        simp only [World.size_alloc] at hcv
        have hz1 : (ByteArray.mk #[108]).size + (str [c]).size ≤ 9223372036854775807 := by rw [str_size, show (ByteArray.mk #[108]).size = 1 from rfl]; simp
        obtain ⟨T0, hT0⟩ : ∃ T, ByteArray.mk #[108] ++ str [c] = T := ⟨_, rfl⟩
        have HT0 := Lib.hid (show T0 = str (108 :: c :: (encL (encA j) (ofVs (l.take 0))).1) by rw [← hT0, show ByteArray.mk #[108] = str [108] from rfl, str_append]; rfl)
        clear hlong hlen2 hc hc1
        go_enter Try.func54, Try.ntmps54
        go_wp2_with fail
        rw [← HW1.out.2, ← HW1.out.1]
        go_loopw [9, 10] (fun x i wr => ∃ u : Nat, u ≤ m ∧ x = .string (str (108 :: c :: (encL (encA j) (ofVs (l.take u))).1)) ∧ Aside ((encL (encA j) (ofVs (l.take u))).2 = 0) ∧ i = .int .i64 (u : Int) ∧ Fr (fun _ => False) w1 wr) (fun _ i _ => m - (intOf i).toNat)
        case atStart => exact ⟨0, Nat.zero_le _, by rw [HT0.out], rfl, rfl, (Fr.refl _ _).alloc _⟩
        case round =>
          obtain ⟨u, hu, rfl, hz0, rfl, hfr⟩ := hrel
          have HF := Lib.hid hfr
          have HZ0 := Lib.hid hz0
          have c4 : wr.cell? ⟨g, 4, none⟩ = some (.slice a m cap) := (cell_of_row wr g 4 _ _ _ (hfr.heap HB.out id)).trans rfl
          obtain ⟨T, hT⟩ : ∃ T, T = str (108 :: c :: (encL (encA j) (ofVs (l.take u))).1) := ⟨_, rfl⟩
          rw [← hT]
          have HTT := Lib.hid hT
          clear hfr hz0 hT
          by_cases hlt : u < m
          · have hul : u < l.length := by rw [← HM.out.1]; exact hlt
            rcases HA.out with h0 | ⟨g2, off, rfl, hD, hr⟩
            · exact absurd hul (by rw [h0]; simp)
            have hi0 : (u : Int) < (m : Int) := by omega
            have HRG := Lib.hid (show wr.rangeAt g2 (off + u * 5) (cs u) from fun i v hi => (HF0.out.trans HF.out (fun i hi => hi.elim)).cell (hr u _ (List.getElem?_eq_getElem hul) i v hi) id)
            obtain ⟨x1, hx1⟩ : ∃ x, l[u]? = some x := ⟨_, List.getElem?_eq_getElem hul⟩
            have hvr := HV.out u x1 hx1
            have HLN := Lib.hid (show (Try.prog.info? 36).map (·.size) = some (cs u).length by rw [hvr.five]; exact info36)
            have hmem : ofV x1 ∈ ofVs l := by rw [ofVs_map]; exact List.mem_map_of_mem (List.mem_of_getElem? hx1)
            have hl1 := lenL_mem (lenK j) (ofVs l) (ofV x1) hmem
            have HC := Lib.hid (HIH.out (d + 1) HJ.out x1 (cs u) D wr (hvr.frF (HF0.out.trans HF.out (fun i hi => hi.elim))) (HFew.out x1 (List.mem_of_getElem? hx1)) (by have := HL2.out; omega))
            have hw1 : IntKind.i64.wrap ((d : Int) + 1) = ((d + 1 : Nat) : Int) := by rw [IntWalk.i64_in _ (by omega)]; omega
            obtain ⟨d1, hd1⟩ : ∃ x, x = d + 1 := ⟨_, rfl⟩
            rw [← hd1] at HC hw1
            obtain ⟨E, hE⟩ : ∃ E, E = encA j (ofV x1) := ⟨_, rfl⟩
            rw [← hE] at HC
            have htk : ofVs (l.take (u + 1)) = ofVs (l.take u) ++ [ofV x1] := by
              have hh := (List.getElem?_eq_some_iff.1 hx1)
              rw [ofVs_map, ofVs_map, List.take_succ_eq_append_getElem hul, List.map_append]
              rw [show l[u] = x1 from hh.2]; rfl
            have hdr : ofVs l = ofVs (l.take u) ++ ofV x1 :: ofVs (l.drop (u + 1)) := by
              have hh := (List.getElem?_eq_some_iff.1 hx1)
              conv => lhs; rw [← List.take_append_drop u l, List.drop_eq_getElem_cons hul, show l[u] = x1 from hh.2]
              rw [ofVs_map, ofVs_map, ofVs_map, List.map_append, List.map_cons]
            have HS1 := Lib.hid (encL_snoc (encA j) (ofVs (l.take u)) (ofV x1) HZ0.out)
            rw [← htk, ← hE] at HS1
            have HBad := Lib.hid (show E.2 ≠ 0 → R = ([], E.2) from fun h9 => by
              have hb := encL_bad (encA j) (ofVs (l.take u)) (ofVs (l.drop (u + 1))) (ofV x1) HZ0.out (by rw [← hE]; exact h9)
              rw [← hdr, ← hE] at hb
              rw [HE0.out, hb, if_neg h9])
            obtain ⟨E1, hE1⟩ : ∃ T, T = str E.1 := ⟨_, rfl⟩
            rw [← hE1] at HC
            obtain ⟨E2, hE2⟩ : ∃ q : Nat, q = E.2 := ⟨_, rfl⟩
            rw [← hE2] at HC HS1 HBad
            have hlu := lenL_take (lenK j) (ofVs l) u
            rw [show (ofVs l).take u = ofVs (l.take u) by rw [ofVs_map, ofVs_map, List.map_take]] at hlu
            have hlu2 := encL_len j (fun a => encA_len j a) (ofVs (l.take u))
            have hl12 := encA_len j (ofV x1)
            have hTs : T.size ≤ 140737488355330 := by rw [HTT.out, str_size]; simp; have := HL2.out; omega
            have hE1s : E1.size ≤ 140737488355328 := by rw [hE1, hE, str_size]; have := HL2.out; omega
            have hz : T.size + E1.size ≤ 9223372036854775807 := by omega
            obtain ⟨T2, hT2⟩ : ∃ q, T ++ E1 = q := ⟨_, rfl⟩
            have HT2 := Lib.hid (show E2 = 0 → T2 = str (108 :: c :: (encL (encA j) (ofVs (l.take (u + 1)))).1) ∧ (encL (encA j) (ofVs (l.take (u + 1)))).2 = 0 from fun h9 => by
              have hs := HS1.out
              rw [if_pos h9] at hs
              refine ⟨?_, by rw [hs]⟩
              rw [← hT2, HTT.out, hE1, str_append, hs]; rfl)
            clear hvr hr hD hul hx1 hmem hl1 hd1 hE htk hdr hE1 hE2 hlu hlu2 hl12 hTs hE1s
            go_wp2_with (with_reducible refine wpList_load_mid (op := ⟨some 87, _, _, _, _, _⟩) rfl 36 _ rfl g2 (off + u * 5) rfl (cs u) _ HRG.out Try.underlying36 rfl HLN.out ?_)
            refine HC.out.mono ?_
            rintro e w2 ⟨rfl, f2⟩
            have HF2 := Lib.hid (HF.out.trans f2 (fun i hi => hi.elim))
            clear f2 HC
            by_cases h9 : E2 = 0
            · subst h9
              have HT3 := Lib.hid (HT2.out rfl)
              clear HT2 HBad
              go_wp2_with fail
              go_roundw
              case rel => exact ⟨u + 1, by omega, by rw [HT3.out.1], HT3.out.2, by go_num, HF2.out⟩
              case measure => simp [intOf]; omega
            · have t9 : ((E2 : Int) == 0) = false := beq_eq_false_iff_ne.2 (by omega)
              have t9' : ((E2 : Int) != 0) = true := by simp; omega
              have t9'' : (E2 == 0) = false := beq_eq_false_iff_ne.2 h9
              have HR := Lib.hid (HBad.out h9)
              clear HT2 HBad h9
              go_wp2_with fail
              go_ret2
              exact ⟨by rw [HR.out]; rfl, HF0.out.trans HF2.out (fun i hi => hi.elim)⟩
          · obtain rfl : u = m := by omega
            have hge : ¬ (u : Int) < (u : Int) := by omega
            have HFin := Lib.hid (show str R.1 = T ∧ R.2 = 0 by
              have h1 : (encL (encA j) (ofVs (l.take u))).2 = 0 := HZ0.out
              have h2 := HTT.out
              rw [show l.take u = l by rw [HM.out.1]; exact List.take_of_length_le (Nat.le_refl _)] at h1 h2
              rw [HE0.out, if_pos h1]
              exact ⟨h2.symm, rfl⟩)
            clear hlt
            go_wp2_with fail
            go_ret2
            exact ⟨by rw [HFin.out.1, HFin.out.2]; rfl, HF0.out.trans HF.out (fun i hi => hi.elim)⟩
      · exact told_leaf (j + 1) d k n s b l a cap w hf2.1.1.1 h4
end Go.Proofs.Ythmpmpepokeedaa
