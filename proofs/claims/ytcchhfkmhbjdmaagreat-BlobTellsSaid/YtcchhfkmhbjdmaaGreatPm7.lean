/- The document's cipher: New. -/
import Derived.Laws.IdiomCopy
import Derived.Laws.AppendOwn
import Derived.Test.YtcchhfkmhbjdmaaGreatPm1
import Derived.Test.YtcchhfkmhbjdmaaGreatPm3
import Derived.Test.YtcchhfkmhbjdmaaGreatPm4
import Derived.Test.YtcchhfkmhbjdmaaGreatPm2
/-! Kr -/
set_option linter.unusedVariables false
set_option linter.unusedSimpArgs false
namespace Go.Proofs.YtcchhfkmhbjdmaaGreat
def sel (c : Bool) (x : Nat) : Nat := if c then x else 0
theorem sel_left (c d : Bool) (x : Nat) : sel (c ^^ d) x = sel c x ^^^ sel d x := by cases c <;> cases d <;> simp [sel]
theorem sel_right (c : Bool) (x y : Nat) : sel c (x ^^^ y) = sel c x ^^^ sel c y := by cases c <;> simp [sel]
def pN (a b : Nat) : Nat → Nat
  | 0 => 0
  | i + 1 => pN a b i ^^^ sel (b.testBit i) (a <<< i)
def rN (p : Nat) : Nat → Nat
  | 0 => p
  | j + 1 => rN p j ^^^ sel ((rN p j).testBit (14 - j)) (283 <<< (6 - j))
theorem pN_left (a a' b : Nat) : ∀ i, pN (a ^^^ a') b i = pN a b i ^^^ pN a' b i
  | 0 => by first | rfl | simp [pN]
  | i + 1 => by
    simp only [pN]
    rw [pN_left a a' b i, Nat.shiftLeft_xor_distrib, sel_right]
    ac_rfl
theorem pN_right (a b b' : Nat) : ∀ i, pN a (b ^^^ b') i = pN a b i ^^^ pN a b' i
  | 0 => by first | rfl | simp [pN]
  | i + 1 => by
    simp only [pN]
    rw [pN_right a b b' i, Nat.testBit_xor, sel_left]
    ac_rfl
theorem rN_xor (p p' : Nat) : ∀ j, rN (p ^^^ p') j = rN p j ^^^ rN p' j
  | 0 => by first | rfl | simp [pN]
  | j + 1 => by
    simp only [rN]
    rw [rN_xor p p' j, Nat.testBit_xor, sel_left]
    ac_rfl
theorem pN_zero (b : Nat) : ∀ i, pN 0 b i = 0
  | 0 => by first | rfl | simp [pN]
  | i + 1 => by simp [pN, pN_zero b i, sel]
theorem pN_zero' (a : Nat) : ∀ i, pN a 0 i = 0
  | 0 => by first | rfl | simp [pN]
  | i + 1 => by simp [pN, pN_zero' a i, sel]
theorem rN_zero : ∀ j, rN 0 j = 0
  | 0 => by first | rfl | simp [pN]
  | j + 1 => by simp [rN, rN_zero j, sel]
theorem sel_lt (c : Bool) (x n : Nat) (h : x < 2 ^ n) : sel c x < 2 ^ n := by
  unfold sel; split
  · exact h
  · exact Nat.two_pow_pos n
theorem pN_lt (a b : Nat) (ha : a < 256) : ∀ i, i ≤ 8 → pN a b i < 2 ^ 16
  | 0, _ => by simp [pN]
  | i + 1, h => by
    refine Nat.xor_lt_two_pow (pN_lt a b ha i (by omega)) (sel_lt _ _ _ ?_)
    rw [Nat.shiftLeft_eq]
    calc a * 2 ^ i < 256 * 2 ^ i := Nat.mul_lt_mul_of_pos_right ha (Nat.two_pow_pos i)
      _ ≤ 256 * 2 ^ 8 := Nat.mul_le_mul_left _ (Nat.pow_le_pow_right (by omega) (by omega))
theorem rN_lt (p : Nat) (hp : p < 2 ^ 16) : ∀ j, rN p j < 2 ^ 16
  | 0 => hp
  | j + 1 => by
    refine Nat.xor_lt_two_pow (rN_lt p hp j) (sel_lt _ _ _ ?_)
    rw [Nat.shiftLeft_eq]
    calc 283 * 2 ^ (6 - j) ≤ 283 * 2 ^ 6 := Nat.mul_le_mul_left _ (Nat.pow_le_pow_right (by omega) (by omega))
      _ < 2 ^ 16 := by omega
def refmul (a b : UInt8) : UInt8 := UInt8.ofNat (rN (pN a.toNat b.toNat 8) 7)
theorem ofNat_xor (x y : Nat) : UInt8.ofNat (x ^^^ y) = UInt8.ofNat x ^^^ UInt8.ofNat y := by
  apply UInt8.toNat_inj.mp
  rw [UInt8.toNat_xor]
  simp only [UInt8.toNat_ofNat']
  exact Nat.xor_mod_two_pow
theorem refmul_left (a a' b : UInt8) : refmul (a ^^^ a') b = refmul a b ^^^ refmul a' b := by
  unfold refmul
  rw [UInt8.toNat_xor, pN_left, rN_xor, ofNat_xor]
theorem refmul_right (a b b' : UInt8) : refmul a (b ^^^ b') = refmul a b ^^^ refmul a b' := by
  unfold refmul
  rw [UInt8.toNat_xor, pN_right, rN_xor, ofNat_xor]
theorem refmul_eq (a b : UInt8) : refmul a b = mul a b := by
  refine u8_span (fun a => refmul a b = mul a b) ?_ (fun x y h k => by rw [refmul_left, mul_left, h, k]) (fun i => ?_) a
  · rw [zero_mul]
    show UInt8.ofNat (rN (pN 0 b.toNat 8) 7) = 0
    rw [pN_zero, rN_zero]; rfl
  refine u8_span (fun b => refmul (1 <<< UInt8.ofNat i.val) b = mul (1 <<< UInt8.ofNat i.val) b) ?_ (fun x y h k => by rw [refmul_right, mul_right, h, k]) (fun j => ?_) b
  · rw [mul_zero]
    show UInt8.ofNat (rN (pN _ 0 8) 7) = 0
    rw [pN_zero', rN_zero]; rfl
  revert i j
  decide +kernel
end Go.Proofs.YtcchhfkmhbjdmaaGreat
/-! Ks -/
set_option linter.unusedVariables false
set_option linter.unusedSimpArgs false
set_option pp.deepTerms true
set_option pp.maxSteps 100000
namespace Go.Proofs.YtcchhfkmhbjdmaaGreat
open Go.RowKit
theorem ofInt_i64' (a : Nat) (ha : a < 65536) : (BitVec.ofInt 64 (a : Int)).toNat = a := by
  rw [BitVec.ofInt_natCast, BitVec.toNat_ofNat]; exact Nat.mod_eq_of_lt (by omega)
theorem xor_i64 (a b : Nat) (ha : a < 65536) (hb : b < 65536) : bits .xor .i64 (a : Int) (b : Int) = ((a ^^^ b : Nat) : Int) := by
  have hx : a ^^^ b < 2 ^ 16 := Nat.xor_lt_two_pow (by omega) (by omega)
  show IntKind.i64.wrap ((BitVec.ofInt 64 (a : Int) ^^^ BitVec.ofInt 64 (b : Int)).toNat : Int) = _
  rw [BitVec.toNat_xor, ofInt_i64' a ha, ofInt_i64' b hb, IntKind.wrap_i64]
  omega
theorem tb_div (b i : Nat) : b.testBit i = (((b : Int) / 2 ^ i).tmod 2 == 1) := by
  have h : (((b : Int) / 2 ^ i).tmod 2) = ((b / 2 ^ i % 2 : Nat) : Int) := by
    rw [Int.tmod_eq_emod_of_nonneg (Int.ediv_nonneg (by omega) (Int.pow_nonneg (by omega)))]
    norm_cast
  rw [Nat.testBit_eq_decide_div_mod_eq, h, Bool.eq_iff_iff, decide_eq_true_eq, beq_iff_eq]
  omega
theorem shl_x (p a i : Nat) (hp : p < 65536) (ha : a < 65536) (hs : a <<< i < 65536) : bits .xor .i64 (p : Int) (wrap64 ((a : Int) * 2 ^ i)) = ((p ^^^ a <<< i : Nat) : Int) := by
  have e : (a : Int) * 2 ^ i = ((a <<< i : Nat) : Int) := by rw [Nat.shiftLeft_eq]; norm_cast
  have aux : ∀ n : Nat, n < 65536 → bits .xor .i64 (p : Int) (wrap64 (n : Int)) = ((p ^^^ n : Nat) : Int) := fun n hn => by
    rw [show wrap64 (n : Int) = (n : Int) by unfold wrap64; omega, xor_i64 _ _ hp hn]
  rw [e]
  exact aux _ hs
theorem rN_step (P m : Nat) (h8 : 8 ≤ m) (h14 : m ≤ 14) : rN P (14 - (m - 1)) = rN P (14 - m) ^^^ sel ((rN P (14 - m)).testBit m) (283 <<< (m - 8)) := by
  have e : 14 - (m - 1) = (14 - m) + 1 := by omega
  rw [e]
  simp only [rN]
  rw [show 14 - (14 - m) = m by omega, show 6 - (14 - m) = m - 8 by omega]
theorem shl_lt (a i : Nat) (ha : a < 256) (hi : i < 8) : a <<< i < 65536 := by
  rw [Nat.shiftLeft_eq]
  calc a * 2 ^ i < 256 * 2 ^ i := Nat.mul_lt_mul_of_pos_right ha (Nat.two_pow_pos i)
    _ ≤ 256 * 2 ^ 8 := Nat.mul_le_mul_left _ (Nat.pow_le_pow_right (by omega) (by omega))
theorem shl_lt2 (i : Nat) (hi : i ≤ 6) : 283 <<< i < 65536 := by
  rw [Nat.shiftLeft_eq]
  calc 283 * 2 ^ i ≤ 283 * 2 ^ 6 := Nat.mul_le_mul_left _ (Nat.pow_le_pow_right (by omega) hi)
    _ < 65536 := by omega
set_option maxRecDepth 20000 in
set_option maxHeartbeats 4000000 in
theorem refmul_calls (a b : UInt8) (w : World) : Calls Tryz.prog 84 #[.int .u8 (a.toNat : Int), .int .u8 (b.toNat : Int)] w fun e w' => e = .returned (.int .u8 ((mul a b).toNat : Int)) ∧ w = w' := by
  have ha := a.toNat_lt
  have hb := b.toNat_lt
  go_enter Tryz.func84, Tryz.ntmps84
  go_wp2
  go_loop [5, 6] (fun vp vi => ∃ i : Nat, i ≤ 8 ∧ vi = .int .i64 i ∧ vp = .int .i64 (pN a.toNat b.toNat i : Nat)) (fun _ vi => 8 - (intOf vi).toNat)
  case atStart => exact ⟨0, Nat.zero_le _, rfl, rfl⟩
  case round =>
    obtain ⟨i, hi, rfl, rfl⟩ := hrel
    have hpl := pN_lt a.toNat b.toNat ha i hi
    by_cases hlt : i < 8
    · have hw1 : IntKind.u64.wrap (i : Int) = (i : Int) := by rw [IntKind.wrap_u64]; omega
      have hx := shl_x (pN a.toNat b.toNat i) a.toNat i hpl (by omega) (shl_lt _ _ ha hlt)
      have HX := Lib.hid hx
      clear hx
      cases ht : b.toNat.testBit i
      · have HN := Lib.hid (show pN a.toNat b.toNat (i + 1) = pN a.toNat b.toNat i by simp [pN, ht, sel])
        have ht2 := (tb_div b.toNat i).symm.trans ht
        clear ht
        generalize pN a.toNat b.toNat i = p at HN HX hpl ⊢
        go_wp2
        go_round
        case rel => exact ⟨i + 1, by omega, by go_num, by rw [HN.out]⟩
        case measure => simp [intOf]; omega
      · have HN := Lib.hid (show pN a.toNat b.toNat (i + 1) = pN a.toNat b.toNat i ^^^ a.toNat <<< i by simp [pN, ht, sel])
        have ht2 := (tb_div b.toNat i).symm.trans ht
        clear ht
        generalize pN a.toNat b.toNat i = p at HN HX hpl ⊢
        go_wp2
        go_round
        case rel => exact ⟨i + 1, by omega, by go_num, by rw [HN.out, HX.out]⟩
        case measure => simp [intOf]; omega
    · have h8 : i = 8 := by omega
      have HM := Lib.hid (show UInt8.ofNat (rN (pN a.toNat b.toNat i) 7) = mul a b by rw [h8]; exact refmul_eq a b)
      clear h8
      generalize pN a.toNat b.toNat i = P at HM hpl ⊢
      go_wp2
      go_loop [5, 7] (fun vp vi => ∃ m : Nat, 7 ≤ m ∧ m ≤ 14 ∧ vi = .int .i64 m ∧ vp = .int .i64 (rN P (14 - m) : Nat)) (fun _ vi => (intOf vi).toNat)
      case atStart => exact ⟨14, by omega, by omega, rfl, rfl⟩
      case round =>
        obtain ⟨m, hm7, hm14, rfl, rfl⟩ := hrel
        have hrl := rN_lt P hpl (14 - m)
        by_cases hlt2 : 8 ≤ m
        · have hw1 : IntKind.u64.wrap (m : Int) = (m : Int) := by rw [IntKind.wrap_u64]; omega
          have HS := Lib.hid (rN_step P m hlt2 hm14)
          have HX := Lib.hid (shl_x (rN P (14 - m)) 283 (m - 8) hrl (by omega) (shl_lt2 _ (by omega)))
          obtain ⟨k, hk⟩ : ∃ k, k = m - 8 := ⟨_, rfl⟩
          have hw2 : IntKind.u64.wrap ((m : Int) - 8) = (k : Int) := by rw [IntKind.wrap_u64]; omega
          rw [← hk] at HX HS
          have HK := Lib.hid hk
          clear hk
          cases ht : (rN P (14 - m)).testBit m
          · have ht2 := (tb_div (rN P (14 - m)) m).symm.trans ht
            rw [ht] at HS
            clear ht
            generalize rN P (14 - m) = p at HS HX hrl ht2 ⊢
            go_wp2
            go_round
            case rel => exact ⟨m - 1, by omega, by omega, by congr 1; omega, by rw [HS.out]; simp [sel]⟩
            case measure => simp [intOf]; omega
          · have ht2 := (tb_div (rN P (14 - m)) m).symm.trans ht
            rw [ht] at HS
            clear ht
            generalize rN P (14 - m) = p at HS HX hrl ht2 ⊢
            go_wp2
            go_round
            case rel => exact ⟨m - 1, by omega, by omega, by congr 1; omega, by rw [HS.out]; simp only [sel, if_true]; rw [← HX.out, Nat.min_eq_left (by have := HK.out; omega)]; rfl⟩
            case measure => simp [intOf]; omega
        · have h7 : m = 7 := by omega
          have HE := Lib.hid (show rN P (14 - m) = rN P 7 by rw [h7])
          clear h7
          go_wp2
          go_ret
          refine ⟨?_, rfl⟩
          rw [← HM.out, HE.out]
          simp
end Go.Proofs.YtcchhfkmhbjdmaaGreat
/-! Ph0 -/
set_option linter.unusedVariables false
set_option linter.unusedSimpArgs false
set_option pp.deepTerms true
set_option pp.maxSteps 100000
namespace Go.Proofs.YtcchhfkmhbjdmaaGreat
open Go.RowKit
/-- The power and the square, behind so many rounds. -/
def bxT (b : UInt8) : Nat → UInt8 × UInt8
  | 0 => (b, 1)
  | n + 1 => (mul (bxT b n).1 (bxT b n).1, mul (bxT b n).2 (mul (bxT b n).1 (bxT b n).1))
def bxV (c : UInt8) (n : Nat) : UInt8 := (c >>> UInt8.ofNat n) ^^^ (c >>> UInt8.ofNat ((n + 4) % 8)) ^^^ (c >>> UInt8.ofNat ((n + 5) % 8)) ^^^ (c >>> UInt8.ofNat ((n + 6) % 8)) ^^^ (c >>> UInt8.ofNat ((n + 7) % 8)) ^^^ ((99 : UInt8) >>> UInt8.ofNat n)
def bxO (c : UInt8) : Nat → UInt8
  | 0 => 0
  | n + 1 => bxO c n ||| ((bxV c n % 2) <<< UInt8.ofNat n)
theorem bx_box (b : UInt8) : bxO (bxT b 7).2 8 = box b := by
  have := u8_all (fun b => bxO (bxT b 7).2 8 == box b) (by decide +kernel) b
  simpa using this
theorem sh8r (c : UInt8) (k : Nat) (hk : k < 8) : (c.toNat : Int) / 2 ^ k = ((c >>> UInt8.ofNat k).toNat : Int) := by
  have e : (UInt8.ofNat k).toNat = k := by simp; omega
  rw [UInt8.toNat_shiftRight, e, Nat.mod_eq_of_lt hk, Nat.shiftRight_eq_div_pow, Int.natCast_ediv]; norm_cast
theorem sh8l (c : UInt8) (k : Nat) (hk : k < 8) : ((c.toNat : Int) * 2 ^ k) % 256 = ((c <<< UInt8.ofNat k).toNat : Int) := by
  have e : (UInt8.ofNat k).toNat = k := by simp; omega
  have h : (c <<< UInt8.ofNat k).toNat = c.toNat * 2 ^ k % 256 := by rw [UInt8.toNat_shiftLeft, e, Nat.mod_eq_of_lt hk, Nat.shiftLeft_eq]
  obtain ⟨m, hm⟩ : ∃ m, m = c.toNat * 2 ^ k := ⟨_, rfl⟩
  have h2 : (c.toNat : Int) * 2 ^ k = (m : Int) := by rw [hm, Int.natCast_mul, Int.natCast_pow]; rfl
  rw [h, h2, ← hm]; omega
theorem two8 (v : UInt8) : (v.toNat : Int).tmod 2 = ((v % 2).toNat : Int) ∧ (v.toNat : Int) % 2 = ((v % 2).toNat : Int) := by
  have h : (v % 2).toNat = v.toNat % 2 := by rw [UInt8.toNat_mod]; rfl
  rw [h]
  constructor
  · rw [Int.tmod_eq_emod_of_nonneg (Int.natCast_nonneg _)]; omega
  · omega
theorem wu64 (n : Nat) (h : n < 1000) : IntKind.u64.wrap (n : Int) = (n : Int) := by rw [wrap_u64']; omega
theorem refmul_own (a b : UInt8) (w : World) : Calls Tryz.prog 84 #[.int .u8 (a.toNat : Int), .int .u8 (b.toNat : Int)] w fun e w' => e = .returned (.int .u8 ((mul a b).toNat : Int)) ∧ Fr (fun _ => False) w w' :=
  (refmul_calls a b w).mono fun e w' ⟨h1, h2⟩ => ⟨h1, by rw [h2]; exact Fr.refl _ _⟩
set_option maxRecDepth 20000 in
set_option maxHeartbeats 4000000 in
theorem box_own (b : UInt8) (w : World) : Calls Tryz.prog 83 #[.int .u8 (b.toNat : Int)] w fun e w' => e = .returned (.int .u8 ((box b).toNat : Int)) ∧ Fr (fun _ => False) w w' := by
  go_enter Tryz.func83, Tryz.ntmps83
  go_wp2_with fail
  go_loopw [3, 4, 5] (fun v3 v4 v5 wr => ∃ i : Nat, i ≤ 7 ∧ v5 = .int .i64 i ∧ v4 = .int .u8 ((bxT b i).1.toNat : Int) ∧ v3 = .int .u8 ((bxT b i).2.toNat : Int) ∧ Fr (fun _ => False) w wr) (fun _ _ v _ => 7 - (intOf v).toNat)
  case atStart => exact ⟨0, Nat.zero_le _, rfl, rfl, rfl, Fr.refl _ _⟩
  case round =>
    obtain ⟨i, hi, rfl, rfl, rfl, hf⟩ := hrel
    have HFr := Lib.hid hf
    clear hf
    by_cases hlt : i < 7
    · have hx : (i : Int) < 7 := by omega
      obtain ⟨t, ht⟩ : ∃ t, t = (bxT b i).1 := ⟨_, rfl⟩
      obtain ⟨c, hc⟩ : ∃ t, t = (bxT b i).2 := ⟨_, rfl⟩
      obtain ⟨t2, ht2⟩ : ∃ t, t = (bxT b (i + 1)).1 := ⟨_, rfl⟩
      obtain ⟨c2, hc2⟩ : ∃ t, t = (bxT b (i + 1)).2 := ⟨_, rfl⟩
      have H1 := Lib.hid (show ∀ w, Calls Tryz.prog 84 #[.int .u8 (t.toNat : Int), .int .u8 (t.toNat : Int)] w fun e w' => e = .returned (.int .u8 (t2.toNat : Int)) ∧ Fr (fun _ => False) w w' from fun w => by rw [ht2, ht]; exact refmul_own _ _ w)
      have H2 := Lib.hid (show ∀ w, Calls Tryz.prog 84 #[.int .u8 (c.toNat : Int), .int .u8 (t2.toNat : Int)] w fun e w' => e = .returned (.int .u8 (c2.toNat : Int)) ∧ Fr (fun _ => False) w w' from fun w => by rw [hc2, ht2, hc]; exact refmul_own _ _ w)
      have HT := Lib.hid ht2
      have HC := Lib.hid hc2
      rw [← ht, ← hc]
      clear ht hc ht2 hc2
      go_wp2_with fail
      refine (H1.out wr).mono ?_
      rintro e w1 ⟨rfl, f1⟩
      have G1 := Lib.hid (HFr.out.trans f1 (fun i hi => hi.elim))
      clear f1
      go_wp2_with fail
      refine (H2.out w1).mono ?_
      rintro e w2 ⟨rfl, f2⟩
      have G2 := Lib.hid (G1.out.trans f2 (fun i hi => hi.elim))
      clear f2
      go_wp2_with fail
      go_roundw
      case rel => exact ⟨i + 1, by omega, by go_num, by rw [HT.out], by rw [HC.out], G2.out⟩
      case measure => simp [intOf]; omega
    · have h7 : i = 7 := by omega
      obtain ⟨t, ht⟩ : ∃ t, t = (bxT b i).1 := ⟨_, rfl⟩
      obtain ⟨c, hc⟩ : ∃ t, t = (bxT b i).2 := ⟨_, rfl⟩
      have HB := Lib.hid (show bxO c 8 = box b by rw [hc, h7]; exact bx_box b)
      rw [← ht, ← hc]
      clear h7 ht hc
      have hx : ¬ (i : Int) < 7 := by omega
      go_wp2_with fail
      clear hx
      go_loopw [6, 7] (fun v6 v7 wr => ∃ k : Nat, k ≤ 8 ∧ v7 = .int .u64 k ∧ v6 = .int .u8 ((bxO c k).toNat : Int) ∧ Fr (fun _ => False) w wr) (fun _ v _ => 8 - (intOf v).toNat)
      case atStart => exact ⟨0, Nat.zero_le _, rfl, rfl, HFr.out⟩
      case round =>
        obtain ⟨k, hk, rfl, rfl, hf⟩ := hrel
        have HFk := Lib.hid hf
        clear hf
        by_cases hlt2 : k < 8
        · have hx : (k : Int) < 8 := by omega
          obtain ⟨o, ho⟩ : ∃ o, o = bxO c k := ⟨_, rfl⟩
          obtain ⟨o2, ho2⟩ : ∃ o, o = bxO c (k + 1) := ⟨_, rfl⟩
          obtain ⟨k1, hk1⟩ : ∃ j, j = k + 1 := ⟨_, rfl⟩
          obtain ⟨x0, hx0⟩ : ∃ x, x = c >>> UInt8.ofNat k := ⟨_, rfl⟩
          obtain ⟨x9, hx9⟩ : ∃ x, x = (99 : UInt8) >>> UInt8.ofNat k := ⟨_, rfl⟩
          have g0 : (c.toNat : Int) / 2 ^ k = (x0.toNat : Int) := by rw [hx0]; exact sh8r c k hlt2
          have g9 : (99 : Int) / 2 ^ k = (x9.toNat : Int) := by rw [hx9]; exact sh8r 99 k hlt2
          have gk0 : (0 : Int) ≤ (k : Int) := by omega
          have gk1 : k ≤ 8 := by omega
          have gk2 : (k : Int) ≤ 8 := by omega
          have gw1 : IntKind.u64.wrap ((k : Int) + 1) = (k1 : Int) := by rw [show (k : Int) + 1 = (k1 : Int) by omega]; exact wu64 _ (by omega)
          have gw2 : ((k : Int) + 1) % 18446744073709551616 = (k1 : Int) := by omega
          obtain ⟨s4, hs4⟩ : ∃ j, j = k + 4 := ⟨_, rfl⟩
          obtain ⟨k4, hk4⟩ : ∃ j, j = (k + 4) % 8 := ⟨_, rfl⟩
          obtain ⟨x4, hx4⟩ : ∃ x, x = c >>> UInt8.ofNat ((k + 4) % 8) := ⟨_, rfl⟩
          have w4 : IntKind.u64.wrap ((k : Int) + 4) = (s4 : Int) := by rw [show (k : Int) + 4 = (s4 : Int) by omega]; exact wu64 _ (by omega)
          have w4' : ((k : Int) + 4) % 18446744073709551616 = (s4 : Int) := by omega
          have m4 : (s4 : Int).tmod 8 = (k4 : Int) := by rw [Int.tmod_eq_emod_of_nonneg (by omega)]; omega
          have m4' : (s4 : Int) % 8 = (k4 : Int) := by omega
          have v4 : IntKind.u64.wrap (k4 : Int) = (k4 : Int) := wu64 _ (by omega)
          have l4 : (0 : Int) ≤ (k4 : Int) := by omega
          have l4' : k4 ≤ 8 := by omega
          have l4'' : (k4 : Int) ≤ 8 := by omega
          have g4 : (c.toNat : Int) / 2 ^ k4 = (x4.toNat : Int) := by rw [hx4, hk4]; exact sh8r c _ (by omega)
          have b40 := x4.toNat_lt
          clear hs4 hk4
          obtain ⟨s5, hs5⟩ : ∃ j, j = k + 5 := ⟨_, rfl⟩
          obtain ⟨k5, hk5⟩ : ∃ j, j = (k + 5) % 8 := ⟨_, rfl⟩
          obtain ⟨x5, hx5⟩ : ∃ x, x = c >>> UInt8.ofNat ((k + 5) % 8) := ⟨_, rfl⟩
          have w5 : IntKind.u64.wrap ((k : Int) + 5) = (s5 : Int) := by rw [show (k : Int) + 5 = (s5 : Int) by omega]; exact wu64 _ (by omega)
          have w5' : ((k : Int) + 5) % 18446744073709551616 = (s5 : Int) := by omega
          have m5 : (s5 : Int).tmod 8 = (k5 : Int) := by rw [Int.tmod_eq_emod_of_nonneg (by omega)]; omega
          have m5' : (s5 : Int) % 8 = (k5 : Int) := by omega
          have v5 : IntKind.u64.wrap (k5 : Int) = (k5 : Int) := wu64 _ (by omega)
          have l5 : (0 : Int) ≤ (k5 : Int) := by omega
          have l5' : k5 ≤ 8 := by omega
          have l5'' : (k5 : Int) ≤ 8 := by omega
          have g5 : (c.toNat : Int) / 2 ^ k5 = (x5.toNat : Int) := by rw [hx5, hk5]; exact sh8r c _ (by omega)
          have b50 := x5.toNat_lt
          clear hs5 hk5
          obtain ⟨s6, hs6⟩ : ∃ j, j = k + 6 := ⟨_, rfl⟩
          obtain ⟨k6, hk6⟩ : ∃ j, j = (k + 6) % 8 := ⟨_, rfl⟩
          obtain ⟨x6, hx6⟩ : ∃ x, x = c >>> UInt8.ofNat ((k + 6) % 8) := ⟨_, rfl⟩
          have w6 : IntKind.u64.wrap ((k : Int) + 6) = (s6 : Int) := by rw [show (k : Int) + 6 = (s6 : Int) by omega]; exact wu64 _ (by omega)
          have w6' : ((k : Int) + 6) % 18446744073709551616 = (s6 : Int) := by omega
          have m6 : (s6 : Int).tmod 8 = (k6 : Int) := by rw [Int.tmod_eq_emod_of_nonneg (by omega)]; omega
          have m6' : (s6 : Int) % 8 = (k6 : Int) := by omega
          have v6 : IntKind.u64.wrap (k6 : Int) = (k6 : Int) := wu64 _ (by omega)
          have l6 : (0 : Int) ≤ (k6 : Int) := by omega
          have l6' : k6 ≤ 8 := by omega
          have l6'' : (k6 : Int) ≤ 8 := by omega
          have g6 : (c.toNat : Int) / 2 ^ k6 = (x6.toNat : Int) := by rw [hx6, hk6]; exact sh8r c _ (by omega)
          have b60 := x6.toNat_lt
          clear hs6 hk6
          obtain ⟨s7, hs7⟩ : ∃ j, j = k + 7 := ⟨_, rfl⟩
          obtain ⟨k7, hk7⟩ : ∃ j, j = (k + 7) % 8 := ⟨_, rfl⟩
          obtain ⟨x7, hx7⟩ : ∃ x, x = c >>> UInt8.ofNat ((k + 7) % 8) := ⟨_, rfl⟩
          have w7 : IntKind.u64.wrap ((k : Int) + 7) = (s7 : Int) := by rw [show (k : Int) + 7 = (s7 : Int) by omega]; exact wu64 _ (by omega)
          have w7' : ((k : Int) + 7) % 18446744073709551616 = (s7 : Int) := by omega
          have m7 : (s7 : Int).tmod 8 = (k7 : Int) := by rw [Int.tmod_eq_emod_of_nonneg (by omega)]; omega
          have m7' : (s7 : Int) % 8 = (k7 : Int) := by omega
          have v7 : IntKind.u64.wrap (k7 : Int) = (k7 : Int) := wu64 _ (by omega)
          have l7 : (0 : Int) ≤ (k7 : Int) := by omega
          have l7' : k7 ≤ 8 := by omega
          have l7'' : (k7 : Int) ≤ 8 := by omega
          have g7 : (c.toNat : Int) / 2 ^ k7 = (x7.toNat : Int) := by rw [hx7, hk7]; exact sh8r c _ (by omega)
          have b70 := x7.toNat_lt
          clear hs7 hk7
          obtain ⟨y1, hy1⟩ : ∃ y, y = x0 ^^^ x4 := ⟨_, rfl⟩
          obtain ⟨y2, hy2⟩ : ∃ y, y = y1 ^^^ x5 := ⟨_, rfl⟩
          obtain ⟨y3, hy3⟩ : ∃ y, y = y2 ^^^ x6 := ⟨_, rfl⟩
          obtain ⟨y4, hy4⟩ : ∃ y, y = y3 ^^^ x7 := ⟨_, rfl⟩
          obtain ⟨y5, hy5⟩ : ∃ y, y = y4 ^^^ x9 := ⟨_, rfl⟩
          obtain ⟨r, hr⟩ : ∃ y, y = y5 % 2 := ⟨_, rfl⟩
          obtain ⟨s, hs⟩ : ∃ y, y = r <<< UInt8.ofNat k := ⟨_, rfl⟩
          have e1 : bits .xor .u8 (x0.toNat : Int) (x4.toNat : Int) = (y1.toNat : Int) := by rw [hy1]; exact xor_u8 _ _
          have e2 : bits .xor .u8 (y1.toNat : Int) (x5.toNat : Int) = (y2.toNat : Int) := by rw [hy2]; exact xor_u8 _ _
          have e3 : bits .xor .u8 (y2.toNat : Int) (x6.toNat : Int) = (y3.toNat : Int) := by rw [hy3]; exact xor_u8 _ _
          have e4 : bits .xor .u8 (y3.toNat : Int) (x7.toNat : Int) = (y4.toNat : Int) := by rw [hy4]; exact xor_u8 _ _
          have e5 : bits .xor .u8 (y4.toNat : Int) (x9.toNat : Int) = (y5.toNat : Int) := by rw [hy5]; exact xor_u8 _ _
          have e6 : (y5.toNat : Int).tmod 2 = (r.toNat : Int) := by rw [hr]; exact (two8 _).1
          have e7 : (y5.toNat : Int) % 2 = (r.toNat : Int) := by rw [hr]; exact (two8 _).2
          have e8 : ((r.toNat : Int) * 2 ^ k) % 256 = (s.toNat : Int) := by rw [hs]; exact sh8l r k hlt2
          have e9 : IntKind.u8.wrap ((r.toNat : Int) * 2 ^ k) = (s.toNat : Int) := by rw [IntKind.wrap_u8']; exact e8
          have e10 : bits .or .u8 (o.toNat : Int) (s.toNat : Int) = (o2.toNat : Int) := by
            rw [ho2, bxO, ← ho]
            have : bxV c k = y5 := by rw [hy5, hy4, hy3, hy2, hy1, hx0, hx4, hx5, hx6, hx7, hx9]; rfl
            rw [this, ← hr, ← hs]; exact or_u8 _ _
          have br : IntKind.u8.wrap (r.toNat : Int) = (r.toNat : Int) := by rw [IntKind.wrap_u8']; have := r.toNat_lt; omega
          have b0 := x0.toNat_lt
          have b9 := x9.toNat_lt
          have bo := o.toNat_lt
          have bo2 := o2.toNat_lt
          have br2 := r.toNat_lt
          have bs := s.toNat_lt
          have b5 := y5.toNat_lt
          have HO2 := Lib.hid ho2
          have HK1 := Lib.hid hk1
          rw [← ho]
          clear ho ho2 hk1 hx0 hx9 hx4 hx5 hx6 hx7 hy1 hy2 hy3 hy4 hy5 hr hs
          go_wp2_with fail
          go_roundw
          case rel => exact ⟨k + 1, by omega, by rw [HK1.out], by rw [HO2.out], HFk.out⟩
          case measure => have := HK1.out; simp [intOf]; omega
        · have h8 : k = 8 := by omega
          have HO := Lib.hid (show (box b).toNat = (bxO c k).toNat by rw [← HB.out, h8])
          obtain ⟨o, ho⟩ : ∃ o, o = bxO c k := ⟨_, rfl⟩
          rw [← ho]
          have HOo := Lib.hid ho
          have hx : ¬ (k : Int) < 8 := by omega
          clear h8 ho
          go_wp2_with fail
          go_ret
          exact ⟨by rw [HO.out, ← HOo.out]; rfl, HFk.out⟩
end Go.Proofs.YtcchhfkmhbjdmaaGreat
/-! Ph1 -/
set_option linter.unusedVariables false
set_option linter.unusedSimpArgs false
set_option pp.deepTerms true
set_option pp.maxSteps 100000
namespace Go.Proofs.YtcchhfkmhbjdmaaGreat
open Go.RowKit
def bxR (n : Nat) : List UInt8 := (List.range n).map fun j => box (UInt8.ofNat j)
theorem bxR_succ (n : Nat) : bxR (n + 1) = bxR n ++ [box (UInt8.ofNat n)] := by simp [bxR, List.range_succ]
/-- The boxes' row. -/
def Tab (w : World) (X : Nat) : Prop := ∀ b : UInt8, w.cell? ⟨X, b.toNat, none⟩ = some (.int .u8 ((box b).toNat : Int))
theorem Tab.fr {F : Nat → Prop} {w w' : World} {X : Nat} (h : Tab w X) (hf : Fr F w w') (hn : ¬ F X) : Tab w' X := fun b => hf.cell (h b) hn
theorem refbox_calls (b : UInt8) (w : World) : Calls Tryz.prog 83 #[.int .u8 (b.toNat : Int)] w fun e w' => e = .returned (.int .u8 ((box b).toNat : Int)) ∧ Fr (fun _ => False) w w' := box_own b w
set_option maxRecDepth 20000 in
set_option maxHeartbeats 4000000 in
theorem refboxes_calls (w : World) : Calls Tryz.prog 58 #[] w fun e w' => ∃ X cap, e = .returned (.slice (some ⟨X, 0, none⟩) 256 cap) ∧ Tab w' X ∧ w.heap.size ≤ X ∧ 256 ≤ cap ∧ Fr (fun _ => False) w w' := by
  go_enter Tryz.func58, Tryz.ntmps58
  go_wp2_with fail
  go_loopw [1, 2] (fun v1 v2 wr => ∃ i : Nat, i ≤ 256 ∧ v2 = .int .i64 i ∧ wr.ownsRow w.heap.size 5 1 v1 i (bcells (bxR i)) ∧ Fr (fun _ => False) w wr) (fun _ v _ => 256 - (intOf v).toNat)
  case atStart => exact ⟨0, Nat.zero_le _, rfl, ⟨rfl, .inl ⟨rfl, rfl⟩⟩, Fr.refl _ _⟩
  case round =>
    obtain ⟨i, hi, rfl, ho, hf⟩ := hrel
    have HO := Lib.hid ho
    have HFr := Lib.hid hf
    clear ho hf
    by_cases hlt : i < 256
    · have hx : (i : Int) < 256 := by omega
      obtain ⟨b, hb⟩ : ∃ b, b = UInt8.ofNat i := ⟨_, rfl⟩
      have hbn : (b.toNat : Int) = (i : Int) := by rw [hb]; simp; omega
      have hw : IntKind.u8.wrap (i : Int) = (b.toNat : Int) := by rw [IntKind.wrap_u8', hbn]; omega
      have hw2 : (i : Int) % 256 = (b.toNat : Int) := by rw [hbn]; omega
      obtain ⟨z, hz⟩ : ∃ z, z = box b := ⟨_, rfl⟩
      have HB := Lib.hid (show ∀ w, Calls Tryz.prog 83 #[.int .u8 (b.toNat : Int)] w fun e w' => e = .returned (.int .u8 (z.toNat : Int)) ∧ Fr (fun _ => False) w w' from fun w => by rw [hz]; exact box_own b w)
      have HST := Lib.hid (show bxR (i + 1) = bxR i ++ [z] by rw [bxR_succ, ← hb, ← hz])
      have bz := z.toNat_lt
      clear hb hbn hz
      go_wp2_with fail
      refine (HB.out wr).mono ?_
      rintro e w1 ⟨rfl, f1⟩
      have HF1 := Lib.hid (HFr.out.trans f1 (fun i hi => hi.elim))
      have HO1 := Lib.hid (f1.own HO.out (fun _ _ => id))
      clear f1
      have HOb := Lib.hid (show (w1.alloc (.cells #[.int .u8 (z.toNat : Int)] 5)).ownsRow w.heap.size 5 1 u1 i (bcells (bxR i)) from ((Fr.refl (fun _ => False) w1).alloc _).own HO1.out (fun _ _ => id))
      have HRb := Lib.hid (show (w1.alloc (.cells #[.int .u8 (z.toNat : Int)] 5)).rangeAt w1.heap.size 0 (bcells [z]) from fun j v hj => by
        rw [Nat.zero_add, cell_of_row _ w1.heap.size j _ _ _ (heap_alloc_new w1 _)]; simpa [bcells] using hj)
      have HFb := Lib.hid (HF1.out.alloc (.cells #[.int .u8 (z.toNat : Int)] 5))
      have HSz := Lib.hid (show w.heap.size ≤ (w1.alloc (.cells #[.int .u8 (z.toNat : Int)] 5)).heap.size from HFb.out.size)
      go_wp2_with (with_reducible refine wpList_append_own (op := ⟨some 12, _, _, _, _, _⟩) rfl _ _ rfl w.heap.size u1 i (bxR i) HOb.out rfl w1.heap.size 1 1 rfl [z] rfl HRb.out (by omega) HSz.out ?_)
      intro v' w' ho' hgr
      have HO' := Lib.hid (show w'.ownsRow w.heap.size 5 1 v' (i + 1) (bcells (bxR (i + 1))) by rw [HST.out]; exact ho')
      have HF' := Lib.hid (HFb.out.grown hgr (fun k hk => .inr (by
        obtain ⟨_, ⟨h1, _⟩ | ⟨g, cap, cur, h1, h2, _⟩⟩ := HO1.out
        · rw [h1] at hk; cases hk
        · rw [h1] at hk; cases hk; exact h2)))
      clear ho' hgr
      go_wp2
      go_roundw
      case rel => exact ⟨i + 1, by omega, by go_num, HO'.out, HF'.out⟩
      case measure => simp [intOf]; omega
    · have him : i = 256 := by omega
      subst him
      rcases HO.out.2 with ⟨_, h⟩ | ⟨g, cap, cur, hv, hg, hh, hnc, hcm, hcs, ht⟩
      · omega
      · have HT := Lib.hid (show Tab wr g from fun b => by
          rw [cell_of_row wr g b.toNat _ _ _ hh]
          have h1 : (bcells (bxR 256))[b.toNat]? = some (.int .u8 ((box b).toNat : Int)) := by
            rw [bcells_get]
            unfold bxR
            rw [List.getElem?_map, List.getElem?_range b.toNat_lt]
            simp
          rw [← ht, List.getElem?_take] at h1
          split at h1
          · simpa using h1
          · cases h1)
        have HG := Lib.hid (And.intro hg hnc)
        clear hg hh hnc hcm hcs ht
        subst hv
        go_wp2_with fail
        go_ret
        exact ⟨g, cap, rfl, HT.out, HG.out.1, HG.out.2, HFr.out⟩
end Go.Proofs.YtcchhfkmhbjdmaaGreat
/-! Kv -/
set_option linter.unusedVariables false
set_option linter.unusedSimpArgs false
namespace Go.Proofs.YtcchhfkmhbjdmaaGreat
open Go.RowKit
/-- A row of bytes: xs, and room behind them. -/
def BRow (w : World) (g cap : Nat) (xs : List UInt8) : Prop :=
  ∃ (cur : List Value) (fr : Nat × Nat), w.heap[g]? = some (.cells (bcells xs ++ cur).toArray 5 fr) ∧ cap = xs.length + cur.length ∧ (fr = (0, 0) ∨ cap ≤ fr.1)
theorem BRow.cell {w : World} {g cap : Nat} {xs : List UInt8} (h : BRow w g cap xs) (k : Nat) (x : UInt8) (hx : xs[k]? = some x) : w.cell? ⟨g, k, none⟩ = some (.int .u8 (x.toNat : Int)) := by
  obtain ⟨cur, fr, hg, _, _⟩ := h
  have hk : k < xs.length := (List.getElem?_eq_some_iff.1 hx).1
  rw [cell_of_row w g k _ _ _ hg]
  simp only [List.getElem?_toArray]
  rw [List.getElem?_append_left (by rw [bcells_length]; exact hk)]
  simp [bcells, hx]
theorem BRow.lt {w : World} {g cap : Nat} {xs : List UInt8} (h : BRow w g cap xs) : g < w.heap.size := by
  obtain ⟨cur, fr, hg, _, _⟩ := h
  exact lt_of_heap hg
theorem BRow.fr {F : Nat → Prop} {w w' : World} {g cap : Nat} {xs : List UInt8} (h : BRow w g cap xs) (hf : Fr F w w') (hn : ¬ F g) : BRow w' g cap xs := by
  obtain ⟨cur, fr, hg, h1, h2⟩ := h
  exact ⟨cur, fr, hf.heap hg hn, h1, h2⟩
theorem brow_conv (w : World) (l : List UInt8) : BRow (Lib.bytesWorld w 5 (str l)) w.heap.size (grownCap w (str l).size 0 5) l := by
  have h := Lib.bytesWorld_at_new w 5 (str l)
  have hle : (str l).size ≤ grownCap w (str l).size 0 5 := grownCap_ge w _ _ _
  have hc : Lib.bytesCells w 5 (str l) = (bcells l ++ List.replicate (grownCap w (str l).size 0 5 - (str l).size) (Value.int .u8 0)).toArray := by
    unfold Lib.bytesCells
    apply Array.ext'
    simp [bcells, str]
  refine ⟨List.replicate (grownCap w (str l).size 0 5 - (str l).size) (Value.int .u8 0), _, h.trans (by rw [← hc]), ?_, .inr ?_⟩
  · rw [List.length_replicate, ← str_size l]; omega
  · rw [hc, List.size_toArray, List.length_append, bcells_length, List.length_replicate, ← str_size l]; omega
theorem setCell_row (w : World) (g i : Nat) (cs : Array Value) (t : TypeId) (fr : Nat × Nat) (v : Value) (hg : w.heap[g]? = some (.cells cs t fr)) :
    (w.setCell ⟨g, i, none⟩ v).heap[g]? = some (.cells (cs.setIfInBounds i v) t fr) := by
  rw [setCell_eq_setRow w g i cs t fr v hg]
  show (w.heap.modify g _)[g]? = _
  simp [Array.getElem?_modify, hg]
set_option maxRecDepth 20000 in
theorem append_byte (w : World) (g cap : Nat) (xs : List UInt8) (h : BRow w g cap xs) (hx : xs.length ≤ 100000) (B : Nat) (x : UInt8) (ha : w.cell? ⟨B, 0, none⟩ = some (.int .u8 (x.toNat : Int))) (c : Nat) (ty : TypeId) :
    ∃ g' cap' w', (Builtin.append_ #[53, 53] ty #[.slice (some ⟨g, 0, none⟩) xs.length cap, .slice (some ⟨B, 0, none⟩) 1 c]).run Tryz.prog w = .ok (.slice (some ⟨g', 0, none⟩) (xs.length + 1) cap') w' ∧
      BRow w' g' cap' (xs ++ [x]) ∧ w.grownBy w' (some g) ∧ (g' = g ∨ g' = w.heap.size) := by
  obtain ⟨i0, hi0⟩ : ∃ i0, Tryz.prog.info? 5 = some i0 := ⟨_, rfl⟩
  have hz0 : (Tryz.prog.info? 5).map (fun i => (i.zero, i.size, i.bytes)) = some (some (.int .u8 0), 1, 1) := by kernel_rfl
  rw [hi0] at hz0
  simp only [Option.map_some, Option.some.injEq, Prod.mk.injEq] at hz0
  have hnews : ∀ j u, ([.int .u8 (x.toNat : Int)] : List Value)[j]? = some u → w.cell? ((⟨B, 0, none⟩ : Addr).add j) = some u := fun j u hj => by
    have : j = 0 := by
      have := (List.getElem?_eq_some_iff.1 hj).1
      simpa using this
    subst this
    simp at hj
    rw [← hj, Addr.add_mid]; exact ha
  by_cases hroom : xs.length + 1 ≤ cap
  · obtain ⟨cur, fr, hg, h1, h2⟩ := h
    obtain ⟨y, cur', rfl⟩ : ∃ y c, cur = y :: c := by
      cases cur with
      | nil => simp at h1; omega
      | cons y c => exact ⟨y, c, rfl⟩
    have hf := run_firstCells_some (P := Tryz.prog) w 1 1 ⟨B, 0, none⟩ 1 c [.int .u8 (x.toNat : Int)] rfl hnews
    have hcell : (w.cell? ⟨g, xs.length, none⟩).isSome = true := by
      rw [cell_of_row w g _ _ _ _ hg]
      simp [bcells_length]
    have hfz : w.frozen? ⟨g, xs.length, none⟩ = false := by
      simp only [World.frozen?, hg]
      rcases h2 with h2 | h2
      · rw [h2]; simp
      · simp; omega
    have hst := run_storeCells_cells (P := Tryz.prog) g xs.length [.int .u8 (x.toNat : Int)] 0 w (fun j hj => by
      have : j = 0 := by simpa using hj
      subst this; simpa using hcell) (fun j hj => by
      have : j = 0 := by simpa using hj
      subst this; simpa using hfz) (by simp [Value.oneCell'])
    refine ⟨g, cap, w.setCell ⟨g, xs.length, none⟩ (.int .u8 (x.toNat : Int)), ?_, ?_, ?_, .inl rfl⟩
    · simp only [Nat.add_zero, World.setCells] at hst
      simp [Builtin.append_, run_underlying Tryz.underlying53, sizeOf, typeInfo, hi0, hz0, Builtin.lenOf, hroom, hf, Addr.add_lit, hst]
    · refine ⟨cur', fr, ?_, ?_, h2⟩
      · rw [setCell_row w g _ _ _ _ _ hg]
        congr 2
        apply Array.ext'
        simp [bcells, List.set_append]
      · simp at h1 ⊢; omega
    · exact ⟨rfl, rfl, rfl, by simp [World.setCell], fun k hk hne => heap_setCell_other w _ k _ (fun e => hne (by rw [e]))⟩
  · have hgr := run_append_grow (P := Tryz.prog) w 53 ty 5 i0 (.int .u8 0) Tryz.underlying53 hi0 hz0.1 ⟨g, 0, none⟩ xs.length cap (bcells xs) (by rw [bcells_length, hz0.2.1]; omega) (fun j v hj => by
      rw [Addr.add_mid, Nat.zero_add]
      rw [bcells_get] at hj
      cases hxj : xs[j]? with
      | none => simp [hxj] at hj
      | some b =>
        simp [hxj] at hj
        rw [← hj]; exact h.cell j b hxj) ⟨B, 0, none⟩ 1 c [.int .u8 (x.toNat : Int)] (by simp [hz0.2.1]) hnews (by omega) (by omega) (by
      have := nextslicecap_le (need := xs.length + 1) (old := cap) (by omega)
      rw [hz0.2.2]; omega)
    refine ⟨w.heap.size, _, _, hgr, ?_, ?_, .inr rfl⟩
    · refine ⟨List.replicate (grownCap w (xs.length + 1) cap 5 - (xs.length + 1)) (.int .u8 0), (0, 0), ?_, ?_, .inl rfl⟩
      · have hn := heap_alloc_new w.drew (.cells ((bcells xs).toArray ++ [Value.int .u8 (x.toNat : Int)].toArray ++ Builtin.zeroCells (Value.int .u8 0).cells (grownCap w (xs.length + 1) cap 5 - (xs.length + 1))) 5)
        have hs : w.drew.heap.size = w.heap.size := rfl
        rw [hs] at hn
        rw [hn]
        congr 2
        apply Array.ext'
        simp [bcells, Builtin.zeroCells, Value.cells]
        apply List.ext_getElem (by simp)
        intro i h1 h2
        simp [Nat.mod_one]
      · have := grownCap_ge w (xs.length + 1) cap 5
        simp; omega
    · exact ⟨rfl, rfl, rfl, by simp, fun k hk hne => Below.heap_alloc w.drew _ k hk⟩
end Go.Proofs.YtcchhfkmhbjdmaaGreat
/-! Kw -/
set_option linter.unusedVariables false
set_option linter.unusedSimpArgs false
set_option pp.deepTerms true
set_option pp.maxSteps 100000
namespace Go.Proofs.YtcchhfkmhbjdmaaGreat
open Go.RowKit
section
variable {ops : Array Oper} {rest : List Oper} {op : Oper} {a : Act} {w : World} {Q : Exit → Act → World → Prop}
theorem wpList_append_byte (hgd : op.guard = none) (s y : Operand) (ho : op.op = .call { callee := .builtin .append, args := #[s, y], argTypes := #[53, 53] })
    (g cap : Nat) (xs : List UInt8) (h : BRow w g cap xs) (hx : xs.length ≤ 100000) (n : Nat) (hn : n = xs.length) (hs : a.eval s = .slice (some ⟨g, 0, none⟩) n cap) (B c : Nat) (hy : a.eval y = .slice (some ⟨B, 0, none⟩) 1 c)
    (x : UInt8) (ha : w.cell? ⟨B, 0, none⟩ = some (.int .u8 (x.toNat : Int)))
    (hk : ∀ g' cap' w', BRow w' g' cap' (xs ++ [x]) → w.grownBy w' (some g) → (g' = g ∨ g' = w.heap.size) → wpList Tryz.prog ops Q rest (a.put op.dst (.slice (some ⟨g', 0, none⟩) (n + 1) cap')) w') : wpList Tryz.prog ops Q (op :: rest) a w := by
  refine wpList_plain hgd fun K hK => ?_
  obtain ⟨g', cap', w', hr, h1, h2, h3⟩ := append_byte w g cap xs h hx B x ha c op.type
  subst hn
  unfold Oper.wp execOp
  simp only [ho, resolve, invoke, builtin, Sem.run_bind, Sem.run_pure, Result.andThen_ok, List.map_toArray, List.map_cons, List.map_nil, hs, hy, hr]
  exact hK _ _ (hk g' cap' w' h1 h2 h3)
end
def wkT (key : List UInt8) (i : Nat) : List UInt8 := words key (i - 8)
theorem wkT_length (key : List UInt8) (h : key.length = 32) (i : Nat) (hi : 8 ≤ i) : (wkT key i).length = 4 * i := by
  unfold wkT; rw [words_length key h]; omega
theorem wkT_next (key : List UInt8) (i : Nat) (hi : 8 ≤ i) : wkT key (i + 1) = wkT key i ++ full (wordF (wkT key i) i) 4 := by
  unfold wkT
  rw [show i + 1 - 8 = (i - 8) + 1 by omega, words, show i - 8 + 8 = i by omega]
set_option maxRecDepth 20000 in
set_option maxHeartbeats 8000000 in
theorem refwords_calls (key : List UInt8) (hk : key.length = 32) (X capb : Nat) (hcb : 256 ≤ capb) (w : World) (hT : Tab w X) (hX : X < w.heap.size) :
    Calls Tryz.prog 59 #[.string (str key), .slice (some ⟨X, 0, none⟩) 256 capb] w fun e w' => ∃ g cap, e = .returned (.slice (some ⟨g, 0, none⟩) 240 cap) ∧ BRow w' g cap (words key 52) ∧ w.heap.size ≤ g ∧ Fr (fun _ => False) w w' := by
  have hsz : (str key).size = 32 := by rw [str_size]; exact hk
  have HK := Lib.hid hk
  have HT := Lib.hid hT
  clear hk hT
  have hcv := Lib.run_convert_string_bytes (P := Tryz.prog) w 9 53 5 (str key) Tryz.underlying9 Tryz.underlying53 Tryz.underlying5
  have hfB := bytesWorld_fr w 5 (str key)
  have hrB := brow_conv w key
  rw [hsz] at hcv hrB
  generalize grownCap w 32 0 5 = cap0 at hcv hrB
  generalize Lib.bytesWorld w 5 (str key) = wB at hcv hfB hrB
  obtain ⟨g0, hg0⟩ : ∃ g, g = w.heap.size := ⟨_, rfl⟩
  rw [← hg0] at hcv hrB hX
  have HG0 := Lib.hid hg0
  have HFB := Lib.hid hfB
  have HRB := Lib.hid hrB
  clear hfB hrB hg0
  go_enter Tryz.func59, Tryz.ntmps59
  go_wp2
  go_loopw [5, 6, 7] (fun v5 v6 v7 wr => ∃ (i g cap L : Nat), 8 ≤ i ∧ i ≤ 60 ∧ L = 4 * i ∧ v5 = .slice (some ⟨g, 0, none⟩) L cap ∧ v6 = .int .u8 ((pw i).toNat : Int) ∧ v7 = .int .i64 i ∧ BRow wr g cap (wkT key i) ∧ g0 ≤ g ∧ Fr (fun _ => False) w wr) (fun _ _ v7 _ => 60 - (intOf v7).toNat)
  case atStart => exact ⟨8, g0, cap0, 32, by omega, by omega, rfl, rfl, rfl, rfl, HRB.out, Nat.le_refl _, HFB.out⟩
  case round =>
    obtain ⟨i, g, cap, L, hi8, hi60, hL, rfl, rfl, rfl, hB, hg, hf⟩ := hrel
    have HB := Lib.hid hB
    have HF := Lib.hid hf
    have HL := Lib.hid hL
    clear hB hf HFB HRB hcv hL
    by_cases hlt : i < 60
    · obtain ⟨Xs, hXs⟩ : ∃ x, x = wkT key i := ⟨_, rfl⟩
      have HXs := Lib.hid hXs
      have HXl := Lib.hid (show Xs.length = 4 * i by rw [hXs]; exact wkT_length key HK.out i hi8)
      rw [← hXs] at HB
      obtain ⟨n4, h4⟩ : ∃ n, n = 4 * i - 4 := ⟨_, rfl⟩
      obtain ⟨n3, h3⟩ : ∃ n, n = 4 * i - 3 := ⟨_, rfl⟩
      obtain ⟨n2, h2⟩ : ∃ n, n = 4 * i - 2 := ⟨_, rfl⟩
      obtain ⟨n1, h1⟩ : ∃ n, n = 4 * i - 1 := ⟨_, rfl⟩
      have hL' := HL.out
      have hw0 : IntKind.i64.wrap (4 * (i : Int)) = 4 * (i : Int) := IntWalk.i64_in _ (by omega)
      have hw4 : IntKind.i64.wrap (4 * (i : Int) - 4) = (n4 : Int) := by rw [IntWalk.i64_in _ (by omega)]; omega
      have hw3 : IntKind.i64.wrap (4 * (i : Int) - 3) = (n3 : Int) := by rw [IntWalk.i64_in _ (by omega)]; omega
      have hw2 : IntKind.i64.wrap (4 * (i : Int) - 2) = (n2 : Int) := by rw [IntWalk.i64_in _ (by omega)]; omega
      have hw1 : IntKind.i64.wrap (4 * (i : Int) - 1) = (n1 : Int) := by rw [IntWalk.i64_in _ (by omega)]; omega
      have l4 : (n4 : Int) < (L : Int) := by omega
      have l3 : (n3 : Int) < (L : Int) := by omega
      have l2 : (n2 : Int) < (L : Int) := by omega
      have l1 : (n1 : Int) < (L : Int) := by omega
      obtain ⟨x0, hx0⟩ : ∃ x, x = Xs.getD (4 * i - 4) 0 := ⟨_, rfl⟩
      obtain ⟨x1, hx1⟩ : ∃ x, x = Xs.getD (4 * i - 3) 0 := ⟨_, rfl⟩
      obtain ⟨x2, hx2⟩ : ∃ x, x = Xs.getD (4 * i - 2) 0 := ⟨_, rfl⟩
      obtain ⟨x3, hx3⟩ : ∃ x, x = Xs.getD (4 * i - 1) 0 := ⟨_, rfl⟩
      have hget : ∀ k, k < 4 * i → Xs[k]? = some (Xs.getD k 0) := fun k hk => by
        have : k < Xs.length := by rw [HXl.out]; exact hk
        rw [List.getD_eq_getElem?_getD, List.getElem?_eq_getElem this]; rfl
      have c0 : wr.drew.cell? ⟨g, n4, none⟩ = some (.int .u8 (x0.toNat : Int)) := HB.out.cell n4 x0 (by rw [h4, hx0]; exact hget _ (by omega))
      have c1 : wr.drew.cell? ⟨g, n3, none⟩ = some (.int .u8 (x1.toNat : Int)) := HB.out.cell n3 x1 (by rw [h3, hx1]; exact hget _ (by omega))
      have c2 : wr.drew.cell? ⟨g, n2, none⟩ = some (.int .u8 (x2.toNat : Int)) := HB.out.cell n2 x2 (by rw [h2, hx2]; exact hget _ (by omega))
      have c3 : wr.drew.cell? ⟨g, n1, none⟩ = some (.int .u8 (x3.toNat : Int)) := HB.out.cell n1 x3 (by rw [h1, hx3]; exact hget _ (by omega))
      have HH := Lib.hid (show x0 = Xs.getD (4 * i - 4) 0 ∧ x1 = Xs.getD (4 * i - 3) 0 ∧ x2 = Xs.getD (4 * i - 2) 0 ∧ x3 = Xs.getD (4 * i - 1) 0 from ⟨hx0, hx1, hx2, hx3⟩)
      clear hx0 hx1 hx2 hx3 h1 h2 h3 h4 hXs hL' hget
      have b0 := x0.toNat_lt
      have b1 := x1.toNat_lt
      have b2 := x2.toNat_lt
      have b3 := x3.toNat_lt
      go_wp2
      refine wp_region_still_tail 24 (by kernel_rfl) (by kernel_rfl) ?_
      simp only [List.take_succ_cons, List.take_zero, List.drop_succ_cons, List.drop_zero]
      change wpStill _ _ wr.drew (fun a' => wpList _ _ _ _ a' wr.drew) _ _
      repeat still_step
      refine wpStill_nil ?_
      have hTe : (wr.alloc (.cells #[.int .u8 (x0.toNat : Int), .int .u8 (x1.toNat : Int), .int .u8 (x2.toNat : Int), .int .u8 (x3.toNat : Int)] 5)).drew.heap[wr.heap.size]? = some (.cells (bcells [x0, x1, x2, x3]).toArray 5 (0, 0)) := heap_alloc_new wr _
      have hfe : Fr (fun _ => False) wr (wr.alloc (.cells #[.int .u8 (x0.toNat : Int), .int .u8 (x1.toNat : Int), .int .u8 (x2.toNat : Int), .int .u8 (x3.toNat : Int)] 5)).drew := ((Fr.refl _ _).alloc _).drew
      have HTe := Lib.hid hTe
      have HBe := Lib.hid (HB.out.fr hfe id)
      have HFe := Lib.hid ((HF.out.alloc (.cells #[.int .u8 (x0.toNat : Int), .int .u8 (x1.toNat : Int), .int .u8 (x2.toNat : Int), .int .u8 (x3.toNat : Int)] 5)).drew)
      have hTg : g < wr.heap.size := HB.out.lt
      clear hTe hfe c0 c1 c2 c3
      obtain ⟨r, hr⟩ : ∃ r, r = i % 8 := ⟨_, rfl⟩
      have hm8 : (i : Int) % 8 = (r : Int) := by omega
      have htm : (i : Int).tmod 8 = (r : Int) := by rw [Int.tmod_eq_emod_of_nonneg (by omega)]; omega
      have HR := Lib.hid hr
      clear hr
      have HI := Lib.hid (show 8 ≤ i ∧ i < 60 from ⟨hi8, hlt⟩)
      by_cases h0 : r = 0
      · have q0 : ((r : Int) == 0) = true := by simpa using h0
        have q4 : ((r : Int) == 4) = false := by simp; omega
        obtain ⟨pq, hpq⟩ : ∃ p, p = pw i := ⟨_, rfl⟩
        have HPW := Lib.hid (show pw (i + 1) = tw pq by rw [hpq]; exact pw_next i (by have := HR.out; omega) hi8)
        have HPQ := Lib.hid hpq.symm
        have HR0 := Lib.hid h0
        rw [← hpq]
        clear h0 hpq
        go_wp2
        generalize (wr.alloc (.cells #[.int .u8 (x0.toNat : Int), .int .u8 (x1.toNat : Int), .int .u8 (x2.toNat : Int), .int .u8 (x3.toNat : Int)] 5)).drew = w6 at HTe HBe HFe ⊢
        obtain ⟨T, hT⟩ : ∃ T, T = wr.heap.size := ⟨_, rfl⟩
        rw [← hT] at HTe hTg ⊢
        clear hT HB HF
        have htab : Tab w6.drew X := HT.out.fr HFe.out.drew id
        obtain ⟨y0, hy0⟩ : ∃ y, y = box x0 := ⟨_, rfl⟩
        obtain ⟨y1, hy1⟩ : ∃ y, y = box x1 := ⟨_, rfl⟩
        obtain ⟨y2, hy2⟩ : ∃ y, y = box x2 := ⟨_, rfl⟩
        obtain ⟨y3, hy3⟩ : ∃ y, y = box x3 := ⟨_, rfl⟩
        have d0 : w6.drew.cell? ⟨X, x0.toNat, none⟩ = some (.int .u8 (y0.toNat : Int)) := by rw [hy0]; exact htab x0
        have d1 : w6.drew.cell? ⟨X, x1.toNat, none⟩ = some (.int .u8 (y1.toNat : Int)) := by rw [hy1]; exact htab x1
        have d2 : w6.drew.cell? ⟨X, x2.toNat, none⟩ = some (.int .u8 (y2.toNat : Int)) := by rw [hy2]; exact htab x2
        have d3 : w6.drew.cell? ⟨X, x3.toNat, none⟩ = some (.int .u8 (y3.toNat : Int)) := by rw [hy3]; exact htab x3
        have f0 : w6.drew.cell? ⟨T, 0, none⟩ = some (.int .u8 (x0.toNat : Int)) := bcells_cell (w := w6.drew) HTe.out 0 x0 rfl
        have f1 : w6.drew.cell? ⟨T, 1, none⟩ = some (.int .u8 (x1.toNat : Int)) := bcells_cell (w := w6.drew) HTe.out 1 x1 rfl
        have f2 : w6.drew.cell? ⟨T, 2, none⟩ = some (.int .u8 (x2.toNat : Int)) := bcells_cell (w := w6.drew) HTe.out 2 x2 rfl
        have f3 : w6.drew.cell? ⟨T, 3, none⟩ = some (.int .u8 (x3.toNat : Int)) := bcells_cell (w := w6.drew) HTe.out 3 x3 rfl
        have gx0 : (x0.toNat : Int) < 256 := by omega
        have gx1 : (x1.toNat : Int) < 256 := by omega
        have gx2 : (x2.toNat : Int) < 256 := by omega
        have gx3 : (x3.toNat : Int) < 256 := by omega
        have hT6 : T < w6.heap.size := lt_of_heap HTe.out
        obtain ⟨t0, ht0⟩ : ∃ t, t = y1 ^^^ pq := ⟨_, rfl⟩
        have e0 := xor_u8 y1 pq
        rw [← ht0] at e0
        have bq := pq.toNat_lt
        have by1 := y1.toNat_lt
        have bt0 := t0.toNat_lt
        have HTL := Lib.hid (show ∀ k, k < 4 → [t0, y2, y3, y0][k]? = some (wordT Xs i k) from fun k hk => by
          obtain ⟨g0, g1, g2, g3⟩ := HH.out
          have hr := HR.out
          obtain ⟨hi8, _⟩ := HI.out
          have : k = 0 ∨ k = 1 ∨ k = 2 ∨ k = 3 := by omega
          rcases this with rfl | rfl | rfl | rfl
          · simp only [wordT]; have := HR0.out; rw [if_pos (by omega), if_pos trivial, ← g1, ht0, hy1, ← HPQ.out]; rfl
          · simp only [wordT]; have := HR0.out; rw [if_pos (by omega), if_neg (by omega), show 4 * i - 4 + (1 + 1) % 4 = 4 * i - 2 by omega, ← g2, hy2]; rfl
          · simp only [wordT]; have := HR0.out; rw [if_pos (by omega), if_neg (by omega), show 4 * i - 4 + (2 + 1) % 4 = 4 * i - 1 by omega, ← g3, hy3]; rfl
          · simp only [wordT]; have := HR0.out; rw [if_pos (by omega), if_neg (by omega), show 4 * i - 4 + (3 + 1) % 4 = 4 * i - 4 by omega, ← g0, hy0]; rfl)
        clear hy0 hy1 hy2 hy3 htab ht0
        refine wp_region_still_tail 26 (by kernel_rfl) (by kernel_rfl) ?_
        simp only [List.take_succ_cons, List.take_zero, List.drop_succ_cons, List.drop_zero]
        change wpStill _ _ w6.drew (fun a' => wpList _ _ _ _ a' w6.drew) _ _
        repeat still_step
        refine wpStill_nil ?_
        go_wp2_with fail
        refine (refmul_calls pq 2 _).mono ?_
        rintro e w8 ⟨rfl, rfl⟩
        rw [show mul pq 2 = tw pq by rw [mul_comm, mul_two]]
        go_wp2
        have hfe : Fr (fun _ => False) w6 (w6.alloc (.cells #[.int .u8 (t0.toNat : Int), .int .u8 (y2.toNat : Int), .int .u8 (y3.toNat : Int), .int .u8 (y0.toNat : Int)] 5)).drew := ((Fr.refl _ _).alloc _).drew
        have HT9 := Lib.hid (show (w6.alloc (.cells #[.int .u8 (t0.toNat : Int), .int .u8 (y2.toNat : Int), .int .u8 (y3.toNat : Int), .int .u8 (y0.toNat : Int)] 5)).drew.heap[w6.heap.size]? = some (.cells (bcells [t0, y2, y3, y0]).toArray 5 (0, 0)) from heap_alloc_new w6 _)
        have HB9 := Lib.hid (HBe.out.fr hfe id)
        have HF9 := Lib.hid ((HFe.out.alloc (.cells #[.int .u8 (t0.toNat : Int), .int .u8 (y2.toNat : Int), .int .u8 (y3.toNat : Int), .int .u8 (y0.toNat : Int)] 5)).drew)
        generalize (w6.alloc (.cells #[.int .u8 (t0.toNat : Int), .int .u8 (y2.toNat : Int), .int .u8 (y3.toNat : Int), .int .u8 (y0.toNat : Int)] 5)).drew = w9 at HT9 HB9 HF9 ⊢
        obtain ⟨T9, hT9⟩ : ∃ T, T = w6.heap.size := ⟨_, rfl⟩
        rw [← hT9] at HT9 hT6 ⊢
        clear hfe hT9 HTe HBe HFe d0 d1 d2 d3 f0 f1 f2 f3
        go_loopw [5, 9] (fun v5 v9 wr => ∃ (k g cap L : Nat), k ≤ 4 ∧ L = 4 * i + k ∧ v5 = .slice (some ⟨g, 0, none⟩) L cap ∧ v9 = .int .i64 k ∧ BRow wr g cap (Xs ++ full (wordF Xs i) k) ∧ g0 ≤ g ∧ T9 ≠ g ∧ wr.heap[T9]? = some (.cells (bcells [t0, y2, y3, y0]).toArray 5 (0, 0)) ∧ Fr (fun _ => False) w wr) (fun _ v9 _ => 4 - (intOf v9).toNat)
        case atStart => exact ⟨0, g, cap, L, Nat.zero_le _, by rw [HL.out]; rfl, rfl, rfl, by simpa [full] using HB9.out, hg, by omega, HT9.out, HF9.out⟩
        case round =>
          obtain ⟨k, g, cap, L, hk, hL, rfl, rfl, hB, hg, hTg, hT, hf⟩ := hrel
          have HBa := Lib.hid hB
          have HTa := Lib.hid hT
          have HFa := Lib.hid hf
          have HLa := Lib.hid hL
          clear hB hT hf HB9 HT9 HF9
          have hfl := full_length (wordF Xs i) k
          have hXl := HXl.out
          by_cases hlk : k < 4
          · obtain ⟨n, hn⟩ : ∃ n, n = 4 * i - 32 + k := ⟨_, rfl⟩
            obtain ⟨a, ha⟩ : ∃ a, a = Xs.getD (4 * i - 32 + k) 0 := ⟨_, rfl⟩
            obtain ⟨b, hb⟩ : ∃ b, b = wordT Xs i k := ⟨_, rfl⟩
            obtain ⟨z, hz⟩ : ∃ z, z = a ^^^ b := ⟨_, rfl⟩
            have hfk : wordF Xs i k = z := by rw [hz, ha, hb]; rfl
            have d1 : wr.drew.cell? ⟨g, n, none⟩ = some (.int .u8 (a.toNat : Int)) := HBa.out.cell n a (by
              rw [hn, ha, List.getElem?_append_left (by omega), List.getD_eq_getElem?_getD, List.getElem?_eq_getElem (by omega)]; rfl)
            have d2 : wr.drew.cell? ⟨T9, k, none⟩ = some (.int .u8 (b.toNat : Int)) := bcells_cell (w := wr.drew) HTa.out k b (by rw [hb]; exact HTL.out k hlk)
            have e1 := xor_u8 a b
            rw [← hz] at e1
            have hw0 : IntKind.i64.wrap (4 * (i : Int)) = 4 * (i : Int) := IntWalk.i64_in _ (by omega)
            have hw1 : IntKind.i64.wrap (4 * (i : Int) - 32) = 4 * (i : Int) - 32 := IntWalk.i64_in _ (by omega)
            have hw2 : IntKind.i64.wrap (4 * (i : Int) - 32 + (k : Int)) = (n : Int) := by rw [IntWalk.i64_in _ (by omega)]; omega
            have hnL : (n : Int) < (L : Int) := by omega
            have b1 := a.toNat_lt
            have b2 := b.toNat_lt
            have b3 := z.toNat_lt
            have HLx := Lib.hid (show L = (Xs ++ full (wordF Xs i) k).length by rw [List.length_append, hfl, hXl]; exact hL)
            have HLy := Lib.hid (show (Xs ++ full (wordF Xs i) k).length ≤ 100000 by rw [List.length_append, hfl, hXl]; omega)
            have HFS := Lib.hid (show Xs ++ full (wordF Xs i) (k + 1) = Xs ++ full (wordF Xs i) k ++ [z] by rw [full_succ, hfk, List.append_assoc])
            have hfa : Fr (fun _ => False) wr.drew (wr.drew.alloc (.cells #[.int .u8 (z.toNat : Int)] 5)) := (Fr.refl _ _).alloc _
            have HBn := Lib.hid (show BRow (wr.drew.alloc (.cells #[.int .u8 (z.toNat : Int)] 5)) g cap (Xs ++ full (wordF Xs i) k) from BRow.fr (w := wr.drew) HBa.out hfa id)
            have HZn := Lib.hid (show (wr.drew.alloc (.cells #[.int .u8 (z.toNat : Int)] 5)).cell? ⟨wr.drew.heap.size, 0, none⟩ = some (.int .u8 (z.toNat : Int)) from (cell_of_row _ _ 0 _ _ _ (heap_alloc_new wr.drew _)).trans rfl)
            have HTn := Lib.hid (hfa.heap (show wr.drew.heap[T9]? = _ from HTa.out) id)
            have HFn := Lib.hid (HFa.out.drew.alloc (.cells #[.int .u8 (z.toNat : Int)] 5))
            have hTlt : T9 < wr.drew.heap.size := lt_of_heap (show wr.drew.heap[T9]? = _ from HTa.out)
            clear ha hb hz hfk hn hfl hXl hL
            go_wp2
            refine wp_region_till (fun W => W.cell? ⟨g, n, none⟩ = some (.int .u8 (a.toNat : Int)) ∧ W.cell? ⟨T9, k, none⟩ = some (.int .u8 (b.toNat : Int))) 15 (by kernel_rfl) ?_
            have HS := Lib.hid (show wr.drew.cell? ⟨g, n, none⟩ = some (.int .u8 (a.toNat : Int)) ∧ wr.drew.cell? ⟨T9, k, none⟩ = some (.int .u8 (b.toNat : Int)) from ⟨d1, d2⟩)
            have HSn := Lib.hid (show (wr.drew.alloc (.cells #[.int .u8 (z.toNat : Int)] 5)).cell? ⟨g, n, none⟩ = some (.int .u8 (a.toNat : Int)) ∧ (wr.drew.alloc (.cells #[.int .u8 (z.toNat : Int)] 5)).cell? ⟨T9, k, none⟩ = some (.int .u8 (b.toNat : Int)) from ⟨hfa.cell d1 id, hfa.cell d2 id⟩)
            clear hfa
            generalize wr.drew = wy at d1 d2 HS HSn HBn HZn HTn HFn hTlt ⊢
            refine wpAnyT_take (i := 0) (n := 17) (v := .slice (some ⟨g, 0, none⟩) L cap) rfl (by kernel_rfl) (fun _ _ _ h => h) HS.out (yieldsIf_plain rfl (fun W hW => by clear hW; go_simp)) ?_
            simp only [List.getElem_toArray, List.getElem_cons_succ, List.getElem_cons_zero, Act.put, List.setIfInBounds_toArray, List.set_cons_zero, List.set_cons_succ]
            refine wpAnyT_take (i := 1) (n := 17) (v := .slice (some ⟨g, 0, none⟩) L cap) rfl (by kernel_rfl) (fun _ _ _ h => h) HS.out (yieldsIf_plain rfl (fun W hW => by clear hW; go_simp)) ?_
            simp only [List.getElem_toArray, List.getElem_cons_succ, List.getElem_cons_zero, Act.put, List.setIfInBounds_toArray, List.set_cons_zero, List.set_cons_succ]
            refine wpAnyT_take (i := 2) (n := 17) (v := .int .i64 i) rfl (by kernel_rfl) (fun _ _ _ h => h) HS.out (yieldsIf_plain rfl (fun W hW => by clear hW; go_simp)) ?_
            simp only [List.getElem_toArray, List.getElem_cons_succ, List.getElem_cons_zero, Act.put, List.setIfInBounds_toArray, List.set_cons_zero, List.set_cons_succ]
            refine wpAnyT_take (i := 3) (n := 17) (v := .int .i64 (4 * (i : Int))) rfl (by kernel_rfl) (fun _ _ _ h => h) HS.out (yieldsIf_plain rfl (fun W hW => by clear hW; go_simp)) ?_
            simp only [List.getElem_toArray, List.getElem_cons_succ, List.getElem_cons_zero, Act.put, List.setIfInBounds_toArray, List.set_cons_zero, List.set_cons_succ]
            refine wpAnyT_take (i := 4) (n := 17) (v := .int .i64 (4 * (i : Int) - 32)) rfl (by kernel_rfl) (fun _ _ _ h => h) HS.out (yieldsIf_plain rfl (fun W hW => by clear hW; go_simp)) ?_
            simp only [List.getElem_toArray, List.getElem_cons_succ, List.getElem_cons_zero, Act.put, List.setIfInBounds_toArray, List.set_cons_zero, List.set_cons_succ]
            refine wpAnyT_take (i := 5) (n := 17) (v := .int .i64 k) rfl (by kernel_rfl) (fun _ _ _ h => h) HS.out (yieldsIf_plain rfl (fun W hW => by clear hW; go_simp)) ?_
            simp only [List.getElem_toArray, List.getElem_cons_succ, List.getElem_cons_zero, Act.put, List.setIfInBounds_toArray, List.set_cons_zero, List.set_cons_succ]
            refine wpAnyT_take (i := 6) (n := 17) (v := .int .i64 n) rfl (by kernel_rfl) (fun _ _ _ h => h) HS.out (yieldsIf_plain rfl (fun W hW => by clear hW; go_simp)) ?_
            simp only [List.getElem_toArray, List.getElem_cons_succ, List.getElem_cons_zero, Act.put, List.setIfInBounds_toArray, List.set_cons_zero, List.set_cons_succ]
            refine wpAnyT_take (i := 7) (n := 17) (v := .pointer (some ⟨g, n, none⟩)) rfl (by kernel_rfl) (fun _ _ _ h => h) HS.out (yieldsIf_plain rfl (fun W hW => by clear hW; go_simp)) ?_
            simp only [List.getElem_toArray, List.getElem_cons_succ, List.getElem_cons_zero, Act.put, List.setIfInBounds_toArray, List.set_cons_zero, List.set_cons_succ]
            refine wpAnyT_take (i := 8) (n := 17) (v := .int .u8 (a.toNat : Int)) rfl (by kernel_rfl) (fun _ _ _ h => h) HS.out (yieldsIf_plain rfl (fun W hW => by have h1 := hW.1; clear hW; go_simp)) ?_
            simp only [List.getElem_toArray, List.getElem_cons_succ, List.getElem_cons_zero, Act.put, List.setIfInBounds_toArray, List.set_cons_zero, List.set_cons_succ]
            refine wpAnyT_take (i := 9) (n := 17) (v := .slice (some ⟨T9, 0, none⟩) 4 4) rfl (by kernel_rfl) (fun _ _ _ h => h) HS.out (yieldsIf_plain rfl (fun W hW => by clear hW; go_simp)) ?_
            simp only [List.getElem_toArray, List.getElem_cons_succ, List.getElem_cons_zero, Act.put, List.setIfInBounds_toArray, List.set_cons_zero, List.set_cons_succ]
            refine wpAnyT_take (i := 10) (n := 17) (v := .int .i64 k) rfl (by kernel_rfl) (fun _ _ _ h => h) HS.out (yieldsIf_plain rfl (fun W hW => by clear hW; go_simp)) ?_
            simp only [List.getElem_toArray, List.getElem_cons_succ, List.getElem_cons_zero, Act.put, List.setIfInBounds_toArray, List.set_cons_zero, List.set_cons_succ]
            refine wpAnyT_take (i := 11) (n := 17) (v := .pointer (some ⟨T9, k, none⟩)) rfl (by kernel_rfl) (fun _ _ _ h => h) HS.out (yieldsIf_plain rfl (fun W hW => by clear hW; go_simp)) ?_
            simp only [List.getElem_toArray, List.getElem_cons_succ, List.getElem_cons_zero, Act.put, List.setIfInBounds_toArray, List.set_cons_zero, List.set_cons_succ]
            refine wpAnyT_take (i := 12) (n := 17) (v := .int .u8 (b.toNat : Int)) rfl (by kernel_rfl) (fun _ _ _ h => h) HS.out (yieldsIf_plain rfl (fun W hW => by have h1 := hW.2; clear hW; go_simp)) ?_
            simp only [List.getElem_toArray, List.getElem_cons_succ, List.getElem_cons_zero, Act.put, List.setIfInBounds_toArray, List.set_cons_zero, List.set_cons_succ]
            refine wpAnyT_take (i := 13) (n := 17) (v := .int .u8 (z.toNat : Int)) rfl (by kernel_rfl) (fun _ _ _ h => h) HS.out (yieldsIf_plain rfl (fun W hW => by clear hW; go_simp)) ?_
            simp only [List.getElem_toArray, List.getElem_cons_succ, List.getElem_cons_zero, Act.put, List.setIfInBounds_toArray, List.set_cons_zero, List.set_cons_succ]
            refine wpAnyT_one (i := 14) rfl (by kernel_rfl) (wpOp_plain rfl rfl (fun K hK => ?_))
            simp only [List.getElem_toArray, List.getElem_cons_succ, List.getElem_cons_zero, Act.put, List.setIfInBounds_toArray, List.set_cons_zero, List.set_cons_succ]
            have HK := Lib.hid hK
            clear hK
            go_wp2_with fail
            refine HK.out _ _ ⟨fun _ => HSn.out, ?_⟩
            clear HK K
            try simp only [List.getElem_toArray, List.getElem_cons_succ, List.getElem_cons_zero, Act.put, List.setIfInBounds_toArray, List.set_cons_zero, List.set_cons_succ]
            refine wpAnyT_of_any trivial [15, 16] _ _ _ _ (by kernel_rfl) (by simp) (.inr rfl) ?_
            simp only [List.filterMap_cons, List.filterMap_nil, List.getElem?_toArray, List.getElem?_cons_zero, List.getElem?_cons_succ]
            refine wpList_append_byte (op := ⟨some 120, _, _, _, _, _⟩) rfl (.tmp 105) (.tmp 119) rfl g cap (Xs ++ full (wordF Xs i) k) HBn.out HLy.out L HLx.out rfl wy.heap.size 1 rfl z HZn.out ?_
            intro g' cap' w' hb' hgr hat
            have hlt' := hb'.lt
            have HB' := Lib.hid (show BRow w' g' cap' (Xs ++ full (wordF Xs i) (k + 1)) by rw [HFS.out]; first | exact hb' | (rw [List.append_assoc]; exact hb'))
            have hTn : T9 ≠ g' := by
              rcases hat with h | h
              · rw [h]; exact hTg
              · first | (rw [h]; omega) | (simp at h; omega)
            have hgn : g0 ≤ g' := by
              have hwy : w.heap.size ≤ wy.heap.size := by have := HFn.out.size; have := HG0.out; have := HBn.out.lt; simp at *; omega
              rcases hat with h | h
              · rw [h]; exact hg
              · have := HG0.out; first | (rw [h]; omega) | (simp at h; omega)
            have HT' := Lib.hid ((hgr.block T9 (by simp; omega) (fun e => hTg (Option.some.inj e))).trans HTn.out)
            have HF' := Lib.hid (HFn.out.grown hgr (fun k hk => .inr (by have := HG0.out; have := Option.some.inj hk; omega)))
            clear hb' hgr hat
            go_wp2
            go_roundw
            case rel => exact ⟨k + 1, g', cap', L + 1, by omega, by rw [HLa.out]; omega, rfl, by go_num, HB'.out, hgn, hTn, HT'.out, HF'.out⟩
            case measure => simp [intOf]; omega
          · have hk4 : k = 4 := by omega
            rw [hk4] at HBa HLa
            have HBq := Lib.hid (show BRow wr g cap (wkT key (i + 1)) by rw [wkT_next key i HI.out.1, ← HXs.out]; exact HBa.out)
            have HLq := Lib.hid (show L = 4 * (i + 1) by rw [HLa.out]; omega)
            clear hk4 hL hfl hXl
            go_wp2
            go_roundw
            case rel => exact ⟨i + 1, g, cap, L, by omega, by omega, HLq.out, rfl, by rw [HPW.out], by go_num, HBq.out, hg, HFa.out⟩
            case measure => simp [intOf]; omega
      · by_cases h4 : r = 4
        · have q0 : ((r : Int) == 0) = false := by simpa using h0
          have q4 : ((r : Int) == 4) = true := by simp; omega
          have HPW := Lib.hid (show pw (i + 1) = pw i from pw_same i (by have := HR.out; omega))
          have HR4 := Lib.hid h4
          clear h0 h4
          go_wp2
          generalize (wr.alloc (.cells #[.int .u8 (x0.toNat : Int), .int .u8 (x1.toNat : Int), .int .u8 (x2.toNat : Int), .int .u8 (x3.toNat : Int)] 5)).drew = w6 at HTe HBe HFe ⊢
          obtain ⟨T, hT⟩ : ∃ T, T = wr.heap.size := ⟨_, rfl⟩
          rw [← hT] at HTe hTg ⊢
          clear hT HB HF
          have htab : Tab w6.drew X := HT.out.fr HFe.out.drew id
          obtain ⟨y0, hy0⟩ : ∃ y, y = box x0 := ⟨_, rfl⟩
          obtain ⟨y1, hy1⟩ : ∃ y, y = box x1 := ⟨_, rfl⟩
          obtain ⟨y2, hy2⟩ : ∃ y, y = box x2 := ⟨_, rfl⟩
          obtain ⟨y3, hy3⟩ : ∃ y, y = box x3 := ⟨_, rfl⟩
          have d0 : w6.drew.cell? ⟨X, x0.toNat, none⟩ = some (.int .u8 (y0.toNat : Int)) := by rw [hy0]; exact htab x0
          have d1 : w6.drew.cell? ⟨X, x1.toNat, none⟩ = some (.int .u8 (y1.toNat : Int)) := by rw [hy1]; exact htab x1
          have d2 : w6.drew.cell? ⟨X, x2.toNat, none⟩ = some (.int .u8 (y2.toNat : Int)) := by rw [hy2]; exact htab x2
          have d3 : w6.drew.cell? ⟨X, x3.toNat, none⟩ = some (.int .u8 (y3.toNat : Int)) := by rw [hy3]; exact htab x3
          have f0 : w6.drew.cell? ⟨T, 0, none⟩ = some (.int .u8 (x0.toNat : Int)) := bcells_cell (w := w6.drew) HTe.out 0 x0 rfl
          have f1 : w6.drew.cell? ⟨T, 1, none⟩ = some (.int .u8 (x1.toNat : Int)) := bcells_cell (w := w6.drew) HTe.out 1 x1 rfl
          have f2 : w6.drew.cell? ⟨T, 2, none⟩ = some (.int .u8 (x2.toNat : Int)) := bcells_cell (w := w6.drew) HTe.out 2 x2 rfl
          have f3 : w6.drew.cell? ⟨T, 3, none⟩ = some (.int .u8 (x3.toNat : Int)) := bcells_cell (w := w6.drew) HTe.out 3 x3 rfl
          have gx0 : (x0.toNat : Int) < 256 := by omega
          have gx1 : (x1.toNat : Int) < 256 := by omega
          have gx2 : (x2.toNat : Int) < 256 := by omega
          have gx3 : (x3.toNat : Int) < 256 := by omega
          have hT6 : T < w6.heap.size := lt_of_heap HTe.out
          have HTL := Lib.hid (show ∀ k, k < 4 → [y0, y1, y2, y3][k]? = some (wordT Xs i k) from fun k hk => by
            obtain ⟨g0, g1, g2, g3⟩ := HH.out
            have hr := HR.out
            obtain ⟨hi8, _⟩ := HI.out
            have : k = 0 ∨ k = 1 ∨ k = 2 ∨ k = 3 := by omega
            rcases this with rfl | rfl | rfl | rfl
            · simp only [wordT]; have := HR4.out; rw [if_neg (by omega), if_pos (by omega), show 4 * i - 4 + 0 = 4 * i - 4 by omega, ← g0, hy0]; rfl
            · simp only [wordT]; have := HR4.out; rw [if_neg (by omega), if_pos (by omega), show 4 * i - 4 + 1 = 4 * i - 3 by omega, ← g1, hy1]; rfl
            · simp only [wordT]; have := HR4.out; rw [if_neg (by omega), if_pos (by omega), show 4 * i - 4 + 2 = 4 * i - 2 by omega, ← g2, hy2]; rfl
            · simp only [wordT]; have := HR4.out; rw [if_neg (by omega), if_pos (by omega), show 4 * i - 4 + 3 = 4 * i - 1 by omega, ← g3, hy3]; rfl)
          clear hy0 hy1 hy2 hy3 htab
          refine wp_region_still_tail 24 (by kernel_rfl) (by kernel_rfl) ?_
          simp only [List.take_succ_cons, List.take_zero, List.drop_succ_cons, List.drop_zero]
          change wpStill _ _ w6.drew (fun a' => wpList _ _ _ _ a' w6.drew) _ _
          repeat still_step
          refine wpStill_nil ?_
          go_wp2
          have hfe : Fr (fun _ => False) w6 (w6.alloc (.cells #[.int .u8 (y0.toNat : Int), .int .u8 (y1.toNat : Int), .int .u8 (y2.toNat : Int), .int .u8 (y3.toNat : Int)] 5)).drew := ((Fr.refl _ _).alloc _).drew
          have HT9 := Lib.hid (show (w6.alloc (.cells #[.int .u8 (y0.toNat : Int), .int .u8 (y1.toNat : Int), .int .u8 (y2.toNat : Int), .int .u8 (y3.toNat : Int)] 5)).drew.heap[w6.heap.size]? = some (.cells (bcells [y0, y1, y2, y3]).toArray 5 (0, 0)) from heap_alloc_new w6 _)
          have HB9 := Lib.hid (HBe.out.fr hfe id)
          have HF9 := Lib.hid ((HFe.out.alloc (.cells #[.int .u8 (y0.toNat : Int), .int .u8 (y1.toNat : Int), .int .u8 (y2.toNat : Int), .int .u8 (y3.toNat : Int)] 5)).drew)
          generalize (w6.alloc (.cells #[.int .u8 (y0.toNat : Int), .int .u8 (y1.toNat : Int), .int .u8 (y2.toNat : Int), .int .u8 (y3.toNat : Int)] 5)).drew = w9 at HT9 HB9 HF9 ⊢
          obtain ⟨T9, hT9⟩ : ∃ T, T = w6.heap.size := ⟨_, rfl⟩
          rw [← hT9] at HT9 hT6 ⊢
          clear hfe hT9 HTe HBe HFe d0 d1 d2 d3 f0 f1 f2 f3
          go_loopw [5, 9] (fun v5 v9 wr => ∃ (k g cap L : Nat), k ≤ 4 ∧ L = 4 * i + k ∧ v5 = .slice (some ⟨g, 0, none⟩) L cap ∧ v9 = .int .i64 k ∧ BRow wr g cap (Xs ++ full (wordF Xs i) k) ∧ g0 ≤ g ∧ T9 ≠ g ∧ wr.heap[T9]? = some (.cells (bcells [y0, y1, y2, y3]).toArray 5 (0, 0)) ∧ Fr (fun _ => False) w wr) (fun _ v9 _ => 4 - (intOf v9).toNat)
          case atStart => exact ⟨0, g, cap, L, Nat.zero_le _, by rw [HL.out]; rfl, rfl, rfl, by simpa [full] using HB9.out, hg, by omega, HT9.out, HF9.out⟩
          case round =>
            obtain ⟨k, g, cap, L, hk, hL, rfl, rfl, hB, hg, hTg, hT, hf⟩ := hrel
            have HBa := Lib.hid hB
            have HTa := Lib.hid hT
            have HFa := Lib.hid hf
            have HLa := Lib.hid hL
            clear hB hT hf HB9 HT9 HF9
            have hfl := full_length (wordF Xs i) k
            have hXl := HXl.out
            by_cases hlk : k < 4
            · obtain ⟨n, hn⟩ : ∃ n, n = 4 * i - 32 + k := ⟨_, rfl⟩
              obtain ⟨a, ha⟩ : ∃ a, a = Xs.getD (4 * i - 32 + k) 0 := ⟨_, rfl⟩
              obtain ⟨b, hb⟩ : ∃ b, b = wordT Xs i k := ⟨_, rfl⟩
              obtain ⟨z, hz⟩ : ∃ z, z = a ^^^ b := ⟨_, rfl⟩
              have hfk : wordF Xs i k = z := by rw [hz, ha, hb]; rfl
              have d1 : wr.drew.cell? ⟨g, n, none⟩ = some (.int .u8 (a.toNat : Int)) := HBa.out.cell n a (by
                rw [hn, ha, List.getElem?_append_left (by omega), List.getD_eq_getElem?_getD, List.getElem?_eq_getElem (by omega)]; rfl)
              have d2 : wr.drew.cell? ⟨T9, k, none⟩ = some (.int .u8 (b.toNat : Int)) := bcells_cell (w := wr.drew) HTa.out k b (by rw [hb]; exact HTL.out k hlk)
              have e1 := xor_u8 a b
              rw [← hz] at e1
              have hw0 : IntKind.i64.wrap (4 * (i : Int)) = 4 * (i : Int) := IntWalk.i64_in _ (by omega)
              have hw1 : IntKind.i64.wrap (4 * (i : Int) - 32) = 4 * (i : Int) - 32 := IntWalk.i64_in _ (by omega)
              have hw2 : IntKind.i64.wrap (4 * (i : Int) - 32 + (k : Int)) = (n : Int) := by rw [IntWalk.i64_in _ (by omega)]; omega
              have hnL : (n : Int) < (L : Int) := by omega
              have b1 := a.toNat_lt
              have b2 := b.toNat_lt
              have b3 := z.toNat_lt
              have HLx := Lib.hid (show L = (Xs ++ full (wordF Xs i) k).length by rw [List.length_append, hfl, hXl]; exact hL)
              have HLy := Lib.hid (show (Xs ++ full (wordF Xs i) k).length ≤ 100000 by rw [List.length_append, hfl, hXl]; omega)
              have HFS := Lib.hid (show Xs ++ full (wordF Xs i) (k + 1) = Xs ++ full (wordF Xs i) k ++ [z] by rw [full_succ, hfk, List.append_assoc])
              have hfa : Fr (fun _ => False) wr.drew (wr.drew.alloc (.cells #[.int .u8 (z.toNat : Int)] 5)) := (Fr.refl _ _).alloc _
              have HBn := Lib.hid (show BRow (wr.drew.alloc (.cells #[.int .u8 (z.toNat : Int)] 5)) g cap (Xs ++ full (wordF Xs i) k) from BRow.fr (w := wr.drew) HBa.out hfa id)
              have HZn := Lib.hid (show (wr.drew.alloc (.cells #[.int .u8 (z.toNat : Int)] 5)).cell? ⟨wr.drew.heap.size, 0, none⟩ = some (.int .u8 (z.toNat : Int)) from (cell_of_row _ _ 0 _ _ _ (heap_alloc_new wr.drew _)).trans rfl)
              have HTn := Lib.hid (hfa.heap (show wr.drew.heap[T9]? = _ from HTa.out) id)
              have HFn := Lib.hid (HFa.out.drew.alloc (.cells #[.int .u8 (z.toNat : Int)] 5))
              have hTlt : T9 < wr.drew.heap.size := lt_of_heap (show wr.drew.heap[T9]? = _ from HTa.out)
              clear ha hb hz hfk hn hfl hXl hL
              go_wp2
              refine wp_region_till (fun W => W.cell? ⟨g, n, none⟩ = some (.int .u8 (a.toNat : Int)) ∧ W.cell? ⟨T9, k, none⟩ = some (.int .u8 (b.toNat : Int))) 15 (by kernel_rfl) ?_
              have HS := Lib.hid (show wr.drew.cell? ⟨g, n, none⟩ = some (.int .u8 (a.toNat : Int)) ∧ wr.drew.cell? ⟨T9, k, none⟩ = some (.int .u8 (b.toNat : Int)) from ⟨d1, d2⟩)
              have HSn := Lib.hid (show (wr.drew.alloc (.cells #[.int .u8 (z.toNat : Int)] 5)).cell? ⟨g, n, none⟩ = some (.int .u8 (a.toNat : Int)) ∧ (wr.drew.alloc (.cells #[.int .u8 (z.toNat : Int)] 5)).cell? ⟨T9, k, none⟩ = some (.int .u8 (b.toNat : Int)) from ⟨hfa.cell d1 id, hfa.cell d2 id⟩)
              clear hfa
              generalize wr.drew = wy at d1 d2 HS HSn HBn HZn HTn HFn hTlt ⊢
              refine wpAnyT_take (i := 0) (n := 17) (v := .slice (some ⟨g, 0, none⟩) L cap) rfl (by kernel_rfl) (fun _ _ _ h => h) HS.out (yieldsIf_plain rfl (fun W hW => by clear hW; go_simp)) ?_
              simp only [List.getElem_toArray, List.getElem_cons_succ, List.getElem_cons_zero, Act.put, List.setIfInBounds_toArray, List.set_cons_zero, List.set_cons_succ]
              refine wpAnyT_take (i := 1) (n := 17) (v := .slice (some ⟨g, 0, none⟩) L cap) rfl (by kernel_rfl) (fun _ _ _ h => h) HS.out (yieldsIf_plain rfl (fun W hW => by clear hW; go_simp)) ?_
              simp only [List.getElem_toArray, List.getElem_cons_succ, List.getElem_cons_zero, Act.put, List.setIfInBounds_toArray, List.set_cons_zero, List.set_cons_succ]
              refine wpAnyT_take (i := 2) (n := 17) (v := .int .i64 i) rfl (by kernel_rfl) (fun _ _ _ h => h) HS.out (yieldsIf_plain rfl (fun W hW => by clear hW; go_simp)) ?_
              simp only [List.getElem_toArray, List.getElem_cons_succ, List.getElem_cons_zero, Act.put, List.setIfInBounds_toArray, List.set_cons_zero, List.set_cons_succ]
              refine wpAnyT_take (i := 3) (n := 17) (v := .int .i64 (4 * (i : Int))) rfl (by kernel_rfl) (fun _ _ _ h => h) HS.out (yieldsIf_plain rfl (fun W hW => by clear hW; go_simp)) ?_
              simp only [List.getElem_toArray, List.getElem_cons_succ, List.getElem_cons_zero, Act.put, List.setIfInBounds_toArray, List.set_cons_zero, List.set_cons_succ]
              refine wpAnyT_take (i := 4) (n := 17) (v := .int .i64 (4 * (i : Int) - 32)) rfl (by kernel_rfl) (fun _ _ _ h => h) HS.out (yieldsIf_plain rfl (fun W hW => by clear hW; go_simp)) ?_
              simp only [List.getElem_toArray, List.getElem_cons_succ, List.getElem_cons_zero, Act.put, List.setIfInBounds_toArray, List.set_cons_zero, List.set_cons_succ]
              refine wpAnyT_take (i := 5) (n := 17) (v := .int .i64 k) rfl (by kernel_rfl) (fun _ _ _ h => h) HS.out (yieldsIf_plain rfl (fun W hW => by clear hW; go_simp)) ?_
              simp only [List.getElem_toArray, List.getElem_cons_succ, List.getElem_cons_zero, Act.put, List.setIfInBounds_toArray, List.set_cons_zero, List.set_cons_succ]
              refine wpAnyT_take (i := 6) (n := 17) (v := .int .i64 n) rfl (by kernel_rfl) (fun _ _ _ h => h) HS.out (yieldsIf_plain rfl (fun W hW => by clear hW; go_simp)) ?_
              simp only [List.getElem_toArray, List.getElem_cons_succ, List.getElem_cons_zero, Act.put, List.setIfInBounds_toArray, List.set_cons_zero, List.set_cons_succ]
              refine wpAnyT_take (i := 7) (n := 17) (v := .pointer (some ⟨g, n, none⟩)) rfl (by kernel_rfl) (fun _ _ _ h => h) HS.out (yieldsIf_plain rfl (fun W hW => by clear hW; go_simp)) ?_
              simp only [List.getElem_toArray, List.getElem_cons_succ, List.getElem_cons_zero, Act.put, List.setIfInBounds_toArray, List.set_cons_zero, List.set_cons_succ]
              refine wpAnyT_take (i := 8) (n := 17) (v := .int .u8 (a.toNat : Int)) rfl (by kernel_rfl) (fun _ _ _ h => h) HS.out (yieldsIf_plain rfl (fun W hW => by have h1 := hW.1; clear hW; go_simp)) ?_
              simp only [List.getElem_toArray, List.getElem_cons_succ, List.getElem_cons_zero, Act.put, List.setIfInBounds_toArray, List.set_cons_zero, List.set_cons_succ]
              refine wpAnyT_take (i := 9) (n := 17) (v := .slice (some ⟨T9, 0, none⟩) 4 4) rfl (by kernel_rfl) (fun _ _ _ h => h) HS.out (yieldsIf_plain rfl (fun W hW => by clear hW; go_simp)) ?_
              simp only [List.getElem_toArray, List.getElem_cons_succ, List.getElem_cons_zero, Act.put, List.setIfInBounds_toArray, List.set_cons_zero, List.set_cons_succ]
              refine wpAnyT_take (i := 10) (n := 17) (v := .int .i64 k) rfl (by kernel_rfl) (fun _ _ _ h => h) HS.out (yieldsIf_plain rfl (fun W hW => by clear hW; go_simp)) ?_
              simp only [List.getElem_toArray, List.getElem_cons_succ, List.getElem_cons_zero, Act.put, List.setIfInBounds_toArray, List.set_cons_zero, List.set_cons_succ]
              refine wpAnyT_take (i := 11) (n := 17) (v := .pointer (some ⟨T9, k, none⟩)) rfl (by kernel_rfl) (fun _ _ _ h => h) HS.out (yieldsIf_plain rfl (fun W hW => by clear hW; go_simp)) ?_
              simp only [List.getElem_toArray, List.getElem_cons_succ, List.getElem_cons_zero, Act.put, List.setIfInBounds_toArray, List.set_cons_zero, List.set_cons_succ]
              refine wpAnyT_take (i := 12) (n := 17) (v := .int .u8 (b.toNat : Int)) rfl (by kernel_rfl) (fun _ _ _ h => h) HS.out (yieldsIf_plain rfl (fun W hW => by have h1 := hW.2; clear hW; go_simp)) ?_
              simp only [List.getElem_toArray, List.getElem_cons_succ, List.getElem_cons_zero, Act.put, List.setIfInBounds_toArray, List.set_cons_zero, List.set_cons_succ]
              refine wpAnyT_take (i := 13) (n := 17) (v := .int .u8 (z.toNat : Int)) rfl (by kernel_rfl) (fun _ _ _ h => h) HS.out (yieldsIf_plain rfl (fun W hW => by clear hW; go_simp)) ?_
              simp only [List.getElem_toArray, List.getElem_cons_succ, List.getElem_cons_zero, Act.put, List.setIfInBounds_toArray, List.set_cons_zero, List.set_cons_succ]
              refine wpAnyT_one (i := 14) rfl (by kernel_rfl) (wpOp_plain rfl rfl (fun K hK => ?_))
              simp only [List.getElem_toArray, List.getElem_cons_succ, List.getElem_cons_zero, Act.put, List.setIfInBounds_toArray, List.set_cons_zero, List.set_cons_succ]
              have HK := Lib.hid hK
              clear hK
              go_wp2_with fail
              refine HK.out _ _ ⟨fun _ => HSn.out, ?_⟩
              clear HK K
              try simp only [List.getElem_toArray, List.getElem_cons_succ, List.getElem_cons_zero, Act.put, List.setIfInBounds_toArray, List.set_cons_zero, List.set_cons_succ]
              refine wpAnyT_of_any trivial [15, 16] _ _ _ _ (by kernel_rfl) (by simp) (.inr rfl) ?_
              simp only [List.filterMap_cons, List.filterMap_nil, List.getElem?_toArray, List.getElem?_cons_zero, List.getElem?_cons_succ]
              refine wpList_append_byte (op := ⟨some 120, _, _, _, _, _⟩) rfl (.tmp 105) (.tmp 119) rfl g cap (Xs ++ full (wordF Xs i) k) HBn.out HLy.out L HLx.out rfl wy.heap.size 1 rfl z HZn.out ?_
              intro g' cap' w' hb' hgr hat
              have hlt' := hb'.lt
              have HB' := Lib.hid (show BRow w' g' cap' (Xs ++ full (wordF Xs i) (k + 1)) by rw [HFS.out]; first | exact hb' | (rw [List.append_assoc]; exact hb'))
              have hTn : T9 ≠ g' := by
                rcases hat with h | h
                · rw [h]; exact hTg
                · first | (rw [h]; omega) | (simp at h; omega)
              have hgn : g0 ≤ g' := by
                have hwy : w.heap.size ≤ wy.heap.size := by have := HFn.out.size; have := HG0.out; have := HBn.out.lt; simp at *; omega
                rcases hat with h | h
                · rw [h]; exact hg
                · have := HG0.out; first | (rw [h]; omega) | (simp at h; omega)
              have HT' := Lib.hid ((hgr.block T9 (by simp; omega) (fun e => hTg (Option.some.inj e))).trans HTn.out)
              have HF' := Lib.hid (HFn.out.grown hgr (fun k hk => .inr (by have := HG0.out; have := Option.some.inj hk; omega)))
              clear hb' hgr hat
              go_wp2
              go_roundw
              case rel => exact ⟨k + 1, g', cap', L + 1, by omega, by rw [HLa.out]; omega, rfl, by go_num, HB'.out, hgn, hTn, HT'.out, HF'.out⟩
              case measure => simp [intOf]; omega
            · have hk4 : k = 4 := by omega
              rw [hk4] at HBa HLa
              have HBq := Lib.hid (show BRow wr g cap (wkT key (i + 1)) by rw [wkT_next key i HI.out.1, ← HXs.out]; exact HBa.out)
              have HLq := Lib.hid (show L = 4 * (i + 1) by rw [HLa.out]; omega)
              clear hk4 hL hfl hXl
              go_wp2
              go_roundw
              case rel => exact ⟨i + 1, g, cap, L, by omega, by omega, HLq.out, rfl, by rw [HPW.out], by go_num, HBq.out, hg, HFa.out⟩
              case measure => simp [intOf]; omega
        · have q0 : ((r : Int) == 0) = false := by simpa using h0
          have q4 : ((r : Int) == 4) = false := by simp; omega
          have HPW := Lib.hid (show pw (i + 1) = pw i from pw_same i (by have := HR.out; omega))
          have HTL := Lib.hid (show ∀ k, k < 4 → [x0, x1, x2, x3][k]? = some (wordT Xs i k) from fun k hk => by
            obtain ⟨g0, g1, g2, g3⟩ := HH.out
            have hr := HR.out
            obtain ⟨hi8, _⟩ := HI.out
            have : k = 0 ∨ k = 1 ∨ k = 2 ∨ k = 3 := by omega
            rcases this with rfl | rfl | rfl | rfl
            · simp only [wordT]; rw [if_neg (by omega), if_neg (by omega), show 4 * i - 4 + 0 = 4 * i - 4 by omega, ← g0]; rfl
            · simp only [wordT]; rw [if_neg (by omega), if_neg (by omega), show 4 * i - 4 + 1 = 4 * i - 3 by omega, ← g1]; rfl
            · simp only [wordT]; rw [if_neg (by omega), if_neg (by omega), show 4 * i - 4 + 2 = 4 * i - 2 by omega, ← g2]; rfl
            · simp only [wordT]; rw [if_neg (by omega), if_neg (by omega), show 4 * i - 4 + 3 = 4 * i - 1 by omega, ← g3]; rfl)
          clear h0 h4
          go_wp2
          generalize (wr.alloc (.cells #[.int .u8 (x0.toNat : Int), .int .u8 (x1.toNat : Int), .int .u8 (x2.toNat : Int), .int .u8 (x3.toNat : Int)] 5)).drew = w6 at HTe HBe HFe ⊢
          obtain ⟨T, hT⟩ : ∃ T, T = wr.heap.size := ⟨_, rfl⟩
          rw [← hT] at HTe hTg ⊢
          clear hT HB HF
          have HT9 := HTe
          have HB9 := HBe
          have HF9 := HFe
          clear HTe HBe HFe
          go_loopw [5, 9] (fun v5 v9 wr => ∃ (k g cap L : Nat), k ≤ 4 ∧ L = 4 * i + k ∧ v5 = .slice (some ⟨g, 0, none⟩) L cap ∧ v9 = .int .i64 k ∧ BRow wr g cap (Xs ++ full (wordF Xs i) k) ∧ g0 ≤ g ∧ T ≠ g ∧ wr.heap[T]? = some (.cells (bcells [x0, x1, x2, x3]).toArray 5 (0, 0)) ∧ Fr (fun _ => False) w wr) (fun _ v9 _ => 4 - (intOf v9).toNat)
          case atStart => exact ⟨0, g, cap, L, Nat.zero_le _, by rw [HL.out]; rfl, rfl, rfl, by simpa [full] using HB9.out, hg, by omega, HT9.out, HF9.out⟩
          case round =>
            obtain ⟨k, g, cap, L, hk, hL, rfl, rfl, hB, hg, hTg, hT, hf⟩ := hrel
            have HBa := Lib.hid hB
            have HTa := Lib.hid hT
            have HFa := Lib.hid hf
            have HLa := Lib.hid hL
            clear hB hT hf HB9 HT9 HF9
            have hfl := full_length (wordF Xs i) k
            have hXl := HXl.out
            by_cases hlk : k < 4
            · obtain ⟨n, hn⟩ : ∃ n, n = 4 * i - 32 + k := ⟨_, rfl⟩
              obtain ⟨a, ha⟩ : ∃ a, a = Xs.getD (4 * i - 32 + k) 0 := ⟨_, rfl⟩
              obtain ⟨b, hb⟩ : ∃ b, b = wordT Xs i k := ⟨_, rfl⟩
              obtain ⟨z, hz⟩ : ∃ z, z = a ^^^ b := ⟨_, rfl⟩
              have hfk : wordF Xs i k = z := by rw [hz, ha, hb]; rfl
              have d1 : wr.drew.cell? ⟨g, n, none⟩ = some (.int .u8 (a.toNat : Int)) := HBa.out.cell n a (by
                rw [hn, ha, List.getElem?_append_left (by omega), List.getD_eq_getElem?_getD, List.getElem?_eq_getElem (by omega)]; rfl)
              have d2 : wr.drew.cell? ⟨T, k, none⟩ = some (.int .u8 (b.toNat : Int)) := bcells_cell (w := wr.drew) HTa.out k b (by rw [hb]; exact HTL.out k hlk)
              have e1 := xor_u8 a b
              rw [← hz] at e1
              have hw0 : IntKind.i64.wrap (4 * (i : Int)) = 4 * (i : Int) := IntWalk.i64_in _ (by omega)
              have hw1 : IntKind.i64.wrap (4 * (i : Int) - 32) = 4 * (i : Int) - 32 := IntWalk.i64_in _ (by omega)
              have hw2 : IntKind.i64.wrap (4 * (i : Int) - 32 + (k : Int)) = (n : Int) := by rw [IntWalk.i64_in _ (by omega)]; omega
              have hnL : (n : Int) < (L : Int) := by omega
              have b1 := a.toNat_lt
              have b2 := b.toNat_lt
              have b3 := z.toNat_lt
              have HLx := Lib.hid (show L = (Xs ++ full (wordF Xs i) k).length by rw [List.length_append, hfl, hXl]; exact hL)
              have HLy := Lib.hid (show (Xs ++ full (wordF Xs i) k).length ≤ 100000 by rw [List.length_append, hfl, hXl]; omega)
              have HFS := Lib.hid (show Xs ++ full (wordF Xs i) (k + 1) = Xs ++ full (wordF Xs i) k ++ [z] by rw [full_succ, hfk, List.append_assoc])
              have hfa : Fr (fun _ => False) wr.drew (wr.drew.alloc (.cells #[.int .u8 (z.toNat : Int)] 5)) := (Fr.refl _ _).alloc _
              have HBn := Lib.hid (show BRow (wr.drew.alloc (.cells #[.int .u8 (z.toNat : Int)] 5)) g cap (Xs ++ full (wordF Xs i) k) from BRow.fr (w := wr.drew) HBa.out hfa id)
              have HZn := Lib.hid (show (wr.drew.alloc (.cells #[.int .u8 (z.toNat : Int)] 5)).cell? ⟨wr.drew.heap.size, 0, none⟩ = some (.int .u8 (z.toNat : Int)) from (cell_of_row _ _ 0 _ _ _ (heap_alloc_new wr.drew _)).trans rfl)
              have HTn := Lib.hid (hfa.heap (show wr.drew.heap[T]? = _ from HTa.out) id)
              have HFn := Lib.hid (HFa.out.drew.alloc (.cells #[.int .u8 (z.toNat : Int)] 5))
              have hTlt : T < wr.drew.heap.size := lt_of_heap (show wr.drew.heap[T]? = _ from HTa.out)
              clear ha hb hz hfk hn hfl hXl hL
              go_wp2
              refine wp_region_till (fun W => W.cell? ⟨g, n, none⟩ = some (.int .u8 (a.toNat : Int)) ∧ W.cell? ⟨T, k, none⟩ = some (.int .u8 (b.toNat : Int))) 15 (by kernel_rfl) ?_
              have HS := Lib.hid (show wr.drew.cell? ⟨g, n, none⟩ = some (.int .u8 (a.toNat : Int)) ∧ wr.drew.cell? ⟨T, k, none⟩ = some (.int .u8 (b.toNat : Int)) from ⟨d1, d2⟩)
              have HSn := Lib.hid (show (wr.drew.alloc (.cells #[.int .u8 (z.toNat : Int)] 5)).cell? ⟨g, n, none⟩ = some (.int .u8 (a.toNat : Int)) ∧ (wr.drew.alloc (.cells #[.int .u8 (z.toNat : Int)] 5)).cell? ⟨T, k, none⟩ = some (.int .u8 (b.toNat : Int)) from ⟨hfa.cell d1 id, hfa.cell d2 id⟩)
              clear hfa
              generalize wr.drew = wy at d1 d2 HS HSn HBn HZn HTn HFn hTlt ⊢
              refine wpAnyT_take (i := 0) (n := 17) (v := .slice (some ⟨g, 0, none⟩) L cap) rfl (by kernel_rfl) (fun _ _ _ h => h) HS.out (yieldsIf_plain rfl (fun W hW => by clear hW; go_simp)) ?_
              simp only [List.getElem_toArray, List.getElem_cons_succ, List.getElem_cons_zero, Act.put, List.setIfInBounds_toArray, List.set_cons_zero, List.set_cons_succ]
              refine wpAnyT_take (i := 1) (n := 17) (v := .slice (some ⟨g, 0, none⟩) L cap) rfl (by kernel_rfl) (fun _ _ _ h => h) HS.out (yieldsIf_plain rfl (fun W hW => by clear hW; go_simp)) ?_
              simp only [List.getElem_toArray, List.getElem_cons_succ, List.getElem_cons_zero, Act.put, List.setIfInBounds_toArray, List.set_cons_zero, List.set_cons_succ]
              refine wpAnyT_take (i := 2) (n := 17) (v := .int .i64 i) rfl (by kernel_rfl) (fun _ _ _ h => h) HS.out (yieldsIf_plain rfl (fun W hW => by clear hW; go_simp)) ?_
              simp only [List.getElem_toArray, List.getElem_cons_succ, List.getElem_cons_zero, Act.put, List.setIfInBounds_toArray, List.set_cons_zero, List.set_cons_succ]
              refine wpAnyT_take (i := 3) (n := 17) (v := .int .i64 (4 * (i : Int))) rfl (by kernel_rfl) (fun _ _ _ h => h) HS.out (yieldsIf_plain rfl (fun W hW => by clear hW; go_simp)) ?_
              simp only [List.getElem_toArray, List.getElem_cons_succ, List.getElem_cons_zero, Act.put, List.setIfInBounds_toArray, List.set_cons_zero, List.set_cons_succ]
              refine wpAnyT_take (i := 4) (n := 17) (v := .int .i64 (4 * (i : Int) - 32)) rfl (by kernel_rfl) (fun _ _ _ h => h) HS.out (yieldsIf_plain rfl (fun W hW => by clear hW; go_simp)) ?_
              simp only [List.getElem_toArray, List.getElem_cons_succ, List.getElem_cons_zero, Act.put, List.setIfInBounds_toArray, List.set_cons_zero, List.set_cons_succ]
              refine wpAnyT_take (i := 5) (n := 17) (v := .int .i64 k) rfl (by kernel_rfl) (fun _ _ _ h => h) HS.out (yieldsIf_plain rfl (fun W hW => by clear hW; go_simp)) ?_
              simp only [List.getElem_toArray, List.getElem_cons_succ, List.getElem_cons_zero, Act.put, List.setIfInBounds_toArray, List.set_cons_zero, List.set_cons_succ]
              refine wpAnyT_take (i := 6) (n := 17) (v := .int .i64 n) rfl (by kernel_rfl) (fun _ _ _ h => h) HS.out (yieldsIf_plain rfl (fun W hW => by clear hW; go_simp)) ?_
              simp only [List.getElem_toArray, List.getElem_cons_succ, List.getElem_cons_zero, Act.put, List.setIfInBounds_toArray, List.set_cons_zero, List.set_cons_succ]
              refine wpAnyT_take (i := 7) (n := 17) (v := .pointer (some ⟨g, n, none⟩)) rfl (by kernel_rfl) (fun _ _ _ h => h) HS.out (yieldsIf_plain rfl (fun W hW => by clear hW; go_simp)) ?_
              simp only [List.getElem_toArray, List.getElem_cons_succ, List.getElem_cons_zero, Act.put, List.setIfInBounds_toArray, List.set_cons_zero, List.set_cons_succ]
              refine wpAnyT_take (i := 8) (n := 17) (v := .int .u8 (a.toNat : Int)) rfl (by kernel_rfl) (fun _ _ _ h => h) HS.out (yieldsIf_plain rfl (fun W hW => by have h1 := hW.1; clear hW; go_simp)) ?_
              simp only [List.getElem_toArray, List.getElem_cons_succ, List.getElem_cons_zero, Act.put, List.setIfInBounds_toArray, List.set_cons_zero, List.set_cons_succ]
              refine wpAnyT_take (i := 9) (n := 17) (v := .slice (some ⟨T, 0, none⟩) 4 4) rfl (by kernel_rfl) (fun _ _ _ h => h) HS.out (yieldsIf_plain rfl (fun W hW => by clear hW; go_simp)) ?_
              simp only [List.getElem_toArray, List.getElem_cons_succ, List.getElem_cons_zero, Act.put, List.setIfInBounds_toArray, List.set_cons_zero, List.set_cons_succ]
              refine wpAnyT_take (i := 10) (n := 17) (v := .int .i64 k) rfl (by kernel_rfl) (fun _ _ _ h => h) HS.out (yieldsIf_plain rfl (fun W hW => by clear hW; go_simp)) ?_
              simp only [List.getElem_toArray, List.getElem_cons_succ, List.getElem_cons_zero, Act.put, List.setIfInBounds_toArray, List.set_cons_zero, List.set_cons_succ]
              refine wpAnyT_take (i := 11) (n := 17) (v := .pointer (some ⟨T, k, none⟩)) rfl (by kernel_rfl) (fun _ _ _ h => h) HS.out (yieldsIf_plain rfl (fun W hW => by clear hW; go_simp)) ?_
              simp only [List.getElem_toArray, List.getElem_cons_succ, List.getElem_cons_zero, Act.put, List.setIfInBounds_toArray, List.set_cons_zero, List.set_cons_succ]
              refine wpAnyT_take (i := 12) (n := 17) (v := .int .u8 (b.toNat : Int)) rfl (by kernel_rfl) (fun _ _ _ h => h) HS.out (yieldsIf_plain rfl (fun W hW => by have h1 := hW.2; clear hW; go_simp)) ?_
              simp only [List.getElem_toArray, List.getElem_cons_succ, List.getElem_cons_zero, Act.put, List.setIfInBounds_toArray, List.set_cons_zero, List.set_cons_succ]
              refine wpAnyT_take (i := 13) (n := 17) (v := .int .u8 (z.toNat : Int)) rfl (by kernel_rfl) (fun _ _ _ h => h) HS.out (yieldsIf_plain rfl (fun W hW => by clear hW; go_simp)) ?_
              simp only [List.getElem_toArray, List.getElem_cons_succ, List.getElem_cons_zero, Act.put, List.setIfInBounds_toArray, List.set_cons_zero, List.set_cons_succ]
              refine wpAnyT_one (i := 14) rfl (by kernel_rfl) (wpOp_plain rfl rfl (fun K hK => ?_))
              simp only [List.getElem_toArray, List.getElem_cons_succ, List.getElem_cons_zero, Act.put, List.setIfInBounds_toArray, List.set_cons_zero, List.set_cons_succ]
              have HK := Lib.hid hK
              clear hK
              go_wp2_with fail
              refine HK.out _ _ ⟨fun _ => HSn.out, ?_⟩
              clear HK K
              try simp only [List.getElem_toArray, List.getElem_cons_succ, List.getElem_cons_zero, Act.put, List.setIfInBounds_toArray, List.set_cons_zero, List.set_cons_succ]
              refine wpAnyT_of_any trivial [15, 16] _ _ _ _ (by kernel_rfl) (by simp) (.inr rfl) ?_
              simp only [List.filterMap_cons, List.filterMap_nil, List.getElem?_toArray, List.getElem?_cons_zero, List.getElem?_cons_succ]
              refine wpList_append_byte (op := ⟨some 120, _, _, _, _, _⟩) rfl (.tmp 105) (.tmp 119) rfl g cap (Xs ++ full (wordF Xs i) k) HBn.out HLy.out L HLx.out rfl wy.heap.size 1 rfl z HZn.out ?_
              intro g' cap' w' hb' hgr hat
              have hlt' := hb'.lt
              have HB' := Lib.hid (show BRow w' g' cap' (Xs ++ full (wordF Xs i) (k + 1)) by rw [HFS.out]; first | exact hb' | (rw [List.append_assoc]; exact hb'))
              have hTn : T ≠ g' := by
                rcases hat with h | h
                · rw [h]; exact hTg
                · first | (rw [h]; omega) | (simp at h; omega)
              have hgn : g0 ≤ g' := by
                have hwy : w.heap.size ≤ wy.heap.size := by have := HFn.out.size; have := HG0.out; have := HBn.out.lt; simp at *; omega
                rcases hat with h | h
                · rw [h]; exact hg
                · have := HG0.out; first | (rw [h]; omega) | (simp at h; omega)
              have HT' := Lib.hid ((hgr.block T (by simp; omega) (fun e => hTg (Option.some.inj e))).trans HTn.out)
              have HF' := Lib.hid (HFn.out.grown hgr (fun k hk => .inr (by have := HG0.out; have := Option.some.inj hk; omega)))
              clear hb' hgr hat
              go_wp2
              go_roundw
              case rel => exact ⟨k + 1, g', cap', L + 1, by omega, by rw [HLa.out]; omega, rfl, by go_num, HB'.out, hgn, hTn, HT'.out, HF'.out⟩
              case measure => simp [intOf]; omega
            · have hk4 : k = 4 := by omega
              rw [hk4] at HBa HLa
              have HBq := Lib.hid (show BRow wr g cap (wkT key (i + 1)) by rw [wkT_next key i HI.out.1, ← HXs.out]; exact HBa.out)
              have HLq := Lib.hid (show L = 4 * (i + 1) by rw [HLa.out]; omega)
              clear hk4 hL hfl hXl
              go_wp2
              go_roundw
              case rel => exact ⟨i + 1, g, cap, L, by omega, by omega, HLq.out, rfl, by rw [HPW.out], by go_num, HBq.out, hg, HFa.out⟩
              case measure => simp [intOf]; omega
    · have h60 : i = 60 := by omega
      have HBz := Lib.hid (show BRow wr g cap (words key 52) by have := HB.out; rw [h60] at this; exact this)
      have HLz := Lib.hid (show L = 240 by rw [HL.out, h60])
      clear h60
      go_wp2
      go_ret
      refine ⟨g, cap, ?_, HBz.out, by rw [← HG0.out]; exact hg, HF.out⟩
      rw [← HLz.out]; rfl
end Go.Proofs.YtcchhfkmhbjdmaaGreat
/-! Kx -/
set_option linter.unusedVariables false
set_option linter.unusedSimpArgs false
set_option pp.deepTerms true
set_option pp.maxSteps 100000
namespace Go.Proofs.YtcchhfkmhbjdmaaGreat
open Go.RowKit
theorem results_cell_tmp_row {P : Program} {fn : Func} {p u : Tmp} {ty : TypeId} (h : fn.results = #[.cell p ty, .tmp u]) (tmps : Array Value) (w : World) (g : Nat) (t : TypeId) (cs : Array Value) (fr : Nat × Nat) (d : TypeDesc) (x : Value)
    (hp : tmps.getD p undef = .pointer (some ⟨g, 0, none⟩)) (hx : tmps.getD u undef = x) (hg : w.heap[g]? = some (.cells cs t fr))
    (hu : P.underlying ty = some d) (hd : (match d with | .struct _ | .array _ _ => true | _ => false) = true) (hi : (P.info? ty).map (·.size) = some cs.size) :
    (results fn tmps).run P w = .ok (.tuple #[.agg cs, x]) w := by
  rw [results_cell_tmp h, hp, hx]
  simp [asAddr, Result.andThen, run_loadVar_row w g t ty cs fr d hg hu hd hi]
set_option maxRecDepth 20000 in
set_option maxHeartbeats 4000000 in
theorem refnew_yes (key : List UInt8) (hk : key.length = 32) (w : World) :
    Calls Tryz.prog 36 #[.string (str key)] w fun e w' => ∃ g cap X capb, e = .returned (.tuple #[.agg #[.slice (some ⟨g, 0, none⟩) 240 cap, .slice (some ⟨X, 0, none⟩) 256 capb], .int .i64 0]) ∧ BRow w' g cap (words key 52) ∧ Tab w' X ∧ 256 ≤ capb ∧ Fr (fun _ => False) w w' := by
  have hsz : (str key).size = 32 := by rw [str_size]; exact hk
  have HK := Lib.hid hk
  clear hk
  go_enter Tryz.func36, Tryz.ntmps36
  go_wp2_with fail
  obtain ⟨R, hR⟩ : ∃ R, R = w.heap.size := ⟨_, rfl⟩
  have hr1 : (w.alloc (.cells #[.slice none 0 0, .slice none 0 0] 73)).heap[R]? = some (.cells #[.slice none 0 0, .slice none 0 0] 73 (0, 0)) := by rw [hR]; exact heap_alloc_new w _
  have hf1 : Fr (fun _ => False) w (w.alloc (.cells #[.slice none 0 0, .slice none 0 0] 73)) := (Fr.refl _ _).alloc _
  generalize w.alloc (.cells #[.slice none 0 0, .slice none 0 0] 73) = w1 at hr1 hf1 ⊢
  rw [← hR]
  have HRd := Lib.hid hR
  have HR1 := Lib.hid hr1
  have HF1 := Lib.hid hf1
  have hRl : R < w1.heap.size := lt_of_heap hr1
  clear hR hr1 hf1
  refine (refboxes_calls w1).mono ?_
  rintro e w2 ⟨X, capb, rfl, hT, hX, hcb, h2⟩
  have HT := Lib.hid hT
  have HR2 := Lib.hid (h2.heap HR1.out id)
  have HF2 := Lib.hid (HF1.out.trans h2 (fun i hi => hi.elim))
  have hX2 : X < w2.heap.size := World.block_lt_of_cell? w2 _ (hT 0)
  clear hT h2
  go_wp2_with fail
  refine (refwords_calls key HK.out X capb hcb w2 HT.out hX2).mono ?_
  rintro e w3 ⟨g, cap, rfl, hB, hg, h3⟩
  have HB := Lib.hid hB
  have HT3 := Lib.hid (HT.out.fr h3 id)
  have HR3 := Lib.hid (h3.heap HR2.out id)
  have HF3 := Lib.hid (HF2.out.trans h3 (fun i hi => hi.elim))
  have hRX : R ≠ X := by omega
  have hRg : R ≠ g := by have := lt_of_heap HR2.out; omega
  have c0 : w3.cell? ⟨R, 0, none⟩ = some (.slice none 0 0) := (cell_of_row w3 R 0 _ _ _ HR3.out).trans rfl
  have c1 : w3.cell? ⟨R, 1, none⟩ = some (.slice none 0 0) := (cell_of_row w3 R 1 _ _ _ HR3.out).trans rfl
  have HSR := Lib.hid (setRow_heap (w := w3) (cs := #[.slice (some ⟨g, 0, none⟩) 240 cap, .slice (some ⟨X, 0, none⟩) 256 capb]) HR3.out)
  have hfs : Fr (fun i => i = R) w3 (w3.setRow R #[.slice (some ⟨g, 0, none⟩) 240 cap, .slice (some ⟨X, 0, none⟩) 256 capb]) := (Fr.refl _ _).setRow _ _ (.inl rfl)
  have HB' := Lib.hid (HB.out.fr hfs (show ¬ g = R by omega))
  have HT' := Lib.hid (HT3.out.fr hfs (show ¬ X = R by omega))
  have HF' := Lib.hid (HF3.out.setRow R #[.slice (some ⟨g, 0, none⟩) 240 cap, .slice (some ⟨X, 0, none⟩) 256 capb] (.inr (by have := HRd.out; omega)))
  clear hB h3 hfs c0 c1
  go_wp2_with (with_reducible refine wpList_store_whole (op := ⟨none, .store 73 _ _, _, _, _, _⟩) rfl 73 _ _ rfl R 73 #[.slice none 0 0, .slice none 0 0] #[.slice (some ⟨g, 0, none⟩) 240 cap, .slice (some ⟨X, 0, none⟩) 256 capb] rfl rfl HR3.out rfl (by kernel_rfl) (by simp [Value.oneCell']) ?_)
  refine bodyPost_ret (results_cell_tmp_row rfl _ _ R 73 #[.slice (some ⟨g, 0, none⟩) 240 cap, .slice (some ⟨X, 0, none⟩) 256 capb] (0, 0) _ (.int .i64 0) rfl rfl HSR.out Tryz.underlying73 rfl (by kernel_rfl)) rfl ?_
  exact ⟨g, cap, X, capb, rfl, HB'.out, HT'.out, hcb, HF'.out⟩
set_option maxRecDepth 20000 in
set_option maxHeartbeats 4000000 in
theorem refnew_no (s : ByteArray) (hs : s.size ≠ 32) (w : World) :
    Calls Tryz.prog 36 #[.string s] w fun e w' => e = .returned (.tuple #[.agg #[.slice none 0 0, .slice none 0 0], .int .i64 2]) ∧ Fr (fun _ => False) w w' := by
  have hq : ((s.size : Int) != 32) = true := by simp; omega
  go_enter Tryz.func36, Tryz.ntmps36
  go_wp2_with fail
  refine bodyPost_ret (results_cell_tmp_row rfl _ _ w.heap.size 73 #[.slice none 0 0, .slice none 0 0] (0, 0) _ (.int .i64 2) rfl rfl (heap_alloc_new w _) Tryz.underlying73 rfl (by kernel_rfl)) rfl ?_
  exact ⟨rfl, (Fr.refl _ _).alloc _⟩
end Go.Proofs.YtcchhfkmhbjdmaaGreat
/-! Ky -/
set_option linter.unusedVariables false
set_option linter.unusedSimpArgs false
namespace Go.Proofs.YtcchhfkmhbjdmaaGreat
def pi4 (i : Nat) : Nat := 4 * (i % 4) + i / 4
theorem pi4_lt {i : Nat} (h : i < 16) : pi4 i < 16 := by unfold pi4; omega
theorem pi4_pi4 {i : Nat} (h : i < 16) : pi4 (pi4 i) = i := by unfold pi4; omega
def tr (s : List UInt8) : List UInt8 := full (fun p => s.getD (pi4 p) 0) 16
theorem tr_length (s : List UInt8) : (tr s).length = 16 := full_length _ _
theorem tr_get (s : List UInt8) (p : Nat) (h : p < 16) : (tr s)[p]? = some (s.getD (pi4 p) 0) := full_get _ _ _ h
theorem tr_getD (s : List UInt8) (p : Nat) (h : p < 16) : (tr s).getD p 0 = s.getD (pi4 p) 0 := full_getD _ _ _ h
def tupd (f : Nat → UInt8) (s : List UInt8) (i : Nat) : List UInt8 := (List.range s.length).map fun p => if pi4 p < i then f (pi4 p) else s.getD p 0
theorem tupd_length (f : Nat → UInt8) (s : List UInt8) (i : Nat) : (tupd f s i).length = s.length := by simp [tupd]
theorem tupd_zero (f : Nat → UInt8) (s : List UInt8) : tupd f s 0 = s := by
  apply List.ext_getElem (by simp [tupd])
  intro j h1 h2
  simp [tupd, List.getElem?_eq_getElem h2]
theorem tupd_all (f : Nat → UInt8) (s : List UInt8) (h : s.length = 16) : tupd f s 16 = tr (full f 16) := by
  show (List.range s.length).map _ = (List.range 16).map (fun p => (full f 16).getD (pi4 p) 0)
  rw [h]
  apply List.map_congr_left
  intro p hp
  have hp := List.mem_range.mp hp
  show (if pi4 p < 16 then f (pi4 p) else s.getD p 0) = _
  rw [if_pos (pi4_lt hp), full_getD f 16 _ (pi4_lt hp)]
theorem tupd_get (f : Nat → UInt8) (s : List UInt8) (i j : Nat) (h : j < s.length) : (tupd f s i)[j]? = some (if pi4 j < i then f (pi4 j) else s.getD j 0) := by
  simp [tupd, h]
theorem tupd_set (f : Nat → UInt8) (s : List UInt8) (i : Nat) (hs : s.length = 16) (hi : i < 16) : (tupd f s i).set (pi4 i) (f i) = tupd f s (i + 1) := by
  apply List.ext_getElem (by simp [tupd])
  intro j h1 h2
  have hj : j < 16 := by rw [tupd_length] at h2; omega
  rw [List.getElem_set]
  simp only [tupd, List.getElem_map, List.getElem_range]
  by_cases e : pi4 i = j
  · subst e
    rw [pi4_pi4 hi, if_pos rfl, if_pos (by omega)]
  · rw [if_neg e]
    have hne : pi4 j ≠ i := fun h => e (by rw [← h, pi4_pi4 hj])
    by_cases hl : pi4 j < i
    · rw [if_pos hl, if_pos (by omega)]
    · rw [if_neg hl, if_neg (by omega)]
theorem full_ext {f g : Nat → UInt8} {n : Nat} (h : ∀ p, p < n → f p = g p) : full f n = full g n := by
  unfold full
  apply List.map_congr_left
  intro p hp
  exact h p (List.mem_range.mp hp)
def rshF (t : List UInt8) (p : Nat) : UInt8 := box (t.getD (4 * (p / 4) + (p % 4 + p / 4) % 4) 0)
theorem rsh_eq (s : List UInt8) : full (rshF (tr s)) 16 = tr (shiftL s) := by
  refine full_ext fun p hp => ?_
  unfold rshF
  rw [tr_getD _ _ (by omega)]
  rw [show (shiftL s).getD (pi4 p) 0 = shiftF s (pi4 p) from full_getD _ _ _ (pi4_lt hp)]
  unfold shiftF
  have : ∀ p, p < 16 → pi4 (4 * (p / 4) + (p % 4 + p / 4) % 4) = (pi4 p + 4 * (pi4 p % 4)) % 16 := by decide
  rw [this p hp]
theorem rmix_eq (s : List UInt8) (c r : Nat) (hc : c < 4) (hr : r < 4) : mixF s (4 * c + r) = tw (s.getD (4 * c + r) 0) ^^^ (tw (s.getD (4 * c + (r + 1) % 4) 0) ^^^ s.getD (4 * c + (r + 1) % 4) 0) ^^^ s.getD (4 * c + (r + 2) % 4) 0 ^^^ s.getD (4 * c + (r + 3) % 4) 0 := by
  unfold mixF mixC
  rw [show (4 * c + r) / 4 = c by omega, show (4 * c + r) % 4 = r by omega]
  have : r = 0 ∨ r = 1 ∨ r = 2 ∨ r = 3 := by omega
  rcases this with rfl | rfl | rfl | rfl <;> simp only [Nat.reduceAdd, Nat.reduceMod, Nat.add_zero, tw_xor] <;>
    generalize s.getD (4 * c) 0 = a0 <;> generalize s.getD (4 * c + 1) 0 = a1 <;> generalize s.getD (4 * c + 2) 0 = a2 <;> generalize s.getD (4 * c + 3) 0 = a3 <;>
    generalize tw a0 = t0 <;> generalize tw a1 = t1 <;> generalize tw a2 = t2 <;> generalize tw a3 = t3 <;>
    simp only [UInt8.xor_assoc, UInt8.xor_comm, xor_lc, xor_left_cancel', UInt8.xor_self, UInt8.xor_zero, UInt8.zero_xor]
def stN (W s : List UInt8) (r : Nat) : List UInt8 := if r ≤ 13 then pressN W s r else press W s
theorem stN_length (W s : List UInt8) (r : Nat) : (stN W s r).length = 16 := by
  unfold stN
  split
  · exact pressN_length _ _ _
  · exact press_length _ _
theorem stN_next (W s : List UInt8) (r : Nat) (h : r < 13) : stN W s (r + 1) = addL W (r + 1) (mixL (shiftL (stN W s r))) := by
  unfold stN
  rw [if_pos (by omega), if_pos (by omega)]
  rfl
theorem stN_last (W s : List UInt8) : stN W s 14 = addL W 14 (shiftL (stN W s 13)) := by
  unfold stN
  rw [if_neg (by omega), if_pos (by omega)]
  rfl
end Go.Proofs.YtcchhfkmhbjdmaaGreat
