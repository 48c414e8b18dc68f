/- The document's product: plain law. -/
import Derived.Test.YtcchhfkmhbjdmaaKb
set_option linter.unusedVariables false
set_option linter.unusedSimpArgs false
namespace Go.Proofs.Ytcchhfkmhbjdmaa
def sel (c : Bool) (x : Nat) : Nat := if c then x else 0
theorem sel_left (c d : Bool) (x : Nat) : sel (c ^^ d) x = sel c x ^^^ sel d x := by cases c <;> cases d <;> simp [sel]
theorem sel_right (c : Bool) (x y : Nat) : sel c (x ^^^ y) = sel c x ^^^ sel c y := by cases c <;> simp [sel]
def pN (a b : Nat) : Nat → Nat
  | 0 => 0
  | i + 1 => pN a b i ^^^ sel (b.testBit i) (a <<< i)
def rN (p : Nat) : Nat → Nat
  | 0 => p
  | j + 1 => rN p j ^^^ sel ((rN p j).testBit (14 - j)) (283 <<< (6 - j))
theorem pN_left (a a' b : Nat) : ∀ i, pN (a ^^^ a') b i = pN a b i ^^^ pN a' b i
  | 0 => by first | rfl | simp [pN]
  | i + 1 => by
    simp only [pN]
    rw [pN_left a a' b i, Nat.shiftLeft_xor_distrib, sel_right]
    ac_rfl
theorem pN_right (a b b' : Nat) : ∀ i, pN a (b ^^^ b') i = pN a b i ^^^ pN a b' i
  | 0 => by first | rfl | simp [pN]
  | i + 1 => by
    simp only [pN]
    rw [pN_right a b b' i, Nat.testBit_xor, sel_left]
    ac_rfl
theorem rN_xor (p p' : Nat) : ∀ j, rN (p ^^^ p') j = rN p j ^^^ rN p' j
  | 0 => by first | rfl | simp [pN]
  | j + 1 => by
    simp only [rN]
    rw [rN_xor p p' j, Nat.testBit_xor, sel_left]
    ac_rfl
theorem pN_zero (b : Nat) : ∀ i, pN 0 b i = 0
  | 0 => by first | rfl | simp [pN]
  | i + 1 => by simp [pN, pN_zero b i, sel]
theorem pN_zero' (a : Nat) : ∀ i, pN a 0 i = 0
  | 0 => by first | rfl | simp [pN]
  | i + 1 => by simp [pN, pN_zero' a i, sel]
theorem rN_zero : ∀ j, rN 0 j = 0
  | 0 => by first | rfl | simp [pN]
  | j + 1 => by simp [rN, rN_zero j, sel]
theorem sel_lt (c : Bool) (x n : Nat) (h : x < 2 ^ n) : sel c x < 2 ^ n := by
  unfold sel; split
  · exact h
  · exact Nat.two_pow_pos n
theorem pN_lt (a b : Nat) (ha : a < 256) : ∀ i, i ≤ 8 → pN a b i < 2 ^ 16
  | 0, _ => by simp [pN]
  | i + 1, h => by
    refine Nat.xor_lt_two_pow (pN_lt a b ha i (by omega)) (sel_lt _ _ _ ?_)
    rw [Nat.shiftLeft_eq]
    calc a * 2 ^ i < 256 * 2 ^ i := Nat.mul_lt_mul_of_pos_right ha (Nat.two_pow_pos i)
      _ ≤ 256 * 2 ^ 8 := Nat.mul_le_mul_left _ (Nat.pow_le_pow_right (by omega) (by omega))
theorem rN_lt (p : Nat) (hp : p < 2 ^ 16) : ∀ j, rN p j < 2 ^ 16
  | 0 => hp
  | j + 1 => by
    refine Nat.xor_lt_two_pow (rN_lt p hp j) (sel_lt _ _ _ ?_)
    rw [Nat.shiftLeft_eq]
    calc 283 * 2 ^ (6 - j) ≤ 283 * 2 ^ 6 := Nat.mul_le_mul_left _ (Nat.pow_le_pow_right (by omega) (by omega))
      _ < 2 ^ 16 := by omega
def refmul (a b : UInt8) : UInt8 := UInt8.ofNat (rN (pN a.toNat b.toNat 8) 7)
theorem ofNat_xor (x y : Nat) : UInt8.ofNat (x ^^^ y) = UInt8.ofNat x ^^^ UInt8.ofNat y := by
  apply UInt8.toNat_inj.mp
  rw [UInt8.toNat_xor]
  simp only [UInt8.toNat_ofNat']
  exact Nat.xor_mod_two_pow
theorem refmul_left (a a' b : UInt8) : refmul (a ^^^ a') b = refmul a b ^^^ refmul a' b := by
  unfold refmul
  rw [UInt8.toNat_xor, pN_left, rN_xor, ofNat_xor]
theorem refmul_right (a b b' : UInt8) : refmul a (b ^^^ b') = refmul a b ^^^ refmul a b' := by
  unfold refmul
  rw [UInt8.toNat_xor, pN_right, rN_xor, ofNat_xor]
theorem refmul_eq (a b : UInt8) : refmul a b = mul a b := by
  refine u8_span (fun a => refmul a b = mul a b) ?_ (fun x y h k => by rw [refmul_left, mul_left, h, k]) (fun i => ?_) a
  · rw [zero_mul]
    show UInt8.ofNat (rN (pN 0 b.toNat 8) 7) = 0
    rw [pN_zero, rN_zero]; rfl
  refine u8_span (fun b => refmul (1 <<< UInt8.ofNat i.val) b = mul (1 <<< UInt8.ofNat i.val) b) ?_ (fun x y h k => by rw [refmul_right, mul_right, h, k]) (fun j => ?_) b
  · rw [mul_zero]
    show UInt8.ofNat (rN (pN _ 0 8) 7) = 0
    rw [pN_zero', rN_zero]; rfl
  revert i j
  decide +kernel
end Go.Proofs.Ytcchhfkmhbjdmaa
