/- Words of 32 bits as the model has them. -/
import Derived.Laws.BitsAllLaws
set_option linter.unusedVariables false
set_option linter.unusedSimpArgs false
namespace Go.Proofs.Ytcchhfkmhbjdmaa
theorem u32_lt (a : UInt32) : a.toNat < 4294967296 := a.toNat_lt
theorem xor_u32 (a b : UInt32) : bits .xor .u32 (a.toNat : Int) (b.toNat : Int) = ((a ^^^ b).toNat : Int) := by
  rw [u32_xor_nat _ _ a.toNat_lt b.toNat_lt, UInt32.toNat_xor]
theorem and_u32 (a b : UInt32) : bits .and .u32 (a.toNat : Int) (b.toNat : Int) = ((a &&& b).toNat : Int) := by
  rw [u32_and_nat _ _ a.toNat_lt b.toNat_lt, UInt32.toNat_and]
theorem or_u32 (a b : UInt32) : bits .or .u32 (a.toNat : Int) (b.toNat : Int) = ((a ||| b).toNat : Int) := by
  rw [u32_or_nat _ _ a.toNat_lt b.toNat_lt, UInt32.toNat_or]
theorem add_u32 (a b : UInt32) : ((a.toNat : Int) + (b.toNat : Int)) % 4294967296 = ((a + b).toNat : Int) := by
  rw [UInt32.toNat_add]; omega
theorem addw_u32 (a b : UInt32) : IntKind.u32.wrap ((a.toNat : Int) + (b.toNat : Int)) = ((a + b).toNat : Int) := by
  rw [IntKind.wrap_u32', add_u32]
theorem shl_u32 (a : UInt32) (k : Nat) (s : UInt32) (hk : s.toNat = k) (h : k < 32) : ((a.toNat : Int) * ((2 ^ k : Nat) : Int)) % 4294967296 = ((a <<< s).toNat : Int) := by
  rw [UInt32.toNat_shiftLeft, hk, Nat.mod_eq_of_lt h, Nat.shiftLeft_eq]
  rw [← Int.natCast_mul]; omega
theorem shr_u32 (a : UInt32) (k : Nat) (s : UInt32) (hk : s.toNat = k) (h : k < 32) : (a.toNat : Int) / ((2 ^ k : Nat) : Int) = ((a >>> s).toNat : Int) := by
  rw [UInt32.toNat_shiftRight, hk, Nat.mod_eq_of_lt h, Nat.shiftRight_eq_div_pow, Int.natCast_ediv]
end Go.Proofs.Ytcchhfkmhbjdmaa
