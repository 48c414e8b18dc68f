/- Products: the walk. -/
import Derived.Test.YtcchhfkmhbjdmaaKk
set_option linter.unusedVariables false
set_option linter.unusedSimpArgs false
set_option pp.deepTerms true
set_option pp.maxSteps 100000
namespace Go.Proofs.Ytcchhfkmhbjdmaa
open Go.RowKit
theorem toNat_beq (a b : UInt8) : ((a.toNat : Int) == (b.toNat : Int)) = (a == b) := by
  rw [Bool.eq_iff_iff, beq_iff_eq, beq_iff_eq]
  exact ⟨fun e => UInt8.toNat_inj.mp (by omega), fun e => by rw [e]⟩
set_option maxRecDepth 20000 in
set_option maxHeartbeats 4000000 in
theorem field_walk (a b c : UInt8) (w : World) : Calls Try.prog 5 #[.int .u8 (a.toNat : Int), .int .u8 (b.toNat : Int), .int .u8 (c.toNat : Int)] w fun e w' => e = .returned (.bool true) ∧ Fr (fun _ => False) w w' := by
  obtain ⟨qa, hqa⟩ : ∃ q, ((a.toNat : Int) == 0) = q := ⟨_, rfl⟩
  obtain ⟨qb, hqb⟩ : ∃ q, ((b.toNat : Int) == 0) = q := ⟨_, rfl⟩
  have hab : (((mul a b).toNat : Int) == 0) = (qa || qb) := by
    have e := toNat_beq (mul a b) 0
    have e1 := toNat_beq a 0
    have e2 := toNat_beq b 0
    rw [show (((0 : UInt8).toNat : Nat) : Int) = 0 from rfl] at e e1 e2
    rw [e, ← hqa, ← hqb, e1, e2]
    rw [Bool.eq_iff_iff, beq_iff_eq, Bool.or_eq_true, beq_iff_eq, beq_iff_eq]
    exact mul_eq_zero a b
  have hx := xor_u8 b c
  have hy := xor_u8 (mul a b) (mul a c)
  obtain ⟨z, hz⟩ : ∃ z, z = b ^^^ c := ⟨_, rfl⟩
  obtain ⟨y, hyd⟩ : ∃ y, y = mul a b ^^^ mul a c := ⟨_, rfl⟩
  have HMZ := Lib.hid (show mul a z = y by rw [hz, hyd, mul_right])
  rw [← hz] at hx
  rw [← hyd] at hy
  clear hz hyd
  obtain ⟨ab, hab1⟩ : ∃ x, x = mul a b := ⟨_, rfl⟩
  obtain ⟨ac, hac1⟩ : ∃ x, x = mul a c := ⟨_, rfl⟩
  have HBA := Lib.hid (show mul b a = ab by rw [hab1, mul_comm])
  have HABC := Lib.hid (show mul a (mul b c) = mul ab c by rw [hab1, mul_assoc])
  rw [← hab1] at hab hy
  rw [← hac1] at hy
  have HAB := Lib.hid hab1.symm
  have HAC := Lib.hid hac1.symm
  clear hab1 hac1
  have b1 := b.toNat_lt
  have b2 := c.toNat_lt
  have b3 := ab.toNat_lt
  have b4 := ac.toNat_lt
  go_enter Try.func5, Try.ntmps5
  go_wp2_with fail
  refine (awake_true _).mono ?_
  rintro e w1 ⟨rfl, h1⟩
  have HF := Lib.hid h1
  clear h1
  go_wp2_with fail
  refine (mul_calls a b w1).mono ?_
  rintro e w2 ⟨rfl, rfl⟩
  rw [HAB.out]
  go_wp2_with fail
  refine (mul_calls b a w1).mono ?_
  rintro e w2 ⟨rfl, rfl⟩
  rw [HBA.out]
  go_wp2_with fail
  refine (mul_calls ab c w1).mono ?_
  rintro e w2 ⟨rfl, rfl⟩
  go_wp2_with fail
  refine (mul_calls b c w1).mono ?_
  rintro e w2 ⟨rfl, rfl⟩
  go_wp2_with fail
  refine (mul_calls a (mul b c) w1).mono ?_
  rintro e w2 ⟨rfl, rfl⟩
  rw [HABC.out]
  generalize mul ab c = t
  go_wp2_with fail
  refine (mul_calls a z w1).mono ?_
  rintro e w2 ⟨rfl, rfl⟩
  rw [HMZ.out]
  go_wp2_with fail
  refine (mul_calls a c w1).mono ?_
  rintro e w2 ⟨rfl, rfl⟩
  rw [HAC.out]
  go_wp2_with fail
  refine (mul_calls a 1 w1).mono ?_
  rintro e w2 ⟨rfl, rfl⟩
  rw [mul_one]
  cases qa
  · cases qb
    · go_wp2_with fail
      go_ret
      exact ⟨rfl, HF.out⟩
    · go_wp2_with fail
      go_ret
      exact ⟨rfl, HF.out⟩
  · go_wp2_with fail
    go_ret
    exact ⟨rfl, HF.out⟩
end Go.Proofs.Ytcchhfkmhbjdmaa
