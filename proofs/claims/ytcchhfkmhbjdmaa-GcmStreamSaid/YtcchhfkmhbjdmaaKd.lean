/- Bytes, twice, products. -/
import Derived.Test.YtcchhfkmhbjdmaaProg
import Derived.Test.YtcchhfkmhbjdmaaL1
import Derived.Test.YtcchhfkmhbjdmaaKc
set_option linter.unusedVariables false
set_option linter.unusedSimpArgs false
set_option pp.deepTerms true
set_option pp.maxSteps 100000
namespace Go.Proofs.Ytcchhfkmhbjdmaa
open Go.RowKit
theorem xor_u8 (a b : UInt8) : bits .xor .u8 (a.toNat : Int) (b.toNat : Int) = ((a ^^^ b).toNat : Int) := by
  rw [u8_xor_nat _ _ a.toNat_lt b.toNat_lt, UInt8.toNat_xor]
theorem and_u8 (a b : UInt8) : bits .and .u8 (a.toNat : Int) (b.toNat : Int) = ((a &&& b).toNat : Int) := by
  rw [u8_and_nat _ _ a.toNat_lt b.toNat_lt, UInt8.toNat_and]
theorem or_u8 (a b : UInt8) : bits .or .u8 (a.toNat : Int) (b.toNat : Int) = ((a ||| b).toNat : Int) := by
  rw [u8_or_nat _ _ a.toNat_lt b.toNat_lt, UInt8.toNat_or]
theorem int_all (f : Int → Int) (g : UInt8 → UInt8) (h : ((List.range 256).all fun n => f ((UInt8.ofNat n).toNat : Int) == ((g (UInt8.ofNat n)).toNat : Int)) = true) (a : UInt8) : f (a.toNat : Int) = ((g a).toNat : Int) := by
  have := u8_all (fun a => f (a.toNat : Int) == ((g a).toNat : Int)) h a
  simpa using this
theorem tw_int (a : UInt8) : bits .xor .u8 ((a.toNat : Int) * 2 % 256) (27 * ((a.toNat : Int) / 128)) = ((tw a).toNat : Int) :=
  int_all (fun n => bits .xor .u8 (n * 2 % 256) (27 * (n / 128))) tw (by decide +kernel) a
theorem twice_calls (a : UInt8) (w : World) : Calls Try.prog 71 #[.int .u8 (a.toNat : Int)] w fun e w' => e = .returned (.int .u8 ((tw a).toNat : Int)) ∧ w = w' := by
  have ha := a.toNat_lt
  go_enter Try.func71, Try.ntmps71
  go_wp2
  go_ret
  exact ⟨by simp [tw_int], rfl⟩
theorem mul_step (n : Nat) (a b p : UInt8) : mulN (n + 1) a b p = mulN n (tw a) (b >>> 1) (p ^^^ a * (b &&& 1)) := rfl
theorem mulx_int (x y z : UInt8) : bits .xor .u8 (z.toNat : Int) ((x.toNat : Int) * bits .and .u8 (y.toNat : Int) 1 % 256) = ((z ^^^ x * (y &&& 1)).toNat : Int) := by
  have h := and_u8 y 1
  rw [show ((1 : UInt8).toNat : Int) = 1 from rfl] at h
  rw [h, ← xor_u8, UInt8.toNat_mul, Int.natCast_emod, Int.natCast_mul]
  rfl
theorem half_int (b : UInt8) : (b.toNat : Int) / (2 : Int) = ((b >>> 1).toNat : Int) := int_all (fun n => n / 2) (fun b => b >>> 1) (by decide +kernel) b
theorem half_lt (b : UInt8) (n : Nat) (h : b.toNat < 2 ^ (n + 1)) : (b >>> 1).toNat < 2 ^ n := by
  have := half_int b
  rw [Nat.pow_succ] at h
  omega
set_option maxRecDepth 20000 in
theorem mul_calls (a b : UInt8) (w : World) : Calls Try.prog 20 #[.int .u8 (a.toNat : Int), .int .u8 (b.toNat : Int)] w fun e w' => e = .returned (.int .u8 ((mul a b).toNat : Int)) ∧ w = w' := by
  go_enter Try.func20, Try.ntmps20
  go_wp2
  go_loop [0, 1, 5] (fun va vb vp => ∃ (n : Nat) (x y z : UInt8), va = .int .u8 (x.toNat : Int) ∧ vb = .int .u8 (y.toNat : Int) ∧ vp = .int .u8 (z.toNat : Int) ∧ y.toNat < 2 ^ n ∧ mulN n x y z = mul a b) (fun _ vb _ => (intOf vb).toNat)
  case atStart => exact ⟨8, a, b, 0, rfl, rfl, rfl, b.toNat_lt, rfl⟩
  case round =>
    obtain ⟨n, x, y, z, rfl, rfl, rfl, hy, hm⟩ := hrel
    have HM := Lib.hid hm
    clear hm
    by_cases hz : y.toNat = 0
    · have hy0 : y = 0 := UInt8.toNat_inj.mp hz
      go_wp2
      go_ret
      refine ⟨?_, rfl⟩
      have := HM.out
      rw [hy0, mulN_b0] at this
      rw [← this]; rfl
    · have hx := x.toNat_lt
      have hz1 := z.toNat_lt
      go_wp2_with (go_at_call 71; refine (twice_calls _ _).mono ?_; rintro e w' ⟨rfl, rfl⟩)
      go_round
      case rel =>
        cases n with
        | zero => omega
        | succ n => exact ⟨n, tw x, y >>> 1, z ^^^ x * (y &&& 1), rfl, by rw [half_int], by rw [mulx_int], half_lt y n hy, HM.out⟩
      case measure => simp [intOf]; omega
/-! ### boxes -/
theorem rot1_calls (q : UInt8) (w : World) : Calls Try.prog 107 #[.int .u8 (q.toNat : Int), .int .i64 1] w fun e w' => e = .returned (.int .u8 ((rl q 1).toNat : Int)) ∧ w = w' := by
  have hq := q.toNat_lt
  have hb : bits .and .u64 1 7 = 1 := by decide +kernel
  go_enter Try.func107, Try.ntmps107
  go_wp2
  go_ret
  refine ⟨?_, rfl⟩
  simpa using int_all (fun n => bits .or .u8 (n * 2 % 256) (n / 128)) (fun q => rl q 1) (by decide +kernel) q
theorem rot2_calls (q : UInt8) (w : World) : Calls Try.prog 107 #[.int .u8 (q.toNat : Int), .int .i64 2] w fun e w' => e = .returned (.int .u8 ((rl q 2).toNat : Int)) ∧ w = w' := by
  have hq := q.toNat_lt
  have hb : bits .and .u64 2 7 = 2 := by decide +kernel
  go_enter Try.func107, Try.ntmps107
  go_wp2
  go_ret
  refine ⟨?_, rfl⟩
  simpa using int_all (fun n => bits .or .u8 (n * 4 % 256) (n / 64)) (fun q => rl q 2) (by decide +kernel) q
theorem rot3_calls (q : UInt8) (w : World) : Calls Try.prog 107 #[.int .u8 (q.toNat : Int), .int .i64 3] w fun e w' => e = .returned (.int .u8 ((rl q 3).toNat : Int)) ∧ w = w' := by
  have hq := q.toNat_lt
  have hb : bits .and .u64 3 7 = 3 := by decide +kernel
  go_enter Try.func107, Try.ntmps107
  go_wp2
  go_ret
  refine ⟨?_, rfl⟩
  simpa using int_all (fun n => bits .or .u8 (n * 8 % 256) (n / 32)) (fun q => rl q 3) (by decide +kernel) q
theorem rot4_calls (q : UInt8) (w : World) : Calls Try.prog 107 #[.int .u8 (q.toNat : Int), .int .i64 4] w fun e w' => e = .returned (.int .u8 ((rl q 4).toNat : Int)) ∧ w = w' := by
  have hq := q.toNat_lt
  have hb : bits .and .u64 4 7 = 4 := by decide +kernel
  go_enter Try.func107, Try.ntmps107
  go_wp2
  go_ret
  refine ⟨?_, rfl⟩
  simpa using int_all (fun n => bits .or .u8 (n * 16 % 256) (n / 16)) (fun q => rl q 4) (by decide +kernel) q
end Go.Proofs.Ytcchhfkmhbjdmaa
