/- The disk's closures. -/
import Derived.Test.YthlngbdbmnnnaaaKa
set_option linter.unusedVariables false
set_option linter.unusedSimpArgs false
namespace Go.Proofs.Ythlngbdbmnnnaaa
open Go.RowKit
theorem flush1_any (i : Int) (w : World) :
    Calls Try.prog 44 #[.int .i64 i] w fun e w' => e = .returned (.int .i64 64) ∧ w' = w := by
  go_enter Try.func44, Try.ntmps44
  go_wp2
  go_ret
  exact ⟨rfl, rfl⟩
theorem keep_bit (keep : Int) (h0 : 0 ≤ keep) (h1 : keep ≤ 18446744073709551615) (i : Nat) : bits BinOp.and IntKind.u64 (keep / 2 ^ i) 1 = keep / 2 ^ i % 2 := by
  refine and_one_u64 _ (Int.ediv_nonneg h0 (Int.pow_nonneg (by omega))) ?_
  have := Int.ediv_le_self (2 ^ i) h0
  omega
theorem crash1_any (i m : Nat) (keep torn last : Int) (w : World) (gk gl gt : Nat) (hk0 : 0 ≤ keep) (hk1 : keep ≤ 18446744073709551615) (hm : last = m - 1) (hi : i < m) (hmm : m ≤ 1000000)
    (h1 : w.cell? ⟨gk, 0, none⟩ = some (.int .u64 keep)) (h2 : w.cell? ⟨gl, 0, none⟩ = some (.int .i64 last)) (h3 : w.cell? ⟨gt, 0, none⟩ = some (.int .i64 torn)) :
    Calls Try.prog 45 #[.int .i64 i, .pointer (some ⟨gk, 0, none⟩), .pointer (some ⟨gl, 0, none⟩), .pointer (some ⟨gt, 0, none⟩)] w fun e w' => e = .returned (.int .i64 (crashN keep torn m i)) ∧ w' = w := by
  have hb := Lib.hid (keep_bit keep hk0 hk1 i)
  by_cases hi' : 63 < i
  · have HF := Lib.hid (show crashN keep torn m i = 0 by unfold crashN; rw [if_pos (Or.inl hi')])
    have HM := Lib.hid hm
    clear hm
    go_enter Try.func45, Try.ntmps45
    go_wp2
    go_ret
    exact ⟨by rw [HF.out]; rfl, rfl⟩
  · by_cases hz : keep / 2 ^ i % 2 = 0
    · have HF := Lib.hid (show crashN keep torn m i = 0 by unfold crashN; rw [if_pos (Or.inr hz)])
      have HM := Lib.hid hm
      have hq : (bits BinOp.and IntKind.u64 (keep / 2 ^ i) 1 == 0) = true := by rw [hb.out, hz]; rfl
      clear hm hz
      go_enter Try.func45, Try.ntmps45
      go_wp2
      go_ret
      exact ⟨by rw [HF.out]; rfl, rfl⟩
    · have hq : (bits BinOp.and IntKind.u64 (keep / 2 ^ i) 1 == 0) = false := by rw [hb.out]; simpa using hz
      by_cases hl : i + 1 = m
      · have HF := Lib.hid (show crashN keep torn m i = (max 0 (min torn 64)).toNat by unfold crashN; rw [if_neg (by omega), if_pos hl])
        have hlast : (((i : Nat) : Int) == last) = true := by simp; omega
        clear hm hz
        go_enter Try.func45, Try.ntmps45
        go_wp2
        all_goals go_ret
        all_goals exact ⟨by rw [HF.out]; congr 2; simp [Array.getD]; omega, rfl⟩
      · have HF := Lib.hid (show crashN keep torn m i = 64 by unfold crashN; rw [if_neg (by omega), if_neg hl])
        have hlast : (((i : Nat) : Int) == last) = false := by simp; omega
        clear hm hz
        go_enter Try.func45, Try.ntmps45
        go_wp2
        go_ret
        exact ⟨by rw [HF.out]; rfl, rfl⟩
end Go.Proofs.Ythlngbdbmnnnaaa
