/- The document's product and box: the walks. -/
import Derived.Test.YtcchhfkmhbjdmaaKr
import Derived.Test.YtcchhfkmhbjdmaaKd
set_option linter.unusedVariables false
set_option linter.unusedSimpArgs false
set_option pp.deepTerms true
set_option pp.maxSteps 100000
namespace Go.Proofs.Ytcchhfkmhbjdmaa
open Go.RowKit
theorem ofInt_i64' (a : Nat) (ha : a < 65536) : (BitVec.ofInt 64 (a : Int)).toNat = a := by
  rw [BitVec.ofInt_natCast, BitVec.toNat_ofNat]; exact Nat.mod_eq_of_lt (by omega)
theorem xor_i64 (a b : Nat) (ha : a < 65536) (hb : b < 65536) : bits .xor .i64 (a : Int) (b : Int) = ((a ^^^ b : Nat) : Int) := by
  have hx : a ^^^ b < 2 ^ 16 := Nat.xor_lt_two_pow (by omega) (by omega)
  show IntKind.i64.wrap ((BitVec.ofInt 64 (a : Int) ^^^ BitVec.ofInt 64 (b : Int)).toNat : Int) = _
  rw [BitVec.toNat_xor, ofInt_i64' a ha, ofInt_i64' b hb, IntKind.wrap_i64]
  omega
theorem tb_div (b i : Nat) : b.testBit i = (((b : Int) / 2 ^ i).tmod 2 == 1) := by
  have h : (((b : Int) / 2 ^ i).tmod 2) = ((b / 2 ^ i % 2 : Nat) : Int) := by
    rw [Int.tmod_eq_emod_of_nonneg (Int.ediv_nonneg (by omega) (Int.pow_nonneg (by omega)))]
    norm_cast
  rw [Nat.testBit_eq_decide_div_mod_eq, h, Bool.eq_iff_iff, decide_eq_true_eq, beq_iff_eq]
  omega
theorem shl_x (p a i : Nat) (hp : p < 65536) (ha : a < 65536) (hs : a <<< i < 65536) : bits .xor .i64 (p : Int) (wrap64 ((a : Int) * 2 ^ i)) = ((p ^^^ a <<< i : Nat) : Int) := by
  have e : (a : Int) * 2 ^ i = ((a <<< i : Nat) : Int) := by rw [Nat.shiftLeft_eq]; norm_cast
  have aux : ∀ n : Nat, n < 65536 → bits .xor .i64 (p : Int) (wrap64 (n : Int)) = ((p ^^^ n : Nat) : Int) := fun n hn => by
    rw [show wrap64 (n : Int) = (n : Int) by unfold wrap64; omega, xor_i64 _ _ hp hn]
  rw [e]
  exact aux _ hs
theorem rN_step (P m : Nat) (h8 : 8 ≤ m) (h14 : m ≤ 14) : rN P (14 - (m - 1)) = rN P (14 - m) ^^^ sel ((rN P (14 - m)).testBit m) (283 <<< (m - 8)) := by
  have e : 14 - (m - 1) = (14 - m) + 1 := by omega
  rw [e]
  simp only [rN]
  rw [show 14 - (14 - m) = m by omega, show 6 - (14 - m) = m - 8 by omega]
theorem shl_lt (a i : Nat) (ha : a < 256) (hi : i < 8) : a <<< i < 65536 := by
  rw [Nat.shiftLeft_eq]
  calc a * 2 ^ i < 256 * 2 ^ i := Nat.mul_lt_mul_of_pos_right ha (Nat.two_pow_pos i)
    _ ≤ 256 * 2 ^ 8 := Nat.mul_le_mul_left _ (Nat.pow_le_pow_right (by omega) (by omega))
theorem shl_lt2 (i : Nat) (hi : i ≤ 6) : 283 <<< i < 65536 := by
  rw [Nat.shiftLeft_eq]
  calc 283 * 2 ^ i ≤ 283 * 2 ^ 6 := Nat.mul_le_mul_left _ (Nat.pow_le_pow_right (by omega) hi)
    _ < 65536 := by omega
set_option maxRecDepth 20000 in
set_option maxHeartbeats 4000000 in
theorem refmul_calls (a b : UInt8) (w : World) : Calls Try.prog 21 #[.int .u8 (a.toNat : Int), .int .u8 (b.toNat : Int)] w fun e w' => e = .returned (.int .u8 ((mul a b).toNat : Int)) ∧ w = w' := by
  have ha := a.toNat_lt
  have hb := b.toNat_lt
  go_enter Try.func21, Try.ntmps21
  go_wp2
  go_loop [5, 6] (fun vp vi => ∃ i : Nat, i ≤ 8 ∧ vi = .int .i64 i ∧ vp = .int .i64 (pN a.toNat b.toNat i : Nat)) (fun _ vi => 8 - (intOf vi).toNat)
  case atStart => exact ⟨0, Nat.zero_le _, rfl, rfl⟩
  case round =>
    obtain ⟨i, hi, rfl, rfl⟩ := hrel
    have hpl := pN_lt a.toNat b.toNat ha i hi
    by_cases hlt : i < 8
    · have hw1 : IntKind.u64.wrap (i : Int) = (i : Int) := by rw [IntKind.wrap_u64]; omega
      have hx := shl_x (pN a.toNat b.toNat i) a.toNat i hpl (by omega) (shl_lt _ _ ha hlt)
      have HX := Lib.hid hx
      clear hx
      cases ht : b.toNat.testBit i
      · have HN := Lib.hid (show pN a.toNat b.toNat (i + 1) = pN a.toNat b.toNat i by simp [pN, ht, sel])
        have ht2 := (tb_div b.toNat i).symm.trans ht
        clear ht
        generalize pN a.toNat b.toNat i = p at HN HX hpl ⊢
        go_wp2
        go_round
        case rel => exact ⟨i + 1, by omega, by go_num, by rw [HN.out]⟩
        case measure => simp [intOf]; omega
      · have HN := Lib.hid (show pN a.toNat b.toNat (i + 1) = pN a.toNat b.toNat i ^^^ a.toNat <<< i by simp [pN, ht, sel])
        have ht2 := (tb_div b.toNat i).symm.trans ht
        clear ht
        generalize pN a.toNat b.toNat i = p at HN HX hpl ⊢
        go_wp2
        go_round
        case rel => exact ⟨i + 1, by omega, by go_num, by rw [HN.out, HX.out]⟩
        case measure => simp [intOf]; omega
    · have h8 : i = 8 := by omega
      have HM := Lib.hid (show UInt8.ofNat (rN (pN a.toNat b.toNat i) 7) = mul a b by rw [h8]; exact refmul_eq a b)
      clear h8
      generalize pN a.toNat b.toNat i = P at HM hpl ⊢
      go_wp2
      go_loop [5, 7] (fun vp vi => ∃ m : Nat, 7 ≤ m ∧ m ≤ 14 ∧ vi = .int .i64 m ∧ vp = .int .i64 (rN P (14 - m) : Nat)) (fun _ vi => (intOf vi).toNat)
      case atStart => exact ⟨14, by omega, by omega, rfl, rfl⟩
      case round =>
        obtain ⟨m, hm7, hm14, rfl, rfl⟩ := hrel
        have hrl := rN_lt P hpl (14 - m)
        by_cases hlt2 : 8 ≤ m
        · have hw1 : IntKind.u64.wrap (m : Int) = (m : Int) := by rw [IntKind.wrap_u64]; omega
          have HS := Lib.hid (rN_step P m hlt2 hm14)
          have HX := Lib.hid (shl_x (rN P (14 - m)) 283 (m - 8) hrl (by omega) (shl_lt2 _ (by omega)))
          obtain ⟨k, hk⟩ : ∃ k, k = m - 8 := ⟨_, rfl⟩
          have hw2 : IntKind.u64.wrap ((m : Int) - 8) = (k : Int) := by rw [IntKind.wrap_u64]; omega
          rw [← hk] at HX HS
          have HK := Lib.hid hk
          clear hk
          cases ht : (rN P (14 - m)).testBit m
          · have ht2 := (tb_div (rN P (14 - m)) m).symm.trans ht
            rw [ht] at HS
            clear ht
            generalize rN P (14 - m) = p at HS HX hrl ht2 ⊢
            go_wp2
            go_round
            case rel => exact ⟨m - 1, by omega, by omega, by congr 1; omega, by rw [HS.out]; simp [sel]⟩
            case measure => simp [intOf]; omega
          · have ht2 := (tb_div (rN P (14 - m)) m).symm.trans ht
            rw [ht] at HS
            clear ht
            generalize rN P (14 - m) = p at HS HX hrl ht2 ⊢
            go_wp2
            go_round
            case rel => exact ⟨m - 1, by omega, by omega, by congr 1; omega, by rw [HS.out]; simp only [sel, if_true]; rw [← HX.out, Nat.min_eq_left (by have := HK.out; omega)]; rfl⟩
            case measure => simp [intOf]; omega
        · have h7 : m = 7 := by omega
          have HE := Lib.hid (show rN P (14 - m) = rN P 7 by rw [h7])
          clear h7
          go_wp2
          go_ret
          refine ⟨?_, rfl⟩
          rw [← HM.out, HE.out]
          simp
end Go.Proofs.Ytcchhfkmhbjdmaa
