/- The document's digest: plain laws, turn. -/
import Derived.Test.YtcchhfkmhbjdmaaJd
set_option linter.unusedVariables false
set_option linter.unusedSimpArgs false
set_option pp.deepTerms true
set_option pp.maxSteps 100000
namespace Go.Proofs.Ytcchhfkmhbjdmaa
open Go.RowKit
theorem ch_eq (e f g : UInt32) : (e &&& f) ^^^ (~~~e &&& g) = g ^^^ (e &&& (f ^^^ g)) := by
  apply UInt32.toBitVec_inj.mp
  apply BitVec.eq_of_getLsbD_eq
  intro i hi
  simp only [UInt32.toBitVec_xor, UInt32.toBitVec_and, UInt32.toBitVec_not, BitVec.getLsbD_xor, BitVec.getLsbD_and, BitVec.getLsbD_not, hi, decide_true, Bool.true_and]
  cases e.toBitVec.getLsbD i <;> cases f.toBitVec.getLsbD i <;> cases g.toBitVec.getLsbD i <;> rfl
theorem maj_eq (a b c : UInt32) : ((a &&& b) ^^^ (a &&& c)) ^^^ (b &&& c) = (a &&& b) ||| (c &&& (a ||| b)) := by
  apply UInt32.toBitVec_inj.mp
  apply BitVec.eq_of_getLsbD_eq
  intro i hi
  simp only [UInt32.toBitVec_xor, UInt32.toBitVec_and, UInt32.toBitVec_or, BitVec.getLsbD_xor, BitVec.getLsbD_and, BitVec.getLsbD_or]
  cases a.toBitVec.getLsbD i <;> cases b.toBitVec.getLsbD i <;> cases c.toBitVec.getLsbD i <;> rfl
theorem or_mul (a b k m : Nat) (hm : 2 ^ k = m) (h : b < m) : a * m ||| b = a * m + b := by
  subst hm
  rw [← Nat.shiftLeft_eq, ← Nat.shiftLeft_add_eq_or_of_lt h]
theorem or_add (x0 x1 x2 x3 : UInt8) : ((x0.toUInt32 <<< 24 + x1.toUInt32 <<< 16) + x2.toUInt32 <<< 8) + x3.toUInt32 = ((x0.toUInt32 <<< 24 ||| x1.toUInt32 <<< 16) ||| x2.toUInt32 <<< 8) ||| x3.toUInt32 := by
  apply UInt32.toNat_inj.mp
  have h0 := x0.toNat_lt
  have h1 := x1.toNat_lt
  have h2 := x2.toNat_lt
  have h3 := x3.toNat_lt
  have e0 : (x0.toUInt32 <<< 24).toNat = x0.toNat * 16777216 := by rw [UInt32.toNat_shiftLeft]; simp [Nat.shiftLeft_eq]; omega
  have e1 : (x1.toUInt32 <<< 16).toNat = x1.toNat * 65536 := by rw [UInt32.toNat_shiftLeft]; simp [Nat.shiftLeft_eq]; omega
  have e2 : (x2.toUInt32 <<< 8).toNat = x2.toNat * 256 := by rw [UInt32.toNat_shiftLeft]; simp [Nat.shiftLeft_eq]; omega
  have e3 : x3.toUInt32.toNat = x3.toNat := by simp
  have o1 : x0.toNat * 16777216 ||| x1.toNat * 65536 = x0.toNat * 16777216 + x1.toNat * 65536 := or_mul _ _ 24 16777216 rfl (by omega)
  have o2 : (x0.toNat * 16777216 + x1.toNat * 65536) ||| x2.toNat * 256 = x0.toNat * 16777216 + x1.toNat * 65536 + x2.toNat * 256 := by
    rw [show x0.toNat * 16777216 + x1.toNat * 65536 = (x0.toNat * 256 + x1.toNat) * 65536 by omega]
    exact or_mul _ _ 16 65536 rfl (by omega)
  have o3 : (x0.toNat * 16777216 + x1.toNat * 65536 + x2.toNat * 256) ||| x3.toNat = x0.toNat * 16777216 + x1.toNat * 65536 + x2.toNat * 256 + x3.toNat := by
    rw [show x0.toNat * 16777216 + x1.toNat * 65536 + x2.toNat * 256 = (x0.toNat * 65536 + x1.toNat * 256 + x2.toNat) * 256 by omega]
    exact or_mul _ _ 8 256 rfl (by omega)
  rw [UInt32.toNat_or, UInt32.toNat_or, UInt32.toNat_or, UInt32.toNat_add, UInt32.toNat_add, UInt32.toNat_add, e0, e1, e2, e3, o1, o2, o3]
  omega
theorem add_small (a b z : UInt32) (hz : z = a + b) (h : a.toNat + b.toNat < 4294967296) : (a.toNat : Int) + (b.toNat : Int) = (z.toNat : Int) := by
  rw [hz, ← add_u32]; omega
theorem not_eq (e : UInt32) : 4294967295 ^^^ e = ~~~e := by
  apply UInt32.toBitVec_inj.mp
  apply BitVec.eq_of_getLsbD_eq
  intro i hi
  have h : (4294967295 : UInt32).toBitVec = BitVec.allOnes 32 := by decide
  simp only [UInt32.toBitVec_xor, UInt32.toBitVec_not, BitVec.getLsbD_xor, BitVec.getLsbD_not, h, BitVec.getLsbD_allOnes, hi, decide_true, Bool.true_and, Bool.true_xor]
def blk (msg : List UInt8) (at_ : Nat) : List UInt8 := (msg.drop at_).take 64
theorem blk_length (msg : List UInt8) (a : Nat) (h : a + 64 ≤ msg.length) : (blk msg a).length = 64 := by unfold blk; rw [List.length_take, List.length_drop]; omega
theorem blk_get (msg : List UInt8) (a k : Nat) (hk : k < 64) : (blk msg a).getD k 0 = msg.getD (a + k) 0 := by
  unfold blk
  rw [List.getD_eq_getElem?_getD, List.getD_eq_getElem?_getD, List.getElem?_take, if_pos hk, List.getElem?_drop]
theorem nextW_lo (msg : List UInt8) (a : Nat) (l : List UInt32) (i : Nat) (hi : i < 16) : nextW (blk msg a) l i = (((msg.getD (a + 4 * i) 0).toUInt32 <<< 24 + (msg.getD (a + 4 * i + 1) 0).toUInt32 <<< 16) + (msg.getD (a + 4 * i + 2) 0).toUInt32 <<< 8) + (msg.getD (a + 4 * i + 3) 0).toUInt32 := by
  unfold nextW w4
  rw [if_pos hi, or_add, blk_get _ _ _ (by omega), blk_get _ _ _ (by omega), blk_get _ _ _ (by omega), blk_get _ _ _ (by omega)]
  rfl
theorem nextW_hi (b : List UInt8) (l : List UInt32) (i : Nat) (hi : ¬ i < 16) : nextW b l i = ((sg1 (l.getD (i - 2) 0) + l.getD (i - 7) 0) + sg0 (l.getD (i - 15) 0)) + l.getD (i - 16) 0 := by
  unfold nextW
  rw [if_neg hi]
  ac_rfl
theorem rnd_ref (s : R8) (w k : UInt32) : rnd s w k = ⟨((((s.h + bg1 s.e) + ((s.e &&& s.f) ^^^ (~~~s.e &&& s.g))) + k) + w) + (bg0 s.a + (((s.a &&& s.b) ^^^ (s.a &&& s.c)) ^^^ (s.b &&& s.c))), s.a, s.b, s.c, s.d + ((((s.h + bg1 s.e) + ((s.e &&& s.f) ^^^ (~~~s.e &&& s.g))) + k) + w), s.e, s.f, s.g⟩ := by
  unfold rnd chs maj
  rw [ch_eq, maj_eq, UInt32.add_comm w]
theorem r8_list (h : List UInt32) (hh : h.length = 8) : (R8.of h).list = h := by
  apply List.ext_getElem (by simp [R8.list, hh])
  intro j h1 h2
  have : j = 0 ∨ j = 1 ∨ j = 2 ∨ j = 3 ∨ j = 4 ∨ j = 5 ∨ j = 6 ∨ j = 7 := by omega
  rcases this with rfl | rfl | rfl | rfl | rfl | rfl | rfl | rfl <;> simp [R8.list, R8.of, List.getD_eq_getElem?_getD, List.getElem?_eq_getElem h2]
theorem dig_all (l : List UInt8) : dig l = outL (eatAll hT (l ++ padL l.length)).1 := by
  unfold dig Tal.sum Tal.add Tal.new
  rw [List.nil_append, eatAll_append hT l (padL l.length)]
  simp
theorem padded (l : List UInt8) : (l ++ padL l.length).length % 64 = 0 := by
  unfold padL be8
  simp
  omega
theorem turn2_calls (q : UInt32) (w : World) : Calls Try.prog 82 #[.int .u32 (q.toNat : Int), .int .u64 2] w fun e w' => e = .returned (.int .u32 ((rr q 2).toNat : Int)) ∧ w' = w := by
  have hq := q.toNat_lt
  have e1 := shl_u32 q 30 (32 - 2) rfl (by omega)
  have e2 := shr_u32 q 2 2 rfl (by omega)
  have e3 := or_u32 (q >>> 2) (q <<< (32 - 2))
  rw [← e1, ← e2] at e3
  go_enter Try.func82, Try.ntmps82
  go_wp2
  go_ret
  refine ⟨?_, rfl⟩
  rw [show rr q 2 = q >>> 2 ||| q <<< (32 - 2) by unfold rr; exact UInt32.or_comm _ _, ← e3]
  simp
theorem turn6_calls (q : UInt32) (w : World) : Calls Try.prog 82 #[.int .u32 (q.toNat : Int), .int .u64 6] w fun e w' => e = .returned (.int .u32 ((rr q 6).toNat : Int)) ∧ w' = w := by
  have hq := q.toNat_lt
  have e1 := shl_u32 q 26 (32 - 6) rfl (by omega)
  have e2 := shr_u32 q 6 6 rfl (by omega)
  have e3 := or_u32 (q >>> 6) (q <<< (32 - 6))
  rw [← e1, ← e2] at e3
  go_enter Try.func82, Try.ntmps82
  go_wp2
  go_ret
  refine ⟨?_, rfl⟩
  rw [show rr q 6 = q >>> 6 ||| q <<< (32 - 6) by unfold rr; exact UInt32.or_comm _ _, ← e3]
  simp
theorem turn7_calls (q : UInt32) (w : World) : Calls Try.prog 82 #[.int .u32 (q.toNat : Int), .int .u64 7] w fun e w' => e = .returned (.int .u32 ((rr q 7).toNat : Int)) ∧ w' = w := by
  have hq := q.toNat_lt
  have e1 := shl_u32 q 25 (32 - 7) rfl (by omega)
  have e2 := shr_u32 q 7 7 rfl (by omega)
  have e3 := or_u32 (q >>> 7) (q <<< (32 - 7))
  rw [← e1, ← e2] at e3
  go_enter Try.func82, Try.ntmps82
  go_wp2
  go_ret
  refine ⟨?_, rfl⟩
  rw [show rr q 7 = q >>> 7 ||| q <<< (32 - 7) by unfold rr; exact UInt32.or_comm _ _, ← e3]
  simp
theorem turn11_calls (q : UInt32) (w : World) : Calls Try.prog 82 #[.int .u32 (q.toNat : Int), .int .u64 11] w fun e w' => e = .returned (.int .u32 ((rr q 11).toNat : Int)) ∧ w' = w := by
  have hq := q.toNat_lt
  have e1 := shl_u32 q 21 (32 - 11) rfl (by omega)
  have e2 := shr_u32 q 11 11 rfl (by omega)
  have e3 := or_u32 (q >>> 11) (q <<< (32 - 11))
  rw [← e1, ← e2] at e3
  go_enter Try.func82, Try.ntmps82
  go_wp2
  go_ret
  refine ⟨?_, rfl⟩
  rw [show rr q 11 = q >>> 11 ||| q <<< (32 - 11) by unfold rr; exact UInt32.or_comm _ _, ← e3]
  simp
theorem turn13_calls (q : UInt32) (w : World) : Calls Try.prog 82 #[.int .u32 (q.toNat : Int), .int .u64 13] w fun e w' => e = .returned (.int .u32 ((rr q 13).toNat : Int)) ∧ w' = w := by
  have hq := q.toNat_lt
  have e1 := shl_u32 q 19 (32 - 13) rfl (by omega)
  have e2 := shr_u32 q 13 13 rfl (by omega)
  have e3 := or_u32 (q >>> 13) (q <<< (32 - 13))
  rw [← e1, ← e2] at e3
  go_enter Try.func82, Try.ntmps82
  go_wp2
  go_ret
  refine ⟨?_, rfl⟩
  rw [show rr q 13 = q >>> 13 ||| q <<< (32 - 13) by unfold rr; exact UInt32.or_comm _ _, ← e3]
  simp
theorem turn17_calls (q : UInt32) (w : World) : Calls Try.prog 82 #[.int .u32 (q.toNat : Int), .int .u64 17] w fun e w' => e = .returned (.int .u32 ((rr q 17).toNat : Int)) ∧ w' = w := by
  have hq := q.toNat_lt
  have e1 := shl_u32 q 15 (32 - 17) rfl (by omega)
  have e2 := shr_u32 q 17 17 rfl (by omega)
  have e3 := or_u32 (q >>> 17) (q <<< (32 - 17))
  rw [← e1, ← e2] at e3
  go_enter Try.func82, Try.ntmps82
  go_wp2
  go_ret
  refine ⟨?_, rfl⟩
  rw [show rr q 17 = q >>> 17 ||| q <<< (32 - 17) by unfold rr; exact UInt32.or_comm _ _, ← e3]
  simp
theorem turn18_calls (q : UInt32) (w : World) : Calls Try.prog 82 #[.int .u32 (q.toNat : Int), .int .u64 18] w fun e w' => e = .returned (.int .u32 ((rr q 18).toNat : Int)) ∧ w' = w := by
  have hq := q.toNat_lt
  have e1 := shl_u32 q 14 (32 - 18) rfl (by omega)
  have e2 := shr_u32 q 18 18 rfl (by omega)
  have e3 := or_u32 (q >>> 18) (q <<< (32 - 18))
  rw [← e1, ← e2] at e3
  go_enter Try.func82, Try.ntmps82
  go_wp2
  go_ret
  refine ⟨?_, rfl⟩
  rw [show rr q 18 = q >>> 18 ||| q <<< (32 - 18) by unfold rr; exact UInt32.or_comm _ _, ← e3]
  simp
theorem turn19_calls (q : UInt32) (w : World) : Calls Try.prog 82 #[.int .u32 (q.toNat : Int), .int .u64 19] w fun e w' => e = .returned (.int .u32 ((rr q 19).toNat : Int)) ∧ w' = w := by
  have hq := q.toNat_lt
  have e1 := shl_u32 q 13 (32 - 19) rfl (by omega)
  have e2 := shr_u32 q 19 19 rfl (by omega)
  have e3 := or_u32 (q >>> 19) (q <<< (32 - 19))
  rw [← e1, ← e2] at e3
  go_enter Try.func82, Try.ntmps82
  go_wp2
  go_ret
  refine ⟨?_, rfl⟩
  rw [show rr q 19 = q >>> 19 ||| q <<< (32 - 19) by unfold rr; exact UInt32.or_comm _ _, ← e3]
  simp
theorem turn22_calls (q : UInt32) (w : World) : Calls Try.prog 82 #[.int .u32 (q.toNat : Int), .int .u64 22] w fun e w' => e = .returned (.int .u32 ((rr q 22).toNat : Int)) ∧ w' = w := by
  have hq := q.toNat_lt
  have e1 := shl_u32 q 10 (32 - 22) rfl (by omega)
  have e2 := shr_u32 q 22 22 rfl (by omega)
  have e3 := or_u32 (q >>> 22) (q <<< (32 - 22))
  rw [← e1, ← e2] at e3
  go_enter Try.func82, Try.ntmps82
  go_wp2
  go_ret
  refine ⟨?_, rfl⟩
  rw [show rr q 22 = q >>> 22 ||| q <<< (32 - 22) by unfold rr; exact UInt32.or_comm _ _, ← e3]
  simp
theorem turn25_calls (q : UInt32) (w : World) : Calls Try.prog 82 #[.int .u32 (q.toNat : Int), .int .u64 25] w fun e w' => e = .returned (.int .u32 ((rr q 25).toNat : Int)) ∧ w' = w := by
  have hq := q.toNat_lt
  have e1 := shl_u32 q 7 (32 - 25) rfl (by omega)
  have e2 := shr_u32 q 25 25 rfl (by omega)
  have e3 := or_u32 (q >>> 25) (q <<< (32 - 25))
  rw [← e1, ← e2] at e3
  go_enter Try.func82, Try.ntmps82
  go_wp2
  go_ret
  refine ⟨?_, rfl⟩
  rw [show rr q 25 = q >>> 25 ||| q <<< (32 - 25) by unfold rr; exact UInt32.or_comm _ _, ← e3]
  simp
noncomputable def ps (k : Nat) : Code := ((Try.f31.body.map loopsIn).getD []).getD k .skip
noncomputable def ps2 (k : Nat) : Code := (loopsIn (ps 2)).getD k .skip
end Go.Proofs.Ytcchhfkmhbjdmaa
