/- The document's digest walked. -/
import Derived.Test.YtcchhfkmhbjdmaaPm4
import Derived.Test.YtcchhfkmhbjdmaaPm5
/-! Jl0 -/
set_option linter.unusedVariables false
set_option linter.unusedSimpArgs false
set_option pp.deepTerms true
set_option pp.maxSteps 100000
namespace Go.Proofs.Ytcchhfkmhbjdmaa
open Go.RowKit
theorem ch_eq (e f g : UInt32) : (e &&& f) ^^^ (~~~e &&& g) = g ^^^ (e &&& (f ^^^ g)) := by
  apply UInt32.toBitVec_inj.mp
  apply BitVec.eq_of_getLsbD_eq
  intro i hi
  simp only [UInt32.toBitVec_xor, UInt32.toBitVec_and, UInt32.toBitVec_not, BitVec.getLsbD_xor, BitVec.getLsbD_and, BitVec.getLsbD_not, hi, decide_true, Bool.true_and]
  cases e.toBitVec.getLsbD i <;> cases f.toBitVec.getLsbD i <;> cases g.toBitVec.getLsbD i <;> rfl
theorem maj_eq (a b c : UInt32) : ((a &&& b) ^^^ (a &&& c)) ^^^ (b &&& c) = (a &&& b) ||| (c &&& (a ||| b)) := by
  apply UInt32.toBitVec_inj.mp
  apply BitVec.eq_of_getLsbD_eq
  intro i hi
  simp only [UInt32.toBitVec_xor, UInt32.toBitVec_and, UInt32.toBitVec_or, BitVec.getLsbD_xor, BitVec.getLsbD_and, BitVec.getLsbD_or]
  cases a.toBitVec.getLsbD i <;> cases b.toBitVec.getLsbD i <;> cases c.toBitVec.getLsbD i <;> rfl
theorem or_mul (a b k m : Nat) (hm : 2 ^ k = m) (h : b < m) : a * m ||| b = a * m + b := by
  subst hm
  rw [← Nat.shiftLeft_eq, ← Nat.shiftLeft_add_eq_or_of_lt h]
theorem or_add (x0 x1 x2 x3 : UInt8) : ((x0.toUInt32 <<< 24 + x1.toUInt32 <<< 16) + x2.toUInt32 <<< 8) + x3.toUInt32 = ((x0.toUInt32 <<< 24 ||| x1.toUInt32 <<< 16) ||| x2.toUInt32 <<< 8) ||| x3.toUInt32 := by
  apply UInt32.toNat_inj.mp
  have h0 := x0.toNat_lt
  have h1 := x1.toNat_lt
  have h2 := x2.toNat_lt
  have h3 := x3.toNat_lt
  have e0 : (x0.toUInt32 <<< 24).toNat = x0.toNat * 16777216 := by rw [UInt32.toNat_shiftLeft]; simp [Nat.shiftLeft_eq]; omega
  have e1 : (x1.toUInt32 <<< 16).toNat = x1.toNat * 65536 := by rw [UInt32.toNat_shiftLeft]; simp [Nat.shiftLeft_eq]; omega
  have e2 : (x2.toUInt32 <<< 8).toNat = x2.toNat * 256 := by rw [UInt32.toNat_shiftLeft]; simp [Nat.shiftLeft_eq]; omega
  have e3 : x3.toUInt32.toNat = x3.toNat := by simp
  have o1 : x0.toNat * 16777216 ||| x1.toNat * 65536 = x0.toNat * 16777216 + x1.toNat * 65536 := or_mul _ _ 24 16777216 rfl (by omega)
  have o2 : (x0.toNat * 16777216 + x1.toNat * 65536) ||| x2.toNat * 256 = x0.toNat * 16777216 + x1.toNat * 65536 + x2.toNat * 256 := by
    rw [show x0.toNat * 16777216 + x1.toNat * 65536 = (x0.toNat * 256 + x1.toNat) * 65536 by omega]
    exact or_mul _ _ 16 65536 rfl (by omega)
  have o3 : (x0.toNat * 16777216 + x1.toNat * 65536 + x2.toNat * 256) ||| x3.toNat = x0.toNat * 16777216 + x1.toNat * 65536 + x2.toNat * 256 + x3.toNat := by
    rw [show x0.toNat * 16777216 + x1.toNat * 65536 + x2.toNat * 256 = (x0.toNat * 65536 + x1.toNat * 256 + x2.toNat) * 256 by omega]
    exact or_mul _ _ 8 256 rfl (by omega)
  rw [UInt32.toNat_or, UInt32.toNat_or, UInt32.toNat_or, UInt32.toNat_add, UInt32.toNat_add, UInt32.toNat_add, e0, e1, e2, e3, o1, o2, o3]
  omega
theorem add_small (a b z : UInt32) (hz : z = a + b) (h : a.toNat + b.toNat < 4294967296) : (a.toNat : Int) + (b.toNat : Int) = (z.toNat : Int) := by
  rw [hz, ← add_u32]; omega
theorem not_eq (e : UInt32) : 4294967295 ^^^ e = ~~~e := by
  apply UInt32.toBitVec_inj.mp
  apply BitVec.eq_of_getLsbD_eq
  intro i hi
  have h : (4294967295 : UInt32).toBitVec = BitVec.allOnes 32 := by decide
  simp only [UInt32.toBitVec_xor, UInt32.toBitVec_not, BitVec.getLsbD_xor, BitVec.getLsbD_not, h, BitVec.getLsbD_allOnes, hi, decide_true, Bool.true_and, Bool.true_xor]
def blk (msg : List UInt8) (at_ : Nat) : List UInt8 := (msg.drop at_).take 64
theorem blk_length (msg : List UInt8) (a : Nat) (h : a + 64 ≤ msg.length) : (blk msg a).length = 64 := by unfold blk; rw [List.length_take, List.length_drop]; omega
theorem blk_get (msg : List UInt8) (a k : Nat) (hk : k < 64) : (blk msg a).getD k 0 = msg.getD (a + k) 0 := by
  unfold blk
  rw [List.getD_eq_getElem?_getD, List.getD_eq_getElem?_getD, List.getElem?_take, if_pos hk, List.getElem?_drop]
theorem nextW_lo (msg : List UInt8) (a : Nat) (l : List UInt32) (i : Nat) (hi : i < 16) : nextW (blk msg a) l i = (((msg.getD (a + 4 * i) 0).toUInt32 <<< 24 + (msg.getD (a + 4 * i + 1) 0).toUInt32 <<< 16) + (msg.getD (a + 4 * i + 2) 0).toUInt32 <<< 8) + (msg.getD (a + 4 * i + 3) 0).toUInt32 := by
  unfold nextW w4
  rw [if_pos hi, or_add, blk_get _ _ _ (by omega), blk_get _ _ _ (by omega), blk_get _ _ _ (by omega), blk_get _ _ _ (by omega)]
  rfl
theorem nextW_hi (b : List UInt8) (l : List UInt32) (i : Nat) (hi : ¬ i < 16) : nextW b l i = ((sg1 (l.getD (i - 2) 0) + l.getD (i - 7) 0) + sg0 (l.getD (i - 15) 0)) + l.getD (i - 16) 0 := by
  unfold nextW
  rw [if_neg hi]
  ac_rfl
theorem rnd_ref (s : R8) (w k : UInt32) : rnd s w k = ⟨((((s.h + bg1 s.e) + ((s.e &&& s.f) ^^^ (~~~s.e &&& s.g))) + k) + w) + (bg0 s.a + (((s.a &&& s.b) ^^^ (s.a &&& s.c)) ^^^ (s.b &&& s.c))), s.a, s.b, s.c, s.d + ((((s.h + bg1 s.e) + ((s.e &&& s.f) ^^^ (~~~s.e &&& s.g))) + k) + w), s.e, s.f, s.g⟩ := by
  unfold rnd chs maj
  rw [ch_eq, maj_eq, UInt32.add_comm w]
theorem r8_list (h : List UInt32) (hh : h.length = 8) : (R8.of h).list = h := by
  apply List.ext_getElem (by simp [R8.list, hh])
  intro j h1 h2
  have : j = 0 ∨ j = 1 ∨ j = 2 ∨ j = 3 ∨ j = 4 ∨ j = 5 ∨ j = 6 ∨ j = 7 := by omega
  rcases this with rfl | rfl | rfl | rfl | rfl | rfl | rfl | rfl <;> simp [R8.list, R8.of, List.getD_eq_getElem?_getD, List.getElem?_eq_getElem h2]
theorem dig_all (l : List UInt8) : dig l = outL (eatAll hT (l ++ padL l.length)).1 := by
  unfold dig Tal.sum Tal.add Tal.new
  rw [List.nil_append, eatAll_append hT l (padL l.length)]
  simp
theorem padded (l : List UInt8) : (l ++ padL l.length).length % 64 = 0 := by
  unfold padL be8
  simp
  omega
theorem turn2_calls (q : UInt32) (w : World) : Calls Try.prog 82 #[.int .u32 (q.toNat : Int), .int .u64 2] w fun e w' => e = .returned (.int .u32 ((rr q 2).toNat : Int)) ∧ w' = w := by
  have hq := q.toNat_lt
  have e1 := shl_u32 q 30 (32 - 2) rfl (by omega)
  have e2 := shr_u32 q 2 2 rfl (by omega)
  have e3 := or_u32 (q >>> 2) (q <<< (32 - 2))
  rw [← e1, ← e2] at e3
  go_enter Try.func82, Try.ntmps82
  go_wp2
  go_ret
  refine ⟨?_, rfl⟩
  rw [show rr q 2 = q >>> 2 ||| q <<< (32 - 2) by unfold rr; exact UInt32.or_comm _ _, ← e3]
  simp
theorem turn6_calls (q : UInt32) (w : World) : Calls Try.prog 82 #[.int .u32 (q.toNat : Int), .int .u64 6] w fun e w' => e = .returned (.int .u32 ((rr q 6).toNat : Int)) ∧ w' = w := by
  have hq := q.toNat_lt
  have e1 := shl_u32 q 26 (32 - 6) rfl (by omega)
  have e2 := shr_u32 q 6 6 rfl (by omega)
  have e3 := or_u32 (q >>> 6) (q <<< (32 - 6))
  rw [← e1, ← e2] at e3
  go_enter Try.func82, Try.ntmps82
  go_wp2
  go_ret
  refine ⟨?_, rfl⟩
  rw [show rr q 6 = q >>> 6 ||| q <<< (32 - 6) by unfold rr; exact UInt32.or_comm _ _, ← e3]
  simp
theorem turn7_calls (q : UInt32) (w : World) : Calls Try.prog 82 #[.int .u32 (q.toNat : Int), .int .u64 7] w fun e w' => e = .returned (.int .u32 ((rr q 7).toNat : Int)) ∧ w' = w := by
  have hq := q.toNat_lt
  have e1 := shl_u32 q 25 (32 - 7) rfl (by omega)
  have e2 := shr_u32 q 7 7 rfl (by omega)
  have e3 := or_u32 (q >>> 7) (q <<< (32 - 7))
  rw [← e1, ← e2] at e3
  go_enter Try.func82, Try.ntmps82
  go_wp2
  go_ret
  refine ⟨?_, rfl⟩
  rw [show rr q 7 = q >>> 7 ||| q <<< (32 - 7) by unfold rr; exact UInt32.or_comm _ _, ← e3]
  simp
theorem turn11_calls (q : UInt32) (w : World) : Calls Try.prog 82 #[.int .u32 (q.toNat : Int), .int .u64 11] w fun e w' => e = .returned (.int .u32 ((rr q 11).toNat : Int)) ∧ w' = w := by
  have hq := q.toNat_lt
  have e1 := shl_u32 q 21 (32 - 11) rfl (by omega)
  have e2 := shr_u32 q 11 11 rfl (by omega)
  have e3 := or_u32 (q >>> 11) (q <<< (32 - 11))
  rw [← e1, ← e2] at e3
  go_enter Try.func82, Try.ntmps82
  go_wp2
  go_ret
  refine ⟨?_, rfl⟩
  rw [show rr q 11 = q >>> 11 ||| q <<< (32 - 11) by unfold rr; exact UInt32.or_comm _ _, ← e3]
  simp
theorem turn13_calls (q : UInt32) (w : World) : Calls Try.prog 82 #[.int .u32 (q.toNat : Int), .int .u64 13] w fun e w' => e = .returned (.int .u32 ((rr q 13).toNat : Int)) ∧ w' = w := by
  have hq := q.toNat_lt
  have e1 := shl_u32 q 19 (32 - 13) rfl (by omega)
  have e2 := shr_u32 q 13 13 rfl (by omega)
  have e3 := or_u32 (q >>> 13) (q <<< (32 - 13))
  rw [← e1, ← e2] at e3
  go_enter Try.func82, Try.ntmps82
  go_wp2
  go_ret
  refine ⟨?_, rfl⟩
  rw [show rr q 13 = q >>> 13 ||| q <<< (32 - 13) by unfold rr; exact UInt32.or_comm _ _, ← e3]
  simp
theorem turn17_calls (q : UInt32) (w : World) : Calls Try.prog 82 #[.int .u32 (q.toNat : Int), .int .u64 17] w fun e w' => e = .returned (.int .u32 ((rr q 17).toNat : Int)) ∧ w' = w := by
  have hq := q.toNat_lt
  have e1 := shl_u32 q 15 (32 - 17) rfl (by omega)
  have e2 := shr_u32 q 17 17 rfl (by omega)
  have e3 := or_u32 (q >>> 17) (q <<< (32 - 17))
  rw [← e1, ← e2] at e3
  go_enter Try.func82, Try.ntmps82
  go_wp2
  go_ret
  refine ⟨?_, rfl⟩
  rw [show rr q 17 = q >>> 17 ||| q <<< (32 - 17) by unfold rr; exact UInt32.or_comm _ _, ← e3]
  simp
theorem turn18_calls (q : UInt32) (w : World) : Calls Try.prog 82 #[.int .u32 (q.toNat : Int), .int .u64 18] w fun e w' => e = .returned (.int .u32 ((rr q 18).toNat : Int)) ∧ w' = w := by
  have hq := q.toNat_lt
  have e1 := shl_u32 q 14 (32 - 18) rfl (by omega)
  have e2 := shr_u32 q 18 18 rfl (by omega)
  have e3 := or_u32 (q >>> 18) (q <<< (32 - 18))
  rw [← e1, ← e2] at e3
  go_enter Try.func82, Try.ntmps82
  go_wp2
  go_ret
  refine ⟨?_, rfl⟩
  rw [show rr q 18 = q >>> 18 ||| q <<< (32 - 18) by unfold rr; exact UInt32.or_comm _ _, ← e3]
  simp
theorem turn19_calls (q : UInt32) (w : World) : Calls Try.prog 82 #[.int .u32 (q.toNat : Int), .int .u64 19] w fun e w' => e = .returned (.int .u32 ((rr q 19).toNat : Int)) ∧ w' = w := by
  have hq := q.toNat_lt
  have e1 := shl_u32 q 13 (32 - 19) rfl (by omega)
  have e2 := shr_u32 q 19 19 rfl (by omega)
  have e3 := or_u32 (q >>> 19) (q <<< (32 - 19))
  rw [← e1, ← e2] at e3
  go_enter Try.func82, Try.ntmps82
  go_wp2
  go_ret
  refine ⟨?_, rfl⟩
  rw [show rr q 19 = q >>> 19 ||| q <<< (32 - 19) by unfold rr; exact UInt32.or_comm _ _, ← e3]
  simp
theorem turn22_calls (q : UInt32) (w : World) : Calls Try.prog 82 #[.int .u32 (q.toNat : Int), .int .u64 22] w fun e w' => e = .returned (.int .u32 ((rr q 22).toNat : Int)) ∧ w' = w := by
  have hq := q.toNat_lt
  have e1 := shl_u32 q 10 (32 - 22) rfl (by omega)
  have e2 := shr_u32 q 22 22 rfl (by omega)
  have e3 := or_u32 (q >>> 22) (q <<< (32 - 22))
  rw [← e1, ← e2] at e3
  go_enter Try.func82, Try.ntmps82
  go_wp2
  go_ret
  refine ⟨?_, rfl⟩
  rw [show rr q 22 = q >>> 22 ||| q <<< (32 - 22) by unfold rr; exact UInt32.or_comm _ _, ← e3]
  simp
theorem turn25_calls (q : UInt32) (w : World) : Calls Try.prog 82 #[.int .u32 (q.toNat : Int), .int .u64 25] w fun e w' => e = .returned (.int .u32 ((rr q 25).toNat : Int)) ∧ w' = w := by
  have hq := q.toNat_lt
  have e1 := shl_u32 q 7 (32 - 25) rfl (by omega)
  have e2 := shr_u32 q 25 25 rfl (by omega)
  have e3 := or_u32 (q >>> 25) (q <<< (32 - 25))
  rw [← e1, ← e2] at e3
  go_enter Try.func82, Try.ntmps82
  go_wp2
  go_ret
  refine ⟨?_, rfl⟩
  rw [show rr q 25 = q >>> 25 ||| q <<< (32 - 25) by unfold rr; exact UInt32.or_comm _ _, ← e3]
  simp
noncomputable def ps (k : Nat) : Code := ((Try.f31.body.map loopsIn).getD []).getD k .skip
noncomputable def ps2 (k : Nat) : Code := (loopsIn (ps 2)).getD k .skip
end Go.Proofs.Ytcchhfkmhbjdmaa
/-! Jl4 -/
set_option linter.unusedVariables false
set_option linter.unusedSimpArgs false
set_option pp.deepTerms true
set_option pp.maxSteps 100000
namespace Go.Proofs.Ytcchhfkmhbjdmaa
open Go.RowKit
set_option maxRecDepth 100000 in
set_option maxHeartbeats 4000000 in
theorem ref_l4 (s0 s1 s2 s4 s5 s6 s7 s11 s12 s13 s14 s15 s16 s17 s18 s19 s20 s21 s22 s23 s24 s25 s26 s27 s28 s29 s30 s31 s32 s33 s34 s35 s36 s37 s38 s39 s40 s41 s42 s43 s44 s45 s46 s47 s48 s49 s50 s51 s52 s53 s54 s55 s56 s57 s58 s59 s60 s61 s62 s63 s64 s65 s66 s67 s68 s69 s70 s71 s72 s73 s74 s75 s76 s77 s78 s79 s80 s81 s82 s83 s84 s85 s86 s87 s88 s89 s90 s91 s92 s93 s94 s95 s96 s97 s98 s99 s100 s101 s102 s103 s104 s105 s106 s107 s108 s109 s110 s111 s112 s113 s114 s115 s116 s117 s118 s119 s120 s121 s122 s123 s124 s125 s126 s127 s128 s129 s130 s131 s132 s133 s134 s135 s136 s137 s138 s139 s140 s141 s142 s143 s144 s145 s146 s147 s148 s149 s150 s151 s152 s153 s154 s155 s156 s157 s158 s159 s160 s161 s162 s163 s164 s165 s166 s167 s168 s169 s170 s171 s172 s173 s174 s175 s176 s177 s178 s179 s180 s181 s182 s183 s184 s185 s186 s187 s188 s189 s190 s191 s192 s193 s194 s195 s196 s197 s198 s199 s200 s201 s202 s203 s204 s205 s206 s207 s208 s209 s210 s211 s212 s213 s214 s215 s216 s217 s218 s219 s220 s221 s222 s223 s224 s225 s226 s227 s228 s229 s230 s231 s232 s233 s234 s235 s236 s237 s238 s239 s240 s241 s242 s243 s244 s245 s246 s247 s248 s249 s250 s251 s252 s253 s254 s255 s256 s257 s258 s259 s260 s261 s262 s263 s264 s265 s266 s267 s268 s269 s270 s271 s272 s273 s274 s275 s276 s277 s278 s279 : Value) (g L cap a B : Nat) (msg : List UInt8) (hL : L = msg.length) (hLb : L ≤ 1000000) (ha : a + 64 ≤ L) (w : World) (hm : ∀ k x, msg[k]? = some x → w.cell? ⟨g, k, none⟩ = some (.int .u8 (x.toNat : Int))) (hgB : g ≠ B)
    (hB : w.heap[B]? = some (.cells (wcells (List.replicate 64 0) ++ []).toArray 115 (0, 0))) (Q0 : Exit → Act → World → Prop)
    (hexit : ∀ (u54 u55 u56 u57 u58 u59 u60 u61 u62 u63 u64 u65 u66 u67 u68 u69 u70 u71 u72 u73 u74 u75 u76 u77 u78 u79 u80 u81 u82 u83 u84 u85 u86 u87 u88 u89 u90 u91 u92 u93 u94 u95 u96 u97 u98 u99 u100 u101 u102 u103 u104 u105 u106 u107 u108 u109 u110 u111 u112 u113 u114 u115 u116 u117 u118 u119 u120 u121 u122 u123 u124 u125 u126 u127 u128 u129 u130 u131 u132 u133 u134 u135 u136 u137 u138 u139 u140 u141 u142 u143 u144 u145 u146 u147 u148 u149 : Value) (w' : World), w'.heap[B]? = some (.cells (wcells (sws (blk msg a) 64) ++ []).toArray 115 (0, 0)) → Fr (fun i => i = B) w w' → Q0 (.exit 6) ⟨(s0 :: s1 :: s2 :: .slice (some ⟨g, 0, none⟩) L cap :: s4 :: s5 :: s6 :: s7 :: .int .i64 (a : Int) :: .pointer (some ⟨B, 0, none⟩) :: .int .i64 (64) :: s11 :: s12 :: s13 :: s14 :: s15 :: s16 :: s17 :: s18 :: s19 :: s20 :: s21 :: s22 :: s23 :: s24 :: s25 :: s26 :: s27 :: s28 :: s29 :: s30 :: s31 :: s32 :: s33 :: s34 :: s35 :: s36 :: s37 :: s38 :: s39 :: s40 :: s41 :: s42 :: s43 :: s44 :: s45 :: s46 :: s47 :: s48 :: s49 :: s50 :: s51 :: s52 :: s53 :: u54 :: u55 :: u56 :: u57 :: u58 :: u59 :: u60 :: u61 :: u62 :: u63 :: u64 :: u65 :: u66 :: u67 :: u68 :: u69 :: u70 :: u71 :: u72 :: u73 :: u74 :: u75 :: u76 :: u77 :: u78 :: u79 :: u80 :: u81 :: u82 :: u83 :: u84 :: u85 :: u86 :: u87 :: u88 :: u89 :: u90 :: u91 :: u92 :: u93 :: u94 :: u95 :: u96 :: u97 :: u98 :: u99 :: u100 :: u101 :: u102 :: u103 :: u104 :: u105 :: u106 :: u107 :: u108 :: u109 :: u110 :: u111 :: u112 :: u113 :: u114 :: u115 :: u116 :: u117 :: u118 :: u119 :: u120 :: u121 :: u122 :: u123 :: u124 :: u125 :: u126 :: u127 :: u128 :: u129 :: u130 :: u131 :: u132 :: u133 :: u134 :: u135 :: u136 :: u137 :: u138 :: u139 :: u140 :: u141 :: u142 :: u143 :: u144 :: u145 :: u146 :: u147 :: u148 :: u149 :: s150 :: s151 :: s152 :: s153 :: s154 :: s155 :: s156 :: s157 :: s158 :: s159 :: s160 :: s161 :: s162 :: s163 :: s164 :: s165 :: s166 :: s167 :: s168 :: s169 :: s170 :: s171 :: s172 :: s173 :: s174 :: s175 :: s176 :: s177 :: s178 :: s179 :: s180 :: s181 :: s182 :: s183 :: s184 :: s185 :: s186 :: s187 :: s188 :: s189 :: s190 :: s191 :: s192 :: s193 :: s194 :: s195 :: s196 :: s197 :: s198 :: s199 :: s200 :: s201 :: s202 :: s203 :: s204 :: s205 :: s206 :: s207 :: s208 :: s209 :: s210 :: s211 :: s212 :: s213 :: s214 :: s215 :: s216 :: s217 :: s218 :: s219 :: s220 :: s221 :: s222 :: s223 :: s224 :: s225 :: s226 :: s227 :: s228 :: s229 :: s230 :: s231 :: s232 :: s233 :: s234 :: s235 :: s236 :: s237 :: s238 :: s239 :: s240 :: s241 :: s242 :: s243 :: s244 :: s245 :: s246 :: s247 :: s248 :: s249 :: s250 :: s251 :: s252 :: s253 :: s254 :: s255 :: s256 :: s257 :: s258 :: s259 :: s260 :: s261 :: s262 :: s263 :: s264 :: s265 :: s266 :: s267 :: s268 :: s269 :: s270 :: s271 :: s272 :: s273 :: s274 :: s275 :: s276 :: s277 :: s278 :: s279 :: []).toArray, []⟩ w') :
    Code.wp Try.prog (Code.loop (ps2 0)) Q0 ⟨(s0 :: s1 :: s2 :: .slice (some ⟨g, 0, none⟩) L cap :: s4 :: s5 :: s6 :: s7 :: .int .i64 (a : Int) :: .pointer (some ⟨B, 0, none⟩) :: .int .i64 (0) :: s11 :: s12 :: s13 :: s14 :: s15 :: s16 :: s17 :: s18 :: s19 :: s20 :: s21 :: s22 :: s23 :: s24 :: s25 :: s26 :: s27 :: s28 :: s29 :: s30 :: s31 :: s32 :: s33 :: s34 :: s35 :: s36 :: s37 :: s38 :: s39 :: s40 :: s41 :: s42 :: s43 :: s44 :: s45 :: s46 :: s47 :: s48 :: s49 :: s50 :: s51 :: s52 :: s53 :: s54 :: s55 :: s56 :: s57 :: s58 :: s59 :: s60 :: s61 :: s62 :: s63 :: s64 :: s65 :: s66 :: s67 :: s68 :: s69 :: s70 :: s71 :: s72 :: s73 :: s74 :: s75 :: s76 :: s77 :: s78 :: s79 :: s80 :: s81 :: s82 :: s83 :: s84 :: s85 :: s86 :: s87 :: s88 :: s89 :: s90 :: s91 :: s92 :: s93 :: s94 :: s95 :: s96 :: s97 :: s98 :: s99 :: s100 :: s101 :: s102 :: s103 :: s104 :: s105 :: s106 :: s107 :: s108 :: s109 :: s110 :: s111 :: s112 :: s113 :: s114 :: s115 :: s116 :: s117 :: s118 :: s119 :: s120 :: s121 :: s122 :: s123 :: s124 :: s125 :: s126 :: s127 :: s128 :: s129 :: s130 :: s131 :: s132 :: s133 :: s134 :: s135 :: s136 :: s137 :: s138 :: s139 :: s140 :: s141 :: s142 :: s143 :: s144 :: s145 :: s146 :: s147 :: s148 :: s149 :: s150 :: s151 :: s152 :: s153 :: s154 :: s155 :: s156 :: s157 :: s158 :: s159 :: s160 :: s161 :: s162 :: s163 :: s164 :: s165 :: s166 :: s167 :: s168 :: s169 :: s170 :: s171 :: s172 :: s173 :: s174 :: s175 :: s176 :: s177 :: s178 :: s179 :: s180 :: s181 :: s182 :: s183 :: s184 :: s185 :: s186 :: s187 :: s188 :: s189 :: s190 :: s191 :: s192 :: s193 :: s194 :: s195 :: s196 :: s197 :: s198 :: s199 :: s200 :: s201 :: s202 :: s203 :: s204 :: s205 :: s206 :: s207 :: s208 :: s209 :: s210 :: s211 :: s212 :: s213 :: s214 :: s215 :: s216 :: s217 :: s218 :: s219 :: s220 :: s221 :: s222 :: s223 :: s224 :: s225 :: s226 :: s227 :: s228 :: s229 :: s230 :: s231 :: s232 :: s233 :: s234 :: s235 :: s236 :: s237 :: s238 :: s239 :: s240 :: s241 :: s242 :: s243 :: s244 :: s245 :: s246 :: s247 :: s248 :: s249 :: s250 :: s251 :: s252 :: s253 :: s254 :: s255 :: s256 :: s257 :: s258 :: s259 :: s260 :: s261 :: s262 :: s263 :: s264 :: s265 :: s266 :: s267 :: s268 :: s269 :: s270 :: s271 :: s272 :: s273 :: s274 :: s275 :: s276 :: s277 :: s278 :: s279 :: []).toArray, []⟩ w := by
  have HB0 := Lib.hid hB
  have HX := Lib.hid hexit
  have HM := Lib.hid hm
  have HL := Lib.hid hL
  have HA := Lib.hid ha
  clear hB hexit hm hL ha
  obtain ⟨b, hbd⟩ : ∃ b, b = blk msg a := ⟨_, rfl⟩
  have HBD := Lib.hid hbd
  rw [← hbd] at HX
  clear hbd
  conv => arg 2; arg 1; whnf
  go_loopw [10] (fun v wr => ∃ i : Nat, i ≤ 64 ∧ v = .int .i64 i ∧ wr.heap[B]? = some (.cells (wcells (sws b i ++ List.replicate (64 - i) 0) ++ []).toArray 115 (0, 0)) ∧ Fr (fun i => i = B) w wr) (fun v _ => 64 - (intOf v).toNat)
  case atStart => exact ⟨0, Nat.zero_le _, rfl, HB0.out, Fr.refl _ _⟩
  case round =>
    obtain ⟨i, hi, rfl, hBl, hf⟩ := hrel
    have HB := Lib.hid hBl
    have HF := Lib.hid hf
    clear hBl hf HB0
    by_cases hlt : i < 64
    · have hx64 : (i : Int) < 64 := by omega
      by_cases h16 : i < 16
      · have hd16 : decide ((i : Int) < 16) = true := decide_eq_true (by omega)
        have hdi : (i : Int) < 16 := by omega
        obtain ⟨i4, hi4⟩ : ∃ n, n = 4 * i := ⟨_, rfl⟩
        obtain ⟨n0, hn0⟩ : ∃ n, n = a + 4 * i := ⟨_, rfl⟩
        have ha := HA.out
        have hwi : IntKind.i64.wrap (4 * (i : Int)) = (i4 : Int) := by rw [IntWalk.i64_in _ (by omega)]; omega
        have hwn : IntKind.i64.wrap ((a : Int) + (i4 : Int)) = (n0 : Int) := by rw [IntWalk.i64_in _ (by omega)]; omega
        obtain ⟨n1, hn1⟩ : ∃ n, n = a + 4 * i + 1 := ⟨_, rfl⟩
        have hw1 : IntKind.i64.wrap ((n0 : Int) + 1) = (n1 : Int) := by rw [IntWalk.i64_in _ (by omega)]; omega
        obtain ⟨n2, hn2⟩ : ∃ n, n = a + 4 * i + 2 := ⟨_, rfl⟩
        have hw2 : IntKind.i64.wrap ((n0 : Int) + 2) = (n2 : Int) := by rw [IntWalk.i64_in _ (by omega)]; omega
        obtain ⟨n3, hn3⟩ : ∃ n, n = a + 4 * i + 3 := ⟨_, rfl⟩
        have hw3 : IntKind.i64.wrap ((n0 : Int) + 3) = (n3 : Int) := by rw [IntWalk.i64_in _ (by omega)]; omega
        have l0 : (n0 : Int) < (L : Int) := by omega
        obtain ⟨x0, hx0⟩ : ∃ x, x = msg.getD n0 0 := ⟨_, rfl⟩
        have c0 : wr.drew.cell? ⟨g, n0, none⟩ = some (.int .u8 (x0.toNat : Int)) := HF.out.cell (HM.out n0 x0 (by
          have h := HL.out
          rw [hx0, List.getD_eq_getElem?_getD, List.getElem?_eq_getElem (by omega)]; rfl)) hgB
        have l1 : (n1 : Int) < (L : Int) := by omega
        obtain ⟨x1, hx1⟩ : ∃ x, x = msg.getD n1 0 := ⟨_, rfl⟩
        have c1 : wr.drew.cell? ⟨g, n1, none⟩ = some (.int .u8 (x1.toNat : Int)) := HF.out.cell (HM.out n1 x1 (by
          have h := HL.out
          rw [hx1, List.getD_eq_getElem?_getD, List.getElem?_eq_getElem (by omega)]; rfl)) hgB
        have l2 : (n2 : Int) < (L : Int) := by omega
        obtain ⟨x2, hx2⟩ : ∃ x, x = msg.getD n2 0 := ⟨_, rfl⟩
        have c2 : wr.drew.cell? ⟨g, n2, none⟩ = some (.int .u8 (x2.toNat : Int)) := HF.out.cell (HM.out n2 x2 (by
          have h := HL.out
          rw [hx2, List.getD_eq_getElem?_getD, List.getElem?_eq_getElem (by omega)]; rfl)) hgB
        have l3 : (n3 : Int) < (L : Int) := by omega
        obtain ⟨x3, hx3⟩ : ∃ x, x = msg.getD n3 0 := ⟨_, rfl⟩
        have c3 : wr.drew.cell? ⟨g, n3, none⟩ = some (.int .u8 (x3.toNat : Int)) := HF.out.cell (HM.out n3 x3 (by
          have h := HL.out
          rw [hx3, List.getD_eq_getElem?_getD, List.getElem?_eq_getElem (by omega)]; rfl)) hgB
        obtain ⟨y0, hy0⟩ : ∃ y, y = x0.toUInt32 <<< 24 := ⟨_, rfl⟩
        have es0 : (x0.toNat : Int) * 16777216 = (y0.toNat : Int) := by
          have h1 := shl_u32 x0.toUInt32 24 24 rfl (by omega)
          rw [← u8_32, ← hy0] at h1
          have h2 := x0.toNat_lt
          rw [← h1]; simp only [Nat.reducePow]; omega
        obtain ⟨y1, hy1⟩ : ∃ y, y = x1.toUInt32 <<< 16 := ⟨_, rfl⟩
        have es1 : (x1.toNat : Int) * 65536 = (y1.toNat : Int) := by
          have h1 := shl_u32 x1.toUInt32 16 16 rfl (by omega)
          rw [← u8_32, ← hy1] at h1
          have h2 := x1.toNat_lt
          rw [← h1]; simp only [Nat.reducePow]; omega
        obtain ⟨y2, hy2⟩ : ∃ y, y = x2.toUInt32 <<< 8 := ⟨_, rfl⟩
        have es2 : (x2.toNat : Int) * 256 = (y2.toNat : Int) := by
          have h1 := shl_u32 x2.toUInt32 8 8 rfl (by omega)
          rw [← u8_32, ← hy2] at h1
          have h2 := x2.toNat_lt
          rw [← h1]; simp only [Nat.reducePow]; omega
        have bx0 := x0.toNat_lt
        have bx1 := x1.toNat_lt
        have bx2 := x2.toNat_lt
        have bx3 := x3.toNat_lt
        obtain ⟨z1, hz1⟩ : ∃ z, z = y0 + y1 := ⟨_, rfl⟩
        have ez1 := add_small y0 y1 z1 hz1 (by omega)
        obtain ⟨z2, hz2⟩ : ∃ z, z = z1 + y2 := ⟨_, rfl⟩
        have ez2 := add_small z1 y2 z2 hz2 (by omega)
        obtain ⟨z3, hz3⟩ : ∃ z, z = z2 + x3.toUInt32 := ⟨_, rfl⟩
        have ez3 : (z2.toNat : Int) + (x3.toNat : Int) = (z3.toNat : Int) := by
          rw [u8_32]; exact add_small z2 x3.toUInt32 z3 hz3 (by have : x3.toUInt32.toNat = x3.toNat := by simp
                                                                omega)
        have hv : nextW b (sws b i) i = z3 := by
          rw [HBD.out, nextW_lo msg a _ i h16, hz3, hz2, hz1, hy0, hy1, hy2, hx0, hx1, hx2, hx3, hn0, hn1, hn2, hn3]
        have c9 : wr.drew.cell? ⟨B, i, none⟩ = some (.int .u32 (((sws b i ++ List.replicate (64 - i) 0).getD i 0).toNat : Int)) := wcells_cell (w := wr.drew) HB.out i _ (sws_at b i (by omega))
        have hz' : wr.drew.frozen? ⟨B, i, none⟩ = false := frozen_of_row wr _ _ _ _ HB.out
        have HB1 := Lib.hid (show (wr.drew.setCell ⟨B, i, none⟩ (.int .u32 (z3.toNat : Int))).heap[B]? = some (.cells (wcells (sws b (i + 1) ++ List.replicate (64 - (i + 1)) 0) ++ []).toArray 115 (0, 0)) by
          have h := wcells_set (w := wr.drew) HB.out i (by rw [sws_len b i (by omega)]; omega) z3
          rw [← hv, sws_step b i (by omega), hv] at h
          exact h)
        have HF1 := Lib.hid (HF.out.drew.setCell ⟨B, i, none⟩ (.int .u32 (z3.toNat : Int)) (.inl rfl))
        have bby0 := y0.toNat_lt
        have bby1 := y1.toNat_lt
        have bby2 := y2.toNat_lt
        have bbz1 := z1.toNat_lt
        have bbz2 := z2.toNat_lt
        have bbz3 := z3.toNat_lt
        clear hy0 hy1 hy2 hz1 hz2 hz3 hx0 hx1 hx2 hx3 hi4 hn0 hn1 hn2 hn3 hv ha h16
        go_wp2
        refine wp_region_still_tail 43 (by kernel_rfl) (by kernel_rfl) ?_
        simp only [List.take_succ_cons, List.take_zero, List.drop_succ_cons, List.drop_zero]
        change wpStill _ _ wr.drew (fun a' => wpList _ _ _ _ a' wr.drew) _ _
        repeat still_step
        refine wpStill_nil ?_
        go_wp2
        go_roundw
        case rel => exact ⟨i + 1, by omega, by go_num, HB1.out, HF1.out⟩
        case measure => simp [intOf]; omega
      · have hd16 : decide ((i : Int) < 16) = false := decide_eq_false (by omega)
        have hdi : ¬ (i : Int) < 16 := by omega
        obtain ⟨m15, hm15⟩ : ∃ n, n = i - 15 := ⟨_, rfl⟩
        obtain ⟨x15, hx15⟩ : ∃ x, x = (sws b i).getD (i - 15) 0 := ⟨_, rfl⟩
        have hw15 : IntKind.i64.wrap ((i : Int) - 15) = (m15 : Int) := by rw [IntWalk.i64_in _ (by omega)]; omega
        have l15 : (m15 : Int) < 64 := by omega
        have c15 : wr.drew.cell? ⟨B, m15, none⟩ = some (.int .u32 (x15.toNat : Int)) := wcells_cell (w := wr.drew) HB.out m15 _ (by rw [hx15, hm15]; exact sws_old b i _ (by omega) (by omega))
        obtain ⟨m2, hm2⟩ : ∃ n, n = i - 2 := ⟨_, rfl⟩
        obtain ⟨x2, hx2⟩ : ∃ x, x = (sws b i).getD (i - 2) 0 := ⟨_, rfl⟩
        have hw2 : IntKind.i64.wrap ((i : Int) - 2) = (m2 : Int) := by rw [IntWalk.i64_in _ (by omega)]; omega
        have l2 : (m2 : Int) < 64 := by omega
        have c2 : wr.drew.cell? ⟨B, m2, none⟩ = some (.int .u32 (x2.toNat : Int)) := wcells_cell (w := wr.drew) HB.out m2 _ (by rw [hx2, hm2]; exact sws_old b i _ (by omega) (by omega))
        obtain ⟨m16, hm16⟩ : ∃ n, n = i - 16 := ⟨_, rfl⟩
        obtain ⟨x16, hx16⟩ : ∃ x, x = (sws b i).getD (i - 16) 0 := ⟨_, rfl⟩
        have hw16 : IntKind.i64.wrap ((i : Int) - 16) = (m16 : Int) := by rw [IntWalk.i64_in _ (by omega)]; omega
        have l16 : (m16 : Int) < 64 := by omega
        have c16 : wr.drew.cell? ⟨B, m16, none⟩ = some (.int .u32 (x16.toNat : Int)) := wcells_cell (w := wr.drew) HB.out m16 _ (by rw [hx16, hm16]; exact sws_old b i _ (by omega) (by omega))
        obtain ⟨m7, hm7⟩ : ∃ n, n = i - 7 := ⟨_, rfl⟩
        obtain ⟨x7, hx7⟩ : ∃ x, x = (sws b i).getD (i - 7) 0 := ⟨_, rfl⟩
        have hw7 : IntKind.i64.wrap ((i : Int) - 7) = (m7 : Int) := by rw [IntWalk.i64_in _ (by omega)]; omega
        have l7 : (m7 : Int) < 64 := by omega
        have c7 : wr.drew.cell? ⟨B, m7, none⟩ = some (.int .u32 (x7.toNat : Int)) := wcells_cell (w := wr.drew) HB.out m7 _ (by rw [hx7, hm7]; exact sws_old b i _ (by omega) (by omega))
        obtain ⟨s3, hs3⟩ : ∃ z, z = x15 >>> 3 := ⟨_, rfl⟩
        obtain ⟨s10, hs10⟩ : ∃ z, z = x2 >>> 10 := ⟨_, rfl⟩
        have es3 : (x15.toNat : Int) / 8 = (s3.toNat : Int) := by rw [hs3]; exact shr_u32 x15 3 3 rfl (by omega)
        have es10 : (x2.toNat : Int) / 1024 = (s10.toNat : Int) := by rw [hs10]; exact shr_u32 x2 10 10 rfl (by omega)
        obtain ⟨r17, hr17⟩ : ∃ z, z = rr x2 17 := ⟨_, rfl⟩
        have HR17 := Lib.hid (show ∀ w, Calls Try.prog 82 #[.int .u32 (x2.toNat : Int), .int .u64 17] w fun e w' => e = .returned (.int .u32 (r17.toNat : Int)) ∧ w' = w from fun w => by rw [hr17]; exact turn17_calls x2 w)
        obtain ⟨r19, hr19⟩ : ∃ z, z = rr x2 19 := ⟨_, rfl⟩
        have HR19 := Lib.hid (show ∀ w, Calls Try.prog 82 #[.int .u32 (x2.toNat : Int), .int .u64 19] w fun e w' => e = .returned (.int .u32 (r19.toNat : Int)) ∧ w' = w from fun w => by rw [hr19]; exact turn19_calls x2 w)
        obtain ⟨r7, hr7⟩ : ∃ z, z = rr x15 7 := ⟨_, rfl⟩
        have HR7 := Lib.hid (show ∀ w, Calls Try.prog 82 #[.int .u32 (x15.toNat : Int), .int .u64 7] w fun e w' => e = .returned (.int .u32 (r7.toNat : Int)) ∧ w' = w from fun w => by rw [hr7]; exact turn7_calls x15 w)
        obtain ⟨r18, hr18⟩ : ∃ z, z = rr x15 18 := ⟨_, rfl⟩
        have HR18 := Lib.hid (show ∀ w, Calls Try.prog 82 #[.int .u32 (x15.toNat : Int), .int .u64 18] w fun e w' => e = .returned (.int .u32 (r18.toNat : Int)) ∧ w' = w from fun w => by rw [hr18]; exact turn18_calls x15 w)
        obtain ⟨q1, hq1⟩ : ∃ z, z = r17 ^^^ r19 := ⟨_, rfl⟩
        have eq1 : bits .xor .u32 (r17.toNat : Int) (r19.toNat : Int) = (q1.toNat : Int) := by rw [hq1]; exact xor_u32 _ _
        obtain ⟨q2, hq2⟩ : ∃ z, z = q1 ^^^ s10 := ⟨_, rfl⟩
        have eq2 : bits .xor .u32 (q1.toNat : Int) (s10.toNat : Int) = (q2.toNat : Int) := by rw [hq2]; exact xor_u32 _ _
        obtain ⟨t1, ht1⟩ : ∃ z, z = q2 + x7 := ⟨_, rfl⟩
        have et1 : IntKind.u32.wrap ((q2.toNat : Int) + (x7.toNat : Int)) = (t1.toNat : Int) := by rw [ht1]; exact addw_u32 _ _
        have ft1 : ((q2.toNat : Int) + (x7.toNat : Int)) % 4294967296 = (t1.toNat : Int) := by rw [ht1]; exact add_u32 _ _
        obtain ⟨p1, hp1⟩ : ∃ z, z = r7 ^^^ r18 := ⟨_, rfl⟩
        have ep1 : bits .xor .u32 (r7.toNat : Int) (r18.toNat : Int) = (p1.toNat : Int) := by rw [hp1]; exact xor_u32 _ _
        obtain ⟨p2, hp2⟩ : ∃ z, z = p1 ^^^ s3 := ⟨_, rfl⟩
        have ep2 : bits .xor .u32 (p1.toNat : Int) (s3.toNat : Int) = (p2.toNat : Int) := by rw [hp2]; exact xor_u32 _ _
        obtain ⟨t2, ht2⟩ : ∃ z, z = t1 + p2 := ⟨_, rfl⟩
        have et2 : IntKind.u32.wrap ((t1.toNat : Int) + (p2.toNat : Int)) = (t2.toNat : Int) := by rw [ht2]; exact addw_u32 _ _
        have ft2 : ((t1.toNat : Int) + (p2.toNat : Int)) % 4294967296 = (t2.toNat : Int) := by rw [ht2]; exact add_u32 _ _
        obtain ⟨z3, hz3⟩ : ∃ z, z = t2 + x16 := ⟨_, rfl⟩
        have ez3 : IntKind.u32.wrap ((t2.toNat : Int) + (x16.toNat : Int)) = (z3.toNat : Int) := by rw [hz3]; exact addw_u32 _ _
        have fz3 : ((t2.toNat : Int) + (x16.toNat : Int)) % 4294967296 = (z3.toNat : Int) := by rw [hz3]; exact add_u32 _ _
        have hv : nextW b (sws b i) i = z3 := by
          rw [nextW_hi b _ i h16]
          unfold sg0 sg1
          rw [← hx16, ← hx15, ← hx7, ← hx2, hz3, ht2, ht1, hq2, hq1, hp2, hp1, hr7, hr18, hr17, hr19, hs3, hs10]
        have c9 : wr.drew.cell? ⟨B, i, none⟩ = some (.int .u32 (((sws b i ++ List.replicate (64 - i) 0).getD i 0).toNat : Int)) := wcells_cell (w := wr.drew) HB.out i _ (sws_at b i (by omega))
        have hz' : wr.drew.frozen? ⟨B, i, none⟩ = false := frozen_of_row wr _ _ _ _ HB.out
        have HB1 := Lib.hid (show (wr.drew.setCell ⟨B, i, none⟩ (.int .u32 (z3.toNat : Int))).heap[B]? = some (.cells (wcells (sws b (i + 1) ++ List.replicate (64 - (i + 1)) 0) ++ []).toArray 115 (0, 0)) by
          have h := wcells_set (w := wr.drew) HB.out i (by rw [sws_len b i (by omega)]; omega) z3
          rw [← hv, sws_step b i (by omega), hv] at h
          exact h)
        have HF1 := Lib.hid (HF.out.drew.setCell ⟨B, i, none⟩ (.int .u32 (z3.toNat : Int)) (.inl rfl))
        have bbs3 := s3.toNat_lt
        have bbs10 := s10.toNat_lt
        have bbr17 := r17.toNat_lt
        have bbr19 := r19.toNat_lt
        have bbr7 := r7.toNat_lt
        have bbr18 := r18.toNat_lt
        have bbq1 := q1.toNat_lt
        have bbq2 := q2.toNat_lt
        have bbt1 := t1.toNat_lt
        have bbp1 := p1.toNat_lt
        have bbp2 := p2.toNat_lt
        have bbt2 := t2.toNat_lt
        have bbz3 := z3.toNat_lt
        have bbx15 := x15.toNat_lt
        have bbx2 := x2.toNat_lt
        have bbx16 := x16.toNat_lt
        have bbx7 := x7.toNat_lt
        clear hs3 hs10 hr17 hr19 hr7 hr18 hq1 hq2 ht1 hp1 hp2 ht2 hz3 hx15 hx2 hx16 hx7 hm15 hm2 hm16 hm7 hv h16
        go_wp2
        refine wp_region_still_tail 47 (by kernel_rfl) (by kernel_rfl) ?_
        simp only [List.take_succ_cons, List.take_zero, List.drop_succ_cons, List.drop_zero]
        change wpStill _ _ wr.drew (fun a' => wpList _ _ _ _ a' wr.drew) _ _
        repeat still_step
        still_call (HR17.out _)
        repeat still_step
        still_call (HR19.out _)
        repeat still_step
        still_call (HR7.out _)
        repeat still_step
        still_call (HR18.out _)
        repeat still_step
        refine wpStill_nil ?_
        go_wp2
        go_roundw
        case rel => exact ⟨i + 1, by omega, by go_num, HB1.out, HF1.out⟩
        case measure => simp [intOf]; omega
    · have h64 : i = 64 := by omega
      subst h64
      have HBz := Lib.hid (show wr.heap[B]? = some (.cells (wcells (sws b 64) ++ []).toArray 115 (0, 0)) by have := HB.out; simpa using this)
      go_wp2
      exact HX.out _ _ _ _ _ _ _ _ _ _ _ _ _ _ _ _ _ _ _ _ _ _ _ _ _ _ _ _ _ _ _ _ _ _ _ _ _ _ _ _ _ _ _ _ _ _ _ _ _ _ _ _ _ _ _ _ _ _ _ _ _ _ _ _ _ _ _ _ _ _ _ _ _ _ _ _ _ _ _ _ _ _ _ _ _ _ _ _ _ _ _ _ _ _ _ _ _ HBz.out HF.out
end Go.Proofs.Ytcchhfkmhbjdmaa
/-! Jl5 -/
set_option linter.unusedVariables false
set_option linter.unusedSimpArgs false
set_option pp.deepTerms true
set_option pp.maxSteps 100000
namespace Go.Proofs.Ytcchhfkmhbjdmaa
open Go.RowKit
set_option maxRecDepth 100000 in
set_option maxHeartbeats 4000000 in
theorem ref_l5 (s0 s1 s2 s3 s4 s5 s7 s8 s10 s13 s14 s15 s16 s17 s18 s19 s20 s21 s22 s23 s24 s25 s26 s27 s28 s29 s30 s31 s32 s33 s34 s35 s36 s37 s38 s39 s40 s41 s42 s43 s44 s45 s46 s47 s48 s49 s50 s51 s52 s53 s54 s55 s56 s57 s58 s59 s60 s61 s62 s63 s64 s65 s66 s67 s68 s69 s70 s71 s72 s73 s74 s75 s76 s77 s78 s79 s80 s81 s82 s83 s84 s85 s86 s87 s88 s89 s90 s91 s92 s93 s94 s95 s96 s97 s98 s99 s100 s101 s102 s103 s104 s105 s106 s107 s108 s109 s110 s111 s112 s113 s114 s115 s116 s117 s118 s119 s120 s121 s122 s123 s124 s125 s126 s127 s128 s129 s130 s131 s132 s133 s134 s135 s136 s137 s138 s139 s140 s141 s142 s143 s144 s145 s146 s147 s148 s149 s150 s151 s152 s153 s154 s155 s156 s157 s158 s159 s160 s161 s162 s163 s164 s165 s166 s167 s168 s169 s170 s171 s172 s173 s174 s175 s176 s177 s178 s179 s180 s181 s182 s183 s184 s185 s186 s187 s188 s189 s190 s191 s192 s193 s194 s195 s196 s197 s198 s199 s200 s201 s202 s203 s204 s205 s206 s207 s208 s209 s210 s211 s212 s213 s214 s215 s216 s217 s218 s219 s220 s221 s222 s223 s224 s225 s226 s227 s228 s229 s230 s231 s232 s233 s234 s235 s236 s237 s238 s239 s240 s241 s242 s243 s244 s245 s246 s247 s248 s249 s250 s251 s252 s253 s254 s255 s256 s257 s258 s259 s260 s261 s262 s263 s264 s265 s266 s267 s268 s269 s270 s271 s272 s273 s274 s275 s276 s277 s278 s279 : Value) (KB B V : Nat) (ws : List UInt32) (hws : ws.length = 64) (q0 : R8) (w : World) (hK : w.heap[KB]? = some (.cells (wcells kT ++ []).toArray 115 (0, 0))) (hB : w.heap[B]? = some (.cells (wcells ws ++ []).toArray 115 (0, 0)))
    (hKV : KB ≠ V) (hBV : B ≠ V) (hV : w.heap[V]? = some (.cells #[.int .u32 ((q0.a).toNat : Int), .int .u32 ((q0.b).toNat : Int), .int .u32 ((q0.c).toNat : Int), .int .u32 ((q0.d).toNat : Int), .int .u32 ((q0.e).toNat : Int), .int .u32 ((q0.f).toNat : Int), .int .u32 ((q0.g).toNat : Int), .int .u32 ((q0.h).toNat : Int)] 107 (0, 0))) (Q0 : Exit → Act → World → Prop)
    (hexit : ∀ (u13 u14 u151 u152 u153 u154 u155 u156 u157 u158 u159 u160 u161 u162 u163 u164 u165 u166 u167 u168 u169 u170 u171 u172 u173 u174 u175 u176 u177 u178 u179 u180 u181 u182 u183 u184 u185 u186 u187 u188 u189 u190 u191 u192 u193 u194 u195 u196 u197 u198 u199 u200 u201 u202 u203 u204 u205 u206 u207 u208 u209 u210 u211 u212 u213 u214 u215 u216 u217 u218 u219 u220 u221 u222 u223 u224 u225 u226 u227 u228 u229 u230 u231 u232 u233 u234 u235 u236 u237 u238 : Value) (w' : World), w'.heap[V]? = some (.cells #[.int .u32 (((rounds ws q0 64).a).toNat : Int), .int .u32 (((rounds ws q0 64).b).toNat : Int), .int .u32 (((rounds ws q0 64).c).toNat : Int), .int .u32 (((rounds ws q0 64).d).toNat : Int), .int .u32 (((rounds ws q0 64).e).toNat : Int), .int .u32 (((rounds ws q0 64).f).toNat : Int), .int .u32 (((rounds ws q0 64).g).toNat : Int), .int .u32 (((rounds ws q0 64).h).toNat : Int)] 107 (0, 0)) → Fr (fun i => i = V) w w' → Q0 (.exit 8) ⟨(s0 :: s1 :: s2 :: s3 :: s4 :: s5 :: .pointer (some ⟨KB, 0, none⟩) :: s7 :: s8 :: .pointer (some ⟨B, 0, none⟩) :: s10 :: .pointer (some ⟨V, 0, none⟩) :: .int .i64 (64) :: u13 :: u14 :: s15 :: s16 :: s17 :: s18 :: s19 :: s20 :: s21 :: s22 :: s23 :: s24 :: s25 :: s26 :: s27 :: s28 :: s29 :: s30 :: s31 :: s32 :: s33 :: s34 :: s35 :: s36 :: s37 :: s38 :: s39 :: s40 :: s41 :: s42 :: s43 :: s44 :: s45 :: s46 :: s47 :: s48 :: s49 :: s50 :: s51 :: s52 :: s53 :: s54 :: s55 :: s56 :: s57 :: s58 :: s59 :: s60 :: s61 :: s62 :: s63 :: s64 :: s65 :: s66 :: s67 :: s68 :: s69 :: s70 :: s71 :: s72 :: s73 :: s74 :: s75 :: s76 :: s77 :: s78 :: s79 :: s80 :: s81 :: s82 :: s83 :: s84 :: s85 :: s86 :: s87 :: s88 :: s89 :: s90 :: s91 :: s92 :: s93 :: s94 :: s95 :: s96 :: s97 :: s98 :: s99 :: s100 :: s101 :: s102 :: s103 :: s104 :: s105 :: s106 :: s107 :: s108 :: s109 :: s110 :: s111 :: s112 :: s113 :: s114 :: s115 :: s116 :: s117 :: s118 :: s119 :: s120 :: s121 :: s122 :: s123 :: s124 :: s125 :: s126 :: s127 :: s128 :: s129 :: s130 :: s131 :: s132 :: s133 :: s134 :: s135 :: s136 :: s137 :: s138 :: s139 :: s140 :: s141 :: s142 :: s143 :: s144 :: s145 :: s146 :: s147 :: s148 :: s149 :: s150 :: u151 :: u152 :: u153 :: u154 :: u155 :: u156 :: u157 :: u158 :: u159 :: u160 :: u161 :: u162 :: u163 :: u164 :: u165 :: u166 :: u167 :: u168 :: u169 :: u170 :: u171 :: u172 :: u173 :: u174 :: u175 :: u176 :: u177 :: u178 :: u179 :: u180 :: u181 :: u182 :: u183 :: u184 :: u185 :: u186 :: u187 :: u188 :: u189 :: u190 :: u191 :: u192 :: u193 :: u194 :: u195 :: u196 :: u197 :: u198 :: u199 :: u200 :: u201 :: u202 :: u203 :: u204 :: u205 :: u206 :: u207 :: u208 :: u209 :: u210 :: u211 :: u212 :: u213 :: u214 :: u215 :: u216 :: u217 :: u218 :: u219 :: u220 :: u221 :: u222 :: u223 :: u224 :: u225 :: u226 :: u227 :: u228 :: u229 :: u230 :: u231 :: u232 :: u233 :: u234 :: u235 :: u236 :: u237 :: u238 :: s239 :: s240 :: s241 :: s242 :: s243 :: s244 :: s245 :: s246 :: s247 :: s248 :: s249 :: s250 :: s251 :: s252 :: s253 :: s254 :: s255 :: s256 :: s257 :: s258 :: s259 :: s260 :: s261 :: s262 :: s263 :: s264 :: s265 :: s266 :: s267 :: s268 :: s269 :: s270 :: s271 :: s272 :: s273 :: s274 :: s275 :: s276 :: s277 :: s278 :: s279 :: []).toArray, []⟩ w') :
    Code.wp Try.prog (Code.loop (ps2 1)) Q0 ⟨(s0 :: s1 :: s2 :: s3 :: s4 :: s5 :: .pointer (some ⟨KB, 0, none⟩) :: s7 :: s8 :: .pointer (some ⟨B, 0, none⟩) :: s10 :: .pointer (some ⟨V, 0, none⟩) :: .int .i64 (0) :: s13 :: s14 :: s15 :: s16 :: s17 :: s18 :: s19 :: s20 :: s21 :: s22 :: s23 :: s24 :: s25 :: s26 :: s27 :: s28 :: s29 :: s30 :: s31 :: s32 :: s33 :: s34 :: s35 :: s36 :: s37 :: s38 :: s39 :: s40 :: s41 :: s42 :: s43 :: s44 :: s45 :: s46 :: s47 :: s48 :: s49 :: s50 :: s51 :: s52 :: s53 :: s54 :: s55 :: s56 :: s57 :: s58 :: s59 :: s60 :: s61 :: s62 :: s63 :: s64 :: s65 :: s66 :: s67 :: s68 :: s69 :: s70 :: s71 :: s72 :: s73 :: s74 :: s75 :: s76 :: s77 :: s78 :: s79 :: s80 :: s81 :: s82 :: s83 :: s84 :: s85 :: s86 :: s87 :: s88 :: s89 :: s90 :: s91 :: s92 :: s93 :: s94 :: s95 :: s96 :: s97 :: s98 :: s99 :: s100 :: s101 :: s102 :: s103 :: s104 :: s105 :: s106 :: s107 :: s108 :: s109 :: s110 :: s111 :: s112 :: s113 :: s114 :: s115 :: s116 :: s117 :: s118 :: s119 :: s120 :: s121 :: s122 :: s123 :: s124 :: s125 :: s126 :: s127 :: s128 :: s129 :: s130 :: s131 :: s132 :: s133 :: s134 :: s135 :: s136 :: s137 :: s138 :: s139 :: s140 :: s141 :: s142 :: s143 :: s144 :: s145 :: s146 :: s147 :: s148 :: s149 :: s150 :: s151 :: s152 :: s153 :: s154 :: s155 :: s156 :: s157 :: s158 :: s159 :: s160 :: s161 :: s162 :: s163 :: s164 :: s165 :: s166 :: s167 :: s168 :: s169 :: s170 :: s171 :: s172 :: s173 :: s174 :: s175 :: s176 :: s177 :: s178 :: s179 :: s180 :: s181 :: s182 :: s183 :: s184 :: s185 :: s186 :: s187 :: s188 :: s189 :: s190 :: s191 :: s192 :: s193 :: s194 :: s195 :: s196 :: s197 :: s198 :: s199 :: s200 :: s201 :: s202 :: s203 :: s204 :: s205 :: s206 :: s207 :: s208 :: s209 :: s210 :: s211 :: s212 :: s213 :: s214 :: s215 :: s216 :: s217 :: s218 :: s219 :: s220 :: s221 :: s222 :: s223 :: s224 :: s225 :: s226 :: s227 :: s228 :: s229 :: s230 :: s231 :: s232 :: s233 :: s234 :: s235 :: s236 :: s237 :: s238 :: s239 :: s240 :: s241 :: s242 :: s243 :: s244 :: s245 :: s246 :: s247 :: s248 :: s249 :: s250 :: s251 :: s252 :: s253 :: s254 :: s255 :: s256 :: s257 :: s258 :: s259 :: s260 :: s261 :: s262 :: s263 :: s264 :: s265 :: s266 :: s267 :: s268 :: s269 :: s270 :: s271 :: s272 :: s273 :: s274 :: s275 :: s276 :: s277 :: s278 :: s279 :: []).toArray, []⟩ w := by
  have HV0 := Lib.hid hV
  have HX := Lib.hid hexit
  have HK := Lib.hid hK
  have HB := Lib.hid hB
  have HWS := Lib.hid hws
  clear hV hexit hK hB hws
  conv => arg 2; arg 1; whnf
  go_loopw [12] (fun v wr => ∃ (n : Nat) (a b1 c d e f g k8 : UInt32), n ≤ 64 ∧ v = .int .i64 n ∧ rounds ws q0 n = ⟨a, b1, c, d, e, f, g, k8⟩ ∧ wr.heap[V]? = some (.cells #[.int .u32 ((a).toNat : Int), .int .u32 ((b1).toNat : Int), .int .u32 ((c).toNat : Int), .int .u32 ((d).toNat : Int), .int .u32 ((e).toNat : Int), .int .u32 ((f).toNat : Int), .int .u32 ((g).toNat : Int), .int .u32 ((k8).toNat : Int)] 107 (0, 0)) ∧ Fr (fun i => i = V) w wr) (fun v _ => 64 - (intOf v).toNat)
  case atStart => exact ⟨0, q0.a, q0.b, q0.c, q0.d, q0.e, q0.f, q0.g, q0.h, Nat.zero_le _, rfl, rfl, HV0.out, Fr.refl _ _⟩
  case round =>
    obtain ⟨n, a, b1, c, d, e, f, g, k8, hn, rfl, hr, hVl, hf⟩ := hrel
    have HR0 := Lib.hid hr
    have HVr := Lib.hid hVl
    have HF := Lib.hid hf
    clear hr hf hVl HV0
    by_cases hlt : n < 64
    · have hx64 : (n : Int) < 64 := by omega
      obtain ⟨xw, hxw⟩ : ∃ z, z = ws.getD n 0 := ⟨_, rfl⟩
      obtain ⟨kk, hkk⟩ : ∃ z, z = kT.getD n 0 := ⟨_, rfl⟩
      have ck : wr.drew.cell? ⟨KB, n, none⟩ = some (.int .u32 (kk.toNat : Int)) := wcells_cell (HF.out.heap HK.out hKV) n _ (by rw [hkk]; exact get_some32 (by rfl) n hlt)
      have cw : wr.drew.cell? ⟨B, n, none⟩ = some (.int .u32 (xw.toNat : Int)) := wcells_cell (HF.out.heap HB.out hBV) n _ (by rw [hxw]; exact get_some32 HWS.out n hlt)
      have cv0 : wr.drew.cell? ⟨V, 0, none⟩ = some (.int .u32 (a.toNat : Int)) := (cell_of_row wr.drew V 0 _ _ _ HVr.out).trans rfl
      have dv0 : wr.drew.drew.cell? ⟨V, 0, none⟩ = some (.int .u32 (a.toNat : Int)) := cv0
      have cv1 : wr.drew.cell? ⟨V, 1, none⟩ = some (.int .u32 (b1.toNat : Int)) := (cell_of_row wr.drew V 1 _ _ _ HVr.out).trans rfl
      have dv1 : wr.drew.drew.cell? ⟨V, 1, none⟩ = some (.int .u32 (b1.toNat : Int)) := cv1
      have cv2 : wr.drew.cell? ⟨V, 2, none⟩ = some (.int .u32 (c.toNat : Int)) := (cell_of_row wr.drew V 2 _ _ _ HVr.out).trans rfl
      have dv2 : wr.drew.drew.cell? ⟨V, 2, none⟩ = some (.int .u32 (c.toNat : Int)) := cv2
      have cv3 : wr.drew.cell? ⟨V, 3, none⟩ = some (.int .u32 (d.toNat : Int)) := (cell_of_row wr.drew V 3 _ _ _ HVr.out).trans rfl
      have dv3 : wr.drew.drew.cell? ⟨V, 3, none⟩ = some (.int .u32 (d.toNat : Int)) := cv3
      have cv4 : wr.drew.cell? ⟨V, 4, none⟩ = some (.int .u32 (e.toNat : Int)) := (cell_of_row wr.drew V 4 _ _ _ HVr.out).trans rfl
      have dv4 : wr.drew.drew.cell? ⟨V, 4, none⟩ = some (.int .u32 (e.toNat : Int)) := cv4
      have cv5 : wr.drew.cell? ⟨V, 5, none⟩ = some (.int .u32 (f.toNat : Int)) := (cell_of_row wr.drew V 5 _ _ _ HVr.out).trans rfl
      have dv5 : wr.drew.drew.cell? ⟨V, 5, none⟩ = some (.int .u32 (f.toNat : Int)) := cv5
      have cv6 : wr.drew.cell? ⟨V, 6, none⟩ = some (.int .u32 (g.toNat : Int)) := (cell_of_row wr.drew V 6 _ _ _ HVr.out).trans rfl
      have dv6 : wr.drew.drew.cell? ⟨V, 6, none⟩ = some (.int .u32 (g.toNat : Int)) := cv6
      have cv7 : wr.drew.cell? ⟨V, 7, none⟩ = some (.int .u32 (k8.toNat : Int)) := (cell_of_row wr.drew V 7 _ _ _ HVr.out).trans rfl
      have dv7 : wr.drew.drew.cell? ⟨V, 7, none⟩ = some (.int .u32 (k8.toNat : Int)) := cv7
      obtain ⟨r6, hr6⟩ : ∃ z, z = rr e 6 := ⟨_, rfl⟩
      have HR6 := Lib.hid (show ∀ w, Calls Try.prog 82 #[.int .u32 (e.toNat : Int), .int .u64 6] w fun e w' => e = .returned (.int .u32 (r6.toNat : Int)) ∧ w' = w from fun w => by rw [hr6]; exact turn6_calls e w)
      obtain ⟨r11, hr11⟩ : ∃ z, z = rr e 11 := ⟨_, rfl⟩
      have HR11 := Lib.hid (show ∀ w, Calls Try.prog 82 #[.int .u32 (e.toNat : Int), .int .u64 11] w fun e w' => e = .returned (.int .u32 (r11.toNat : Int)) ∧ w' = w from fun w => by rw [hr11]; exact turn11_calls e w)
      obtain ⟨r25, hr25⟩ : ∃ z, z = rr e 25 := ⟨_, rfl⟩
      have HR25 := Lib.hid (show ∀ w, Calls Try.prog 82 #[.int .u32 (e.toNat : Int), .int .u64 25] w fun e w' => e = .returned (.int .u32 (r25.toNat : Int)) ∧ w' = w from fun w => by rw [hr25]; exact turn25_calls e w)
      obtain ⟨p1, hp1⟩ : ∃ z, z = r6 ^^^ r11 := ⟨_, rfl⟩
      have ep1 : bits .xor .u32 (r6.toNat : Int) (r11.toNat : Int) = (p1.toNat : Int) := by rw [hp1]; exact xor_u32 _ _
      obtain ⟨p2, hp2⟩ : ∃ z, z = p1 ^^^ r25 := ⟨_, rfl⟩
      have ep2 : bits .xor .u32 (p1.toNat : Int) (r25.toNat : Int) = (p2.toNat : Int) := by rw [hp2]; exact xor_u32 _ _
      obtain ⟨t1, ht1⟩ : ∃ z, z = k8 + p2 := ⟨_, rfl⟩
      have et1 : IntKind.u32.wrap ((k8.toNat : Int) + (p2.toNat : Int)) = (t1.toNat : Int) := by rw [ht1]; exact addw_u32 _ _
      have ft1 : ((k8.toNat : Int) + (p2.toNat : Int)) % 4294967296 = (t1.toNat : Int) := by rw [ht1]; exact add_u32 _ _
      obtain ⟨q1, hq1⟩ : ∃ z, z = e &&& f := ⟨_, rfl⟩
      have eq1 : bits .and .u32 (e.toNat : Int) (f.toNat : Int) = (q1.toNat : Int) := by rw [hq1]; exact and_u32 _ _
      obtain ⟨ne, hne⟩ : ∃ z, z = ~~~e := ⟨_, rfl⟩
      have ene : bits .xor .u32 4294967295 (e.toNat : Int) = (ne.toNat : Int) := by rw [hne, ← not_eq]; exact xor_u32 4294967295 e
      have fne : bits .xor .u32 IntKind.u32.max (e.toNat : Int) = (ne.toNat : Int) := ene
      obtain ⟨q2, hq2⟩ : ∃ z, z = ne &&& g := ⟨_, rfl⟩
      have eq2 : bits .and .u32 (ne.toNat : Int) (g.toNat : Int) = (q2.toNat : Int) := by rw [hq2]; exact and_u32 _ _
      obtain ⟨q3, hq3⟩ : ∃ z, z = q1 ^^^ q2 := ⟨_, rfl⟩
      have eq3 : bits .xor .u32 (q1.toNat : Int) (q2.toNat : Int) = (q3.toNat : Int) := by rw [hq3]; exact xor_u32 _ _
      obtain ⟨t2, ht2⟩ : ∃ z, z = t1 + q3 := ⟨_, rfl⟩
      have et2 : IntKind.u32.wrap ((t1.toNat : Int) + (q3.toNat : Int)) = (t2.toNat : Int) := by rw [ht2]; exact addw_u32 _ _
      have ft2 : ((t1.toNat : Int) + (q3.toNat : Int)) % 4294967296 = (t2.toNat : Int) := by rw [ht2]; exact add_u32 _ _
      obtain ⟨t3, ht3⟩ : ∃ z, z = t2 + kk := ⟨_, rfl⟩
      have et3 : IntKind.u32.wrap ((t2.toNat : Int) + (kk.toNat : Int)) = (t3.toNat : Int) := by rw [ht3]; exact addw_u32 _ _
      have ft3 : ((t2.toNat : Int) + (kk.toNat : Int)) % 4294967296 = (t3.toNat : Int) := by rw [ht3]; exact add_u32 _ _
      obtain ⟨X, hX⟩ : ∃ z, z = t3 + xw := ⟨_, rfl⟩
      have eX : IntKind.u32.wrap ((t3.toNat : Int) + (xw.toNat : Int)) = (X.toNat : Int) := by rw [hX]; exact addw_u32 _ _
      have fX : ((t3.toNat : Int) + (xw.toNat : Int)) % 4294967296 = (X.toNat : Int) := by rw [hX]; exact add_u32 _ _
      obtain ⟨r2, hr2⟩ : ∃ z, z = rr a 2 := ⟨_, rfl⟩
      have HR2 := Lib.hid (show ∀ w, Calls Try.prog 82 #[.int .u32 (a.toNat : Int), .int .u64 2] w fun e w' => e = .returned (.int .u32 (r2.toNat : Int)) ∧ w' = w from fun w => by rw [hr2]; exact turn2_calls a w)
      obtain ⟨r13, hr13⟩ : ∃ z, z = rr a 13 := ⟨_, rfl⟩
      have HR13 := Lib.hid (show ∀ w, Calls Try.prog 82 #[.int .u32 (a.toNat : Int), .int .u64 13] w fun e w' => e = .returned (.int .u32 (r13.toNat : Int)) ∧ w' = w from fun w => by rw [hr13]; exact turn13_calls a w)
      obtain ⟨r22, hr22⟩ : ∃ z, z = rr a 22 := ⟨_, rfl⟩
      have HR22 := Lib.hid (show ∀ w, Calls Try.prog 82 #[.int .u32 (a.toNat : Int), .int .u64 22] w fun e w' => e = .returned (.int .u32 (r22.toNat : Int)) ∧ w' = w from fun w => by rw [hr22]; exact turn22_calls a w)
      obtain ⟨o1, ho1⟩ : ∃ z, z = r2 ^^^ r13 := ⟨_, rfl⟩
      have eo1 : bits .xor .u32 (r2.toNat : Int) (r13.toNat : Int) = (o1.toNat : Int) := by rw [ho1]; exact xor_u32 _ _
      obtain ⟨o2, ho2⟩ : ∃ z, z = o1 ^^^ r22 := ⟨_, rfl⟩
      have eo2 : bits .xor .u32 (o1.toNat : Int) (r22.toNat : Int) = (o2.toNat : Int) := by rw [ho2]; exact xor_u32 _ _
      obtain ⟨j1, hj1⟩ : ∃ z, z = a &&& b1 := ⟨_, rfl⟩
      have ej1 : bits .and .u32 (a.toNat : Int) (b1.toNat : Int) = (j1.toNat : Int) := by rw [hj1]; exact and_u32 _ _
      obtain ⟨j2, hj2⟩ : ∃ z, z = a &&& c := ⟨_, rfl⟩
      have ej2 : bits .and .u32 (a.toNat : Int) (c.toNat : Int) = (j2.toNat : Int) := by rw [hj2]; exact and_u32 _ _
      obtain ⟨j3, hj3⟩ : ∃ z, z = j1 ^^^ j2 := ⟨_, rfl⟩
      have ej3 : bits .xor .u32 (j1.toNat : Int) (j2.toNat : Int) = (j3.toNat : Int) := by rw [hj3]; exact xor_u32 _ _
      obtain ⟨j4, hj4⟩ : ∃ z, z = b1 &&& c := ⟨_, rfl⟩
      have ej4 : bits .and .u32 (b1.toNat : Int) (c.toNat : Int) = (j4.toNat : Int) := by rw [hj4]; exact and_u32 _ _
      obtain ⟨j5, hj5⟩ : ∃ z, z = j3 ^^^ j4 := ⟨_, rfl⟩
      have ej5 : bits .xor .u32 (j3.toNat : Int) (j4.toNat : Int) = (j5.toNat : Int) := by rw [hj5]; exact xor_u32 _ _
      obtain ⟨Y, hY⟩ : ∃ z, z = o2 + j5 := ⟨_, rfl⟩
      have eY : IntKind.u32.wrap ((o2.toNat : Int) + (j5.toNat : Int)) = (Y.toNat : Int) := by rw [hY]; exact addw_u32 _ _
      have fY : ((o2.toNat : Int) + (j5.toNat : Int)) % 4294967296 = (Y.toNat : Int) := by rw [hY]; exact add_u32 _ _
      obtain ⟨Z, hZ⟩ : ∃ z, z = X + Y := ⟨_, rfl⟩
      have eZ : IntKind.u32.wrap ((X.toNat : Int) + (Y.toNat : Int)) = (Z.toNat : Int) := by rw [hZ]; exact addw_u32 _ _
      have fZ : ((X.toNat : Int) + (Y.toNat : Int)) % 4294967296 = (Z.toNat : Int) := by rw [hZ]; exact add_u32 _ _
      obtain ⟨D, hD⟩ : ∃ z, z = d + X := ⟨_, rfl⟩
      have eD : IntKind.u32.wrap ((d.toNat : Int) + (X.toNat : Int)) = (D.toNat : Int) := by rw [hD]; exact addw_u32 _ _
      have fD : ((d.toNat : Int) + (X.toNat : Int)) % 4294967296 = (D.toNat : Int) := by rw [hD]; exact add_u32 _ _
      have HN := Lib.hid (show rounds ws q0 (n + 1) = ⟨Z, a, b1, c, D, e, f, g⟩ by
        rw [rounds, HR0.out, ← hxw, ← hkk, rnd_ref]
        unfold bg0 bg1
        simp only [hZ, hD, hY, hX, ht3, ht2, ht1, hp2, hp1, hq3, hq2, hq1, hne, ho2, ho1, hj5, hj4, hj3, hj2, hj1, hr2, hr6, hr11, hr13, hr22, hr25])
      have HVd := Lib.hid (show wr.drew.drew.heap[V]? = some (.cells #[.int .u32 ((a).toNat : Int), .int .u32 ((b1).toNat : Int), .int .u32 ((c).toNat : Int), .int .u32 ((d).toNat : Int), .int .u32 ((e).toNat : Int), .int .u32 ((f).toNat : Int), .int .u32 ((g).toNat : Int), .int .u32 ((k8).toNat : Int)] 107 (0, 0)) from HVr.out)
      have HV1 := Lib.hid (show (wr.drew.drew.setRow V #[.int .u32 (Z.toNat : Int), .int .u32 (a.toNat : Int), .int .u32 (b1.toNat : Int), .int .u32 (c.toNat : Int), .int .u32 (D.toNat : Int), .int .u32 (e.toNat : Int), .int .u32 (f.toNat : Int), .int .u32 (g.toNat : Int)]).heap[V]? = some (.cells #[.int .u32 (Z.toNat : Int), .int .u32 (a.toNat : Int), .int .u32 (b1.toNat : Int), .int .u32 (c.toNat : Int), .int .u32 (D.toNat : Int), .int .u32 (e.toNat : Int), .int .u32 (f.toNat : Int), .int .u32 (g.toNat : Int)] 107 (0, 0)) from setRow_heap HVd.out)
      have HF1 := Lib.hid (HF.out.drew.drew.setRow V #[.int .u32 (Z.toNat : Int), .int .u32 (a.toNat : Int), .int .u32 (b1.toNat : Int), .int .u32 (c.toNat : Int), .int .u32 (D.toNat : Int), .int .u32 (e.toNat : Int), .int .u32 (f.toNat : Int), .int .u32 (g.toNat : Int)] (.inl rfl))
      have bbxw := xw.toNat_lt
      have bbkk := kk.toNat_lt
      have bbr6 := r6.toNat_lt
      have bbr11 := r11.toNat_lt
      have bbr25 := r25.toNat_lt
      have bbp1 := p1.toNat_lt
      have bbp2 := p2.toNat_lt
      have bbt1 := t1.toNat_lt
      have bbq1 := q1.toNat_lt
      have bbne := ne.toNat_lt
      have bbq2 := q2.toNat_lt
      have bbq3 := q3.toNat_lt
      have bbt2 := t2.toNat_lt
      have bbt3 := t3.toNat_lt
      have bbX := X.toNat_lt
      have bbr2 := r2.toNat_lt
      have bbr13 := r13.toNat_lt
      have bbr22 := r22.toNat_lt
      have bbo1 := o1.toNat_lt
      have bbo2 := o2.toNat_lt
      have bbj1 := j1.toNat_lt
      have bbj2 := j2.toNat_lt
      have bbj3 := j3.toNat_lt
      have bbj4 := j4.toNat_lt
      have bbj5 := j5.toNat_lt
      have bbY := Y.toNat_lt
      have bbZ := Z.toNat_lt
      have bbD := D.toNat_lt
      have bba := a.toNat_lt
      have bbb1 := b1.toNat_lt
      have bbc := c.toNat_lt
      have bbd := d.toNat_lt
      have bbe := e.toNat_lt
      have bbf := f.toNat_lt
      have bbg := g.toNat_lt
      have bbk8 := k8.toNat_lt
      clear hxw hkk hr6 hr11 hr25 hp1 hp2 ht1 hq1 hne hq2 hq3 ht2 ht3 hX hr2 hr13 hr22 ho1 ho2 hj1 hj2 hj3 hj4 hj5 hY hZ hD
      go_wp2
      refine wp_region_still_tail 35 (by kernel_rfl) (by kernel_rfl) ?_
      simp only [List.take_succ_cons, List.take_zero, List.drop_succ_cons, List.drop_zero]
      change wpStill _ _ wr.drew (fun a' => wpList _ _ _ _ a' wr.drew) _ _
      repeat still_step
      still_call (HR6.out _)
      repeat still_step
      still_call (HR11.out _)
      repeat still_step
      still_call (HR25.out _)
      repeat still_step
      refine wpStill_nil ?_
      go_wp2
      refine wp_region_still_tail 29 (by kernel_rfl) (by kernel_rfl) ?_
      simp only [List.take_succ_cons, List.take_zero, List.drop_succ_cons, List.drop_zero]
      change wpStill _ _ wr.drew.drew (fun a' => wpList _ _ _ _ a' wr.drew.drew) _ _
      repeat still_step
      still_call (HR2.out _)
      repeat still_step
      still_call (HR13.out _)
      repeat still_step
      still_call (HR22.out _)
      repeat still_step
      refine wpStill_nil ?_
      go_wp2_with (with_reducible refine wpList_store_whole (op := ⟨none, .store 107 _ _, _, _, _, _⟩) rfl 107 _ _ rfl V 107 #[.int .u32 ((a).toNat : Int), .int .u32 ((b1).toNat : Int), .int .u32 ((c).toNat : Int), .int .u32 ((d).toNat : Int), .int .u32 ((e).toNat : Int), .int .u32 ((f).toNat : Int), .int .u32 ((g).toNat : Int), .int .u32 ((k8).toNat : Int)] #[.int .u32 (Z.toNat : Int), .int .u32 (a.toNat : Int), .int .u32 (b1.toNat : Int), .int .u32 (c.toNat : Int), .int .u32 (D.toNat : Int), .int .u32 (e.toNat : Int), .int .u32 (f.toNat : Int), .int .u32 (g.toNat : Int)] rfl rfl HVd.out rfl (by kernel_rfl) (by simp [Value.oneCell']) ?_)
      go_roundw
      case rel => exact ⟨n + 1, Z, a, b1, c, D, e, f, g, by omega, by go_num, HN.out, HV1.out, HF1.out⟩
      case measure => simp [intOf]; omega
    · have h64 : n = 64 := by omega
      subst h64
      have HX2 := HX.out
      rw [HR0.out] at HX2
      have HX3 := Lib.hid HX2
      clear HX2 HX
      go_wp2
      exact HX3.out _ _ _ _ _ _ _ _ _ _ _ _ _ _ _ _ _ _ _ _ _ _ _ _ _ _ _ _ _ _ _ _ _ _ _ _ _ _ _ _ _ _ _ _ _ _ _ _ _ _ _ _ _ _ _ _ _ _ _ _ _ _ _ _ _ _ _ _ _ _ _ _ _ _ _ _ _ _ _ _ _ _ _ _ _ _ _ _ _ _ _ HVr.out HF.out
end Go.Proofs.Ytcchhfkmhbjdmaa
/-! Jl6 -/
set_option linter.unusedVariables false
set_option linter.unusedSimpArgs false
set_option pp.deepTerms true
set_option pp.maxSteps 100000
namespace Go.Proofs.Ytcchhfkmhbjdmaa
open Go.RowKit
set_option maxRecDepth 100000 in
set_option maxHeartbeats 4000000 in
theorem ref_l6 (s0 s1 s2 s3 s4 s5 s6 s8 s9 s10 s12 s13 s14 s16 s17 s18 s19 s20 s21 s22 s23 s24 s25 s26 s27 s28 s29 s30 s31 s32 s33 s34 s35 s36 s37 s38 s39 s40 s41 s42 s43 s44 s45 s46 s47 s48 s49 s50 s51 s52 s53 s54 s55 s56 s57 s58 s59 s60 s61 s62 s63 s64 s65 s66 s67 s68 s69 s70 s71 s72 s73 s74 s75 s76 s77 s78 s79 s80 s81 s82 s83 s84 s85 s86 s87 s88 s89 s90 s91 s92 s93 s94 s95 s96 s97 s98 s99 s100 s101 s102 s103 s104 s105 s106 s107 s108 s109 s110 s111 s112 s113 s114 s115 s116 s117 s118 s119 s120 s121 s122 s123 s124 s125 s126 s127 s128 s129 s130 s131 s132 s133 s134 s135 s136 s137 s138 s139 s140 s141 s142 s143 s144 s145 s146 s147 s148 s149 s150 s151 s152 s153 s154 s155 s156 s157 s158 s159 s160 s161 s162 s163 s164 s165 s166 s167 s168 s169 s170 s171 s172 s173 s174 s175 s176 s177 s178 s179 s180 s181 s182 s183 s184 s185 s186 s187 s188 s189 s190 s191 s192 s193 s194 s195 s196 s197 s198 s199 s200 s201 s202 s203 s204 s205 s206 s207 s208 s209 s210 s211 s212 s213 s214 s215 s216 s217 s218 s219 s220 s221 s222 s223 s224 s225 s226 s227 s228 s229 s230 s231 s232 s233 s234 s235 s236 s237 s238 s239 s240 s241 s242 s243 s244 s245 s246 s247 s248 s249 s250 s251 s252 s253 s254 s255 s256 s257 s258 s259 s260 s261 s262 s263 s264 s265 s266 s267 s268 s269 s270 s271 s272 s273 s274 s275 s276 s277 s278 s279 : Value) (H V : Nat) (hl rl : List UInt32) (hh : hl.length = 8) (hrl : rl.length = 8) (w : World) (hVH : V ≠ H) (hV : w.heap[V]? = some (.cells (wcells rl ++ []).toArray 107 (0, 0))) (hH : w.heap[H]? = some (.cells (wcells hl ++ []).toArray 107 (0, 0))) (Q0 : Exit → Act → World → Prop)
    (hexit : ∀ (u239 u240 u241 u242 u243 u244 u245 u246 u247 u248 u249 u250 u251 : Value) (w' : World), w'.heap[H]? = some (.cells (wcells ((List.range 8).map fun i => hl.getD i 0 + rl.getD i 0) ++ []).toArray 107 (0, 0)) → Fr (fun i => i = H) w w' → Q0 (.exit 10) ⟨(s0 :: s1 :: s2 :: s3 :: s4 :: s5 :: s6 :: .pointer (some ⟨H, 0, none⟩) :: s8 :: s9 :: s10 :: .pointer (some ⟨V, 0, none⟩) :: s12 :: s13 :: s14 :: .int .i64 (8) :: s16 :: s17 :: s18 :: s19 :: s20 :: s21 :: s22 :: s23 :: s24 :: s25 :: s26 :: s27 :: s28 :: s29 :: s30 :: s31 :: s32 :: s33 :: s34 :: s35 :: s36 :: s37 :: s38 :: s39 :: s40 :: s41 :: s42 :: s43 :: s44 :: s45 :: s46 :: s47 :: s48 :: s49 :: s50 :: s51 :: s52 :: s53 :: s54 :: s55 :: s56 :: s57 :: s58 :: s59 :: s60 :: s61 :: s62 :: s63 :: s64 :: s65 :: s66 :: s67 :: s68 :: s69 :: s70 :: s71 :: s72 :: s73 :: s74 :: s75 :: s76 :: s77 :: s78 :: s79 :: s80 :: s81 :: s82 :: s83 :: s84 :: s85 :: s86 :: s87 :: s88 :: s89 :: s90 :: s91 :: s92 :: s93 :: s94 :: s95 :: s96 :: s97 :: s98 :: s99 :: s100 :: s101 :: s102 :: s103 :: s104 :: s105 :: s106 :: s107 :: s108 :: s109 :: s110 :: s111 :: s112 :: s113 :: s114 :: s115 :: s116 :: s117 :: s118 :: s119 :: s120 :: s121 :: s122 :: s123 :: s124 :: s125 :: s126 :: s127 :: s128 :: s129 :: s130 :: s131 :: s132 :: s133 :: s134 :: s135 :: s136 :: s137 :: s138 :: s139 :: s140 :: s141 :: s142 :: s143 :: s144 :: s145 :: s146 :: s147 :: s148 :: s149 :: s150 :: s151 :: s152 :: s153 :: s154 :: s155 :: s156 :: s157 :: s158 :: s159 :: s160 :: s161 :: s162 :: s163 :: s164 :: s165 :: s166 :: s167 :: s168 :: s169 :: s170 :: s171 :: s172 :: s173 :: s174 :: s175 :: s176 :: s177 :: s178 :: s179 :: s180 :: s181 :: s182 :: s183 :: s184 :: s185 :: s186 :: s187 :: s188 :: s189 :: s190 :: s191 :: s192 :: s193 :: s194 :: s195 :: s196 :: s197 :: s198 :: s199 :: s200 :: s201 :: s202 :: s203 :: s204 :: s205 :: s206 :: s207 :: s208 :: s209 :: s210 :: s211 :: s212 :: s213 :: s214 :: s215 :: s216 :: s217 :: s218 :: s219 :: s220 :: s221 :: s222 :: s223 :: s224 :: s225 :: s226 :: s227 :: s228 :: s229 :: s230 :: s231 :: s232 :: s233 :: s234 :: s235 :: s236 :: s237 :: s238 :: u239 :: u240 :: u241 :: u242 :: u243 :: u244 :: u245 :: u246 :: u247 :: u248 :: u249 :: u250 :: u251 :: s252 :: s253 :: s254 :: s255 :: s256 :: s257 :: s258 :: s259 :: s260 :: s261 :: s262 :: s263 :: s264 :: s265 :: s266 :: s267 :: s268 :: s269 :: s270 :: s271 :: s272 :: s273 :: s274 :: s275 :: s276 :: s277 :: s278 :: s279 :: []).toArray, []⟩ w') :
    Code.wp Try.prog (Code.loop (ps2 2)) Q0 ⟨(s0 :: s1 :: s2 :: s3 :: s4 :: s5 :: s6 :: .pointer (some ⟨H, 0, none⟩) :: s8 :: s9 :: s10 :: .pointer (some ⟨V, 0, none⟩) :: s12 :: s13 :: s14 :: .int .i64 (0) :: s16 :: s17 :: s18 :: s19 :: s20 :: s21 :: s22 :: s23 :: s24 :: s25 :: s26 :: s27 :: s28 :: s29 :: s30 :: s31 :: s32 :: s33 :: s34 :: s35 :: s36 :: s37 :: s38 :: s39 :: s40 :: s41 :: s42 :: s43 :: s44 :: s45 :: s46 :: s47 :: s48 :: s49 :: s50 :: s51 :: s52 :: s53 :: s54 :: s55 :: s56 :: s57 :: s58 :: s59 :: s60 :: s61 :: s62 :: s63 :: s64 :: s65 :: s66 :: s67 :: s68 :: s69 :: s70 :: s71 :: s72 :: s73 :: s74 :: s75 :: s76 :: s77 :: s78 :: s79 :: s80 :: s81 :: s82 :: s83 :: s84 :: s85 :: s86 :: s87 :: s88 :: s89 :: s90 :: s91 :: s92 :: s93 :: s94 :: s95 :: s96 :: s97 :: s98 :: s99 :: s100 :: s101 :: s102 :: s103 :: s104 :: s105 :: s106 :: s107 :: s108 :: s109 :: s110 :: s111 :: s112 :: s113 :: s114 :: s115 :: s116 :: s117 :: s118 :: s119 :: s120 :: s121 :: s122 :: s123 :: s124 :: s125 :: s126 :: s127 :: s128 :: s129 :: s130 :: s131 :: s132 :: s133 :: s134 :: s135 :: s136 :: s137 :: s138 :: s139 :: s140 :: s141 :: s142 :: s143 :: s144 :: s145 :: s146 :: s147 :: s148 :: s149 :: s150 :: s151 :: s152 :: s153 :: s154 :: s155 :: s156 :: s157 :: s158 :: s159 :: s160 :: s161 :: s162 :: s163 :: s164 :: s165 :: s166 :: s167 :: s168 :: s169 :: s170 :: s171 :: s172 :: s173 :: s174 :: s175 :: s176 :: s177 :: s178 :: s179 :: s180 :: s181 :: s182 :: s183 :: s184 :: s185 :: s186 :: s187 :: s188 :: s189 :: s190 :: s191 :: s192 :: s193 :: s194 :: s195 :: s196 :: s197 :: s198 :: s199 :: s200 :: s201 :: s202 :: s203 :: s204 :: s205 :: s206 :: s207 :: s208 :: s209 :: s210 :: s211 :: s212 :: s213 :: s214 :: s215 :: s216 :: s217 :: s218 :: s219 :: s220 :: s221 :: s222 :: s223 :: s224 :: s225 :: s226 :: s227 :: s228 :: s229 :: s230 :: s231 :: s232 :: s233 :: s234 :: s235 :: s236 :: s237 :: s238 :: s239 :: s240 :: s241 :: s242 :: s243 :: s244 :: s245 :: s246 :: s247 :: s248 :: s249 :: s250 :: s251 :: s252 :: s253 :: s254 :: s255 :: s256 :: s257 :: s258 :: s259 :: s260 :: s261 :: s262 :: s263 :: s264 :: s265 :: s266 :: s267 :: s268 :: s269 :: s270 :: s271 :: s272 :: s273 :: s274 :: s275 :: s276 :: s277 :: s278 :: s279 :: []).toArray, []⟩ w := by
  have HH0 := Lib.hid hH
  have HX := Lib.hid hexit
  have HV := Lib.hid hV
  have HRL := Lib.hid hrl
  have HH := Lib.hid hh
  clear hH hexit hV hrl hh
  conv => arg 2; arg 1; whnf
  go_loopw [15] (fun v wr => ∃ i : Nat, i ≤ 8 ∧ v = .int .i64 i ∧ wr.heap[H]? = some (.cells (wcells (up32 hl rl i) ++ []).toArray 107 (0, 0)) ∧ Fr (fun i => i = H) w wr) (fun v _ => 8 - (intOf v).toNat)
  case atStart => exact ⟨0, Nat.zero_le _, rfl, by rw [up32_zero hl rl HH.out]; exact HH0.out, Fr.refl _ _⟩
  case round =>
    obtain ⟨i, hi, rfl, hB, hf⟩ := hrel
    have HB := Lib.hid hB
    have HF := Lib.hid hf
    clear hB hf HH0
    by_cases hlt : i < 8
    · have hx8 : (i : Int) < 8 := by omega
      obtain ⟨xr, hxr⟩ : ∃ z, z = rl.getD i 0 := ⟨_, rfl⟩
      obtain ⟨xh, hxh⟩ : ∃ z, z = hl.getD i 0 := ⟨_, rfl⟩
      have c1 : wr.drew.cell? ⟨H, i, none⟩ = some (.int .u32 (xh.toNat : Int)) := wcells_cell (w := wr.drew) HB.out i _ (by rw [up32_get _ _ _ _ hlt, if_neg (by omega), hxh])
      have c2 : wr.drew.cell? ⟨V, i, none⟩ = some (.int .u32 (xr.toNat : Int)) := wcells_cell (HF.out.heap HV.out hVH) i _ (by rw [hxr]; exact get_some32 HRL.out i hlt)
      have hz' : wr.drew.frozen? ⟨H, i, none⟩ = false := frozen_of_row wr _ _ _ _ HB.out
      obtain ⟨z, hz⟩ : ∃ z, z = xh + xr := ⟨_, rfl⟩
      have ez : IntKind.u32.wrap ((xh.toNat : Int) + (xr.toNat : Int)) = (z.toNat : Int) := by rw [hz]; exact addw_u32 _ _
      have fz : ((xh.toNat : Int) + (xr.toNat : Int)) % 4294967296 = (z.toNat : Int) := by rw [hz]; exact add_u32 _ _
      have HB1 := Lib.hid (show (wr.drew.setCell ⟨H, i, none⟩ (.int .u32 (z.toNat : Int))).heap[H]? = some (.cells (wcells (up32 hl rl (i + 1)) ++ []).toArray 107 (0, 0)) by
        have h := wcells_set (w := wr.drew) HB.out i (by rw [up32_length]; exact hlt) z
        rw [← up32_set hl rl i hlt, ← hxh, ← hxr, ← hz]
        exact h)
      have HF1 := Lib.hid (HF.out.drew.setCell ⟨H, i, none⟩ (.int .u32 (z.toNat : Int)) (.inl rfl))
      have bb1 := xr.toNat_lt
      have bb2 := xh.toNat_lt
      have bb3 := z.toNat_lt
      clear hxr hxh hz
      go_wp2
      refine wp_region_still_tail 9 (by kernel_rfl) (by kernel_rfl) ?_
      simp only [List.take_succ_cons, List.take_zero, List.drop_succ_cons, List.drop_zero]
      change wpStill _ _ wr.drew (fun a' => wpList _ _ _ _ a' wr.drew) _ _
      repeat still_step
      refine wpStill_nil ?_
      go_wp2
      go_roundw
      case rel => exact ⟨i + 1, by omega, by go_num, HB1.out, HF1.out⟩
      case measure => simp [intOf]; omega
    · have h8 : i = 8 := by omega
      subst h8
      have HBz := Lib.hid (show wr.heap[H]? = some (.cells (wcells ((List.range 8).map fun i => hl.getD i 0 + rl.getD i 0) ++ []).toArray 107 (0, 0)) by rw [← up32_all]; exact HB.out)
      go_wp2
      exact HX.out _ _ _ _ _ _ _ _ _ _ _ _ _ _ HBz.out HF.out
end Go.Proofs.Ytcchhfkmhbjdmaa
/-! Jl3 -/
set_option linter.unusedVariables false
set_option linter.unusedSimpArgs false
set_option pp.deepTerms true
set_option pp.maxSteps 100000
namespace Go.Proofs.Ytcchhfkmhbjdmaa
open Go.RowKit
theorem blk_step (msg : List UInt8) (a : Nat) (h : List UInt32) (ha : a + 64 ≤ msg.length) : eatAll h (msg.drop a) = eatAll (comp h (blk msg a)) (msg.drop (a + 64)) := by
  rw [eatAll_step h (msg.drop a) (by rw [List.length_drop]; omega), List.drop_drop]
  rfl
set_option maxRecDepth 100000 in
set_option maxHeartbeats 4000000 in
theorem ref_l3 (s0 s1 s2 s4 s5 s9 s10 s11 s12 s13 s14 s15 s16 s17 s18 s19 s20 s21 s22 s23 s24 s25 s26 s27 s28 s29 s30 s31 s32 s33 s34 s35 s36 s37 s38 s39 s40 s41 s42 s43 s44 s45 s46 s47 s48 s49 s50 s51 s52 s53 s54 s55 s56 s57 s58 s59 s60 s61 s62 s63 s64 s65 s66 s67 s68 s69 s70 s71 s72 s73 s74 s75 s76 s77 s78 s79 s80 s81 s82 s83 s84 s85 s86 s87 s88 s89 s90 s91 s92 s93 s94 s95 s96 s97 s98 s99 s100 s101 s102 s103 s104 s105 s106 s107 s108 s109 s110 s111 s112 s113 s114 s115 s116 s117 s118 s119 s120 s121 s122 s123 s124 s125 s126 s127 s128 s129 s130 s131 s132 s133 s134 s135 s136 s137 s138 s139 s140 s141 s142 s143 s144 s145 s146 s147 s148 s149 s150 s151 s152 s153 s154 s155 s156 s157 s158 s159 s160 s161 s162 s163 s164 s165 s166 s167 s168 s169 s170 s171 s172 s173 s174 s175 s176 s177 s178 s179 s180 s181 s182 s183 s184 s185 s186 s187 s188 s189 s190 s191 s192 s193 s194 s195 s196 s197 s198 s199 s200 s201 s202 s203 s204 s205 s206 s207 s208 s209 s210 s211 s212 s213 s214 s215 s216 s217 s218 s219 s220 s221 s222 s223 s224 s225 s226 s227 s228 s229 s230 s231 s232 s233 s234 s235 s236 s237 s238 s239 s240 s241 s242 s243 s244 s245 s246 s247 s248 s249 s250 s251 s252 s253 s254 s255 s256 s257 s258 s259 s260 s261 s262 s263 s264 s265 s266 s267 s268 s269 s270 s271 s272 s273 s274 s275 s276 s277 s278 s279 : Value) (g L cap KB H : Nat) (msg : List UInt8) (hL : L = msg.length) (hLb : L ≤ 1000000) (hLm : L % 64 = 0) (w : World) (hm : ∀ k x, msg[k]? = some x → w.cell? ⟨g, k, none⟩ = some (.int .u8 (x.toNat : Int)))
    (hgl : g < w.heap.size) (hgH : g ≠ H) (hKH : KB ≠ H) (hK : w.heap[KB]? = some (.cells (wcells kT ++ []).toArray 115 (0, 0))) (hH : w.heap[H]? = some (.cells (wcells hT ++ []).toArray 107 (0, 0))) (Q0 : Exit → Act → World → Prop)
    (hexit : ∀ (u9 u10 u11 u12 u13 u14 u15 u48 u49 u50 u51 u52 u53 u54 u55 u56 u57 u58 u59 u60 u61 u62 u63 u64 u65 u66 u67 u68 u69 u70 u71 u72 u73 u74 u75 u76 u77 u78 u79 u80 u81 u82 u83 u84 u85 u86 u87 u88 u89 u90 u91 u92 u93 u94 u95 u96 u97 u98 u99 u100 u101 u102 u103 u104 u105 u106 u107 u108 u109 u110 u111 u112 u113 u114 u115 u116 u117 u118 u119 u120 u121 u122 u123 u124 u125 u126 u127 u128 u129 u130 u131 u132 u133 u134 u135 u136 u137 u138 u139 u140 u141 u142 u143 u144 u145 u146 u147 u148 u149 u150 u151 u152 u153 u154 u155 u156 u157 u158 u159 u160 u161 u162 u163 u164 u165 u166 u167 u168 u169 u170 u171 u172 u173 u174 u175 u176 u177 u178 u179 u180 u181 u182 u183 u184 u185 u186 u187 u188 u189 u190 u191 u192 u193 u194 u195 u196 u197 u198 u199 u200 u201 u202 u203 u204 u205 u206 u207 u208 u209 u210 u211 u212 u213 u214 u215 u216 u217 u218 u219 u220 u221 u222 u223 u224 u225 u226 u227 u228 u229 u230 u231 u232 u233 u234 u235 u236 u237 u238 u239 u240 u241 u242 u243 u244 u245 u246 u247 u248 u249 u250 u251 : Value) (w' : World), w'.heap[H]? = some (.cells (wcells (eatAll hT msg).1 ++ []).toArray 107 (0, 0)) → Fr (fun i => i = H) w w' → Q0 (.exit 4) ⟨(s0 :: s1 :: s2 :: .slice (some ⟨g, 0, none⟩) L cap :: s4 :: s5 :: .pointer (some ⟨KB, 0, none⟩) :: .pointer (some ⟨H, 0, none⟩) :: .int .i64 (L : Int) :: u9 :: u10 :: u11 :: u12 :: u13 :: u14 :: u15 :: s16 :: s17 :: s18 :: s19 :: s20 :: s21 :: s22 :: s23 :: s24 :: s25 :: s26 :: s27 :: s28 :: s29 :: s30 :: s31 :: s32 :: s33 :: s34 :: s35 :: s36 :: s37 :: s38 :: s39 :: s40 :: s41 :: s42 :: s43 :: s44 :: s45 :: s46 :: s47 :: u48 :: u49 :: u50 :: u51 :: u52 :: u53 :: u54 :: u55 :: u56 :: u57 :: u58 :: u59 :: u60 :: u61 :: u62 :: u63 :: u64 :: u65 :: u66 :: u67 :: u68 :: u69 :: u70 :: u71 :: u72 :: u73 :: u74 :: u75 :: u76 :: u77 :: u78 :: u79 :: u80 :: u81 :: u82 :: u83 :: u84 :: u85 :: u86 :: u87 :: u88 :: u89 :: u90 :: u91 :: u92 :: u93 :: u94 :: u95 :: u96 :: u97 :: u98 :: u99 :: u100 :: u101 :: u102 :: u103 :: u104 :: u105 :: u106 :: u107 :: u108 :: u109 :: u110 :: u111 :: u112 :: u113 :: u114 :: u115 :: u116 :: u117 :: u118 :: u119 :: u120 :: u121 :: u122 :: u123 :: u124 :: u125 :: u126 :: u127 :: u128 :: u129 :: u130 :: u131 :: u132 :: u133 :: u134 :: u135 :: u136 :: u137 :: u138 :: u139 :: u140 :: u141 :: u142 :: u143 :: u144 :: u145 :: u146 :: u147 :: u148 :: u149 :: u150 :: u151 :: u152 :: u153 :: u154 :: u155 :: u156 :: u157 :: u158 :: u159 :: u160 :: u161 :: u162 :: u163 :: u164 :: u165 :: u166 :: u167 :: u168 :: u169 :: u170 :: u171 :: u172 :: u173 :: u174 :: u175 :: u176 :: u177 :: u178 :: u179 :: u180 :: u181 :: u182 :: u183 :: u184 :: u185 :: u186 :: u187 :: u188 :: u189 :: u190 :: u191 :: u192 :: u193 :: u194 :: u195 :: u196 :: u197 :: u198 :: u199 :: u200 :: u201 :: u202 :: u203 :: u204 :: u205 :: u206 :: u207 :: u208 :: u209 :: u210 :: u211 :: u212 :: u213 :: u214 :: u215 :: u216 :: u217 :: u218 :: u219 :: u220 :: u221 :: u222 :: u223 :: u224 :: u225 :: u226 :: u227 :: u228 :: u229 :: u230 :: u231 :: u232 :: u233 :: u234 :: u235 :: u236 :: u237 :: u238 :: u239 :: u240 :: u241 :: u242 :: u243 :: u244 :: u245 :: u246 :: u247 :: u248 :: u249 :: u250 :: u251 :: s252 :: s253 :: s254 :: s255 :: s256 :: s257 :: s258 :: s259 :: s260 :: s261 :: s262 :: s263 :: s264 :: s265 :: s266 :: s267 :: s268 :: s269 :: s270 :: s271 :: s272 :: s273 :: s274 :: s275 :: s276 :: s277 :: s278 :: s279 :: []).toArray, []⟩ w') :
    Code.wp Try.prog (Code.loop (ps 2)) Q0 ⟨(s0 :: s1 :: s2 :: .slice (some ⟨g, 0, none⟩) L cap :: s4 :: s5 :: .pointer (some ⟨KB, 0, none⟩) :: .pointer (some ⟨H, 0, none⟩) :: .int .i64 (0) :: s9 :: s10 :: s11 :: s12 :: s13 :: s14 :: s15 :: s16 :: s17 :: s18 :: s19 :: s20 :: s21 :: s22 :: s23 :: s24 :: s25 :: s26 :: s27 :: s28 :: s29 :: s30 :: s31 :: s32 :: s33 :: s34 :: s35 :: s36 :: s37 :: s38 :: s39 :: s40 :: s41 :: s42 :: s43 :: s44 :: s45 :: s46 :: s47 :: s48 :: s49 :: s50 :: s51 :: s52 :: s53 :: s54 :: s55 :: s56 :: s57 :: s58 :: s59 :: s60 :: s61 :: s62 :: s63 :: s64 :: s65 :: s66 :: s67 :: s68 :: s69 :: s70 :: s71 :: s72 :: s73 :: s74 :: s75 :: s76 :: s77 :: s78 :: s79 :: s80 :: s81 :: s82 :: s83 :: s84 :: s85 :: s86 :: s87 :: s88 :: s89 :: s90 :: s91 :: s92 :: s93 :: s94 :: s95 :: s96 :: s97 :: s98 :: s99 :: s100 :: s101 :: s102 :: s103 :: s104 :: s105 :: s106 :: s107 :: s108 :: s109 :: s110 :: s111 :: s112 :: s113 :: s114 :: s115 :: s116 :: s117 :: s118 :: s119 :: s120 :: s121 :: s122 :: s123 :: s124 :: s125 :: s126 :: s127 :: s128 :: s129 :: s130 :: s131 :: s132 :: s133 :: s134 :: s135 :: s136 :: s137 :: s138 :: s139 :: s140 :: s141 :: s142 :: s143 :: s144 :: s145 :: s146 :: s147 :: s148 :: s149 :: s150 :: s151 :: s152 :: s153 :: s154 :: s155 :: s156 :: s157 :: s158 :: s159 :: s160 :: s161 :: s162 :: s163 :: s164 :: s165 :: s166 :: s167 :: s168 :: s169 :: s170 :: s171 :: s172 :: s173 :: s174 :: s175 :: s176 :: s177 :: s178 :: s179 :: s180 :: s181 :: s182 :: s183 :: s184 :: s185 :: s186 :: s187 :: s188 :: s189 :: s190 :: s191 :: s192 :: s193 :: s194 :: s195 :: s196 :: s197 :: s198 :: s199 :: s200 :: s201 :: s202 :: s203 :: s204 :: s205 :: s206 :: s207 :: s208 :: s209 :: s210 :: s211 :: s212 :: s213 :: s214 :: s215 :: s216 :: s217 :: s218 :: s219 :: s220 :: s221 :: s222 :: s223 :: s224 :: s225 :: s226 :: s227 :: s228 :: s229 :: s230 :: s231 :: s232 :: s233 :: s234 :: s235 :: s236 :: s237 :: s238 :: s239 :: s240 :: s241 :: s242 :: s243 :: s244 :: s245 :: s246 :: s247 :: s248 :: s249 :: s250 :: s251 :: s252 :: s253 :: s254 :: s255 :: s256 :: s257 :: s258 :: s259 :: s260 :: s261 :: s262 :: s263 :: s264 :: s265 :: s266 :: s267 :: s268 :: s269 :: s270 :: s271 :: s272 :: s273 :: s274 :: s275 :: s276 :: s277 :: s278 :: s279 :: []).toArray, []⟩ w := by
  have HH0 := Lib.hid hH
  have HX := Lib.hid hexit
  have HM := Lib.hid hm
  have HK := Lib.hid hK
  have HL := Lib.hid hL
  have HLM := Lib.hid hLm
  have HNE := Lib.hid (show g < w.heap.size ∧ g ≠ H ∧ KB ≠ H ∧ KB < w.heap.size ∧ H < w.heap.size from ⟨hgl, hgH, hKH, lt_of_heap hK, lt_of_heap hH⟩)
  clear hH hexit hm hK hL hLm hgl hgH hKH
  conv => arg 2; arg 1; whnf
  go_loopw [8] (fun v wr => ∃ (a : Nat) (hl : List UInt32), v = .int .i64 a ∧ a ≤ L ∧ a % 64 = 0 ∧ hl.length = 8 ∧ wr.heap[H]? = some (.cells (wcells hl ++ []).toArray 107 (0, 0)) ∧ eatAll hl (msg.drop a) = eatAll hT msg ∧ Fr (fun i => i = H) w wr) (fun v _ => L - (intOf v).toNat)
  case atStart => exact ⟨0, hT, rfl, Nat.zero_le _, rfl, rfl, HH0.out, by rw [List.drop_zero], Fr.refl _ _⟩
  case round =>
    obtain ⟨a, hl, rfl, ha, ham, hh, hHl, he, hf⟩ := hrel
    have HHr := Lib.hid hHl
    have HE := Lib.hid he
    have HF := Lib.hid hf
    have HHL := Lib.hid hh
    have HAM := Lib.hid ham
    clear hHl he hf hh ham HH0
    by_cases hlt : a < L
    · have hdl : (a : Int) < (L : Int) := by omega
      have HA := Lib.hid (show a + 64 ≤ L by have := HAM.out; have := HLM.out; omega)
      have hB0 := heap_alloc_new wr (.cells (wcells (List.replicate 64 0)).toArray 115)
      have hf0 : Fr (fun _ => False) wr (wr.alloc (.cells (wcells (List.replicate 64 0)).toArray 115)) := (Fr.refl _ _).alloc _
      have HSW := Lib.hid HF.out.size
      go_wp2
      change Code.wp _ _ _ _ (wr.alloc (.cells (wcells (List.replicate 64 0)).toArray 115))
      obtain ⟨B, hB⟩ : ∃ B, B = wr.heap.size := ⟨_, rfl⟩
      rw [← hB] at hB0 ⊢
      generalize wr.alloc (.cells (wcells (List.replicate 64 0)).toArray 115) = w1 at hB0 hf0 ⊢
      have HB0 := Lib.hid (show w1.heap[B]? = some (.cells (wcells (List.replicate 64 0) ++ []).toArray 115 (0, 0)) by simpa using hB0)
      have HF1 := Lib.hid (HF.out.trans hf0 (fun i hi => hi.elim))
      have HH1 := Lib.hid (hf0.heap HHr.out id)
      have HBW := Lib.hid (show w.heap.size ≤ B ∧ B ≠ g ∧ B ≠ H ∧ B ≠ KB by have := HSW.out; have := HNE.out; omega)
      clear hB0 hf0 hB hdl
      refine ref_l4 _ _ _ _ _ _ _ _ _ _ _ _ _ _ _ _ _ _ _ _ _ _ _ _ _ _ _ _ _ _ _ _ _ _ _ _ _ _ _ _ _ _ _ _ _ _ _ _ _ _ _ _ _ _ _ _ _ _ _ _ _ _ _ _ _ _ _ _ _ _ _ _ _ _ _ _ _ _ _ _ _ _ _ _ _ _ _ _ _ _ _ _ _ _ _ _ _ _ _ _ _ _ _ _ _ _ _ _ _ _ _ _ _ _ _ _ _ _ _ _ _ _ _ _ _ _ _ _ _ _ _ _ _ _ _ _ _ _ _ _ _ _ _ _ _ _ _ _ _ _ _ _ _ _ _ _ _ _ _ _ _ _ _ _ _ _ _ _ _ _ _ _ _ _ _ _ _ _ _ _ _ _ _ _ _ _ _ _ _ _ _ _ _ _ _ _ _ _ _ _ _ _ _ _ _ _ _ _ _ _ _ _ _ _ _ _ _ _ _ _ _ _ _ _ _ _ _ _ _ _ _ _ _ _ _ _ _ _ _ _ _ _ _ _ _ _ _ _ _ _ _ _ _ _ _ _ _ _ _ _ _ _ _ _ _ _ _ _ _ _ _ _ _ _ _ _ g L cap a B msg HL.out hLb HA.out w1 (fun k x hk => HF1.out.cell (HM.out k x hk) HNE.out.2.1) (Ne.symm HBW.out.2.1) HB0.out _ ?_
      intro p54 p55 p56 p57 p58 p59 p60 p61 p62 p63 p64 p65 p66 p67 p68 p69 p70 p71 p72 p73 p74 p75 p76 p77 p78 p79 p80 p81 p82 p83 p84 p85 p86 p87 p88 p89 p90 p91 p92 p93 p94 p95 p96 p97 p98 p99 p100 p101 p102 p103 p104 p105 p106 p107 p108 p109 p110 p111 p112 p113 p114 p115 p116 p117 p118 p119 p120 p121 p122 p123 p124 p125 p126 p127 p128 p129 p130 p131 p132 p133 p134 p135 p136 p137 p138 p139 p140 p141 p142 p143 p144 p145 p146 p147 p148 p149 w2 hB2 hf2
      have HB2 := Lib.hid hB2
      have HF2 := Lib.hid (HF1.out.trans hf2 (fun i hi => .inr (by rw [hi]; exact HBW.out.1)))
      have HH2 := Lib.hid (hf2.heap HH1.out (Ne.symm HBW.out.2.2.1))
      clear hB2 hf2 HB0 HH1 HF1
      have HZ := Lib.hid (show (#[.int .u32 0, .int .u32 0, .int .u32 0, .int .u32 0, .int .u32 0, .int .u32 0, .int .u32 0, .int .u32 0] : Array Value).size = (wcells hl).toArray.size by rw [show (wcells hl).toArray.size = 8 by rw [List.size_toArray, wcells_length, HHL.out]]; rfl)
      have HI := Lib.hid (show (Try.prog.info? 107).map (·.size) = some (wcells hl).toArray.size by rw [List.size_toArray, wcells_length, HHL.out]; kernel_rfl)
      have H1 := Lib.hid (show ∀ v ∈ (wcells hl).toArray.toList, v.oneCell' = true by simpa using wcells_one hl)
      go_wp2_with (first
        | (with_reducible refine wpList_load_w (op := ⟨some 150, _, _, _, _, _⟩) rfl 107 _ rfl H rfl 107 hl _ 8 106 HH2.out Try.underlying107 HHL.out (by kernel_rfl) ?_)
        | (with_reducible refine wpList_store_fresh (op := ⟨none, .store 107 _ _, _, _, _, _⟩) rfl 107 _ _ rfl w2 #[.int .u32 0, .int .u32 0, .int .u32 0, .int .u32 0, .int .u32 0, .int .u32 0, .int .u32 0, .int .u32 0] (wcells hl).toArray rfl rfl rfl HZ.out HI.out H1.out ?_))
      have hV0 := heap_alloc_new w2 (.cells (wcells hl).toArray 107)
      have hf3 : Fr (fun _ => False) w2 (w2.alloc (.cells (wcells hl).toArray 107)) := (Fr.refl _ _).alloc _
      have HSV := Lib.hid HF2.out.size
      have HHs := Lib.hid (lt_of_heap HH2.out)
      have HBs := Lib.hid (lt_of_heap HB2.out)
      obtain ⟨V, hV⟩ : ∃ V, V = w2.heap.size := ⟨_, rfl⟩
      rw [← hV] at hV0 ⊢
      generalize w2.alloc (.cells (wcells hl).toArray 107) = w3 at hV0 hf3 ⊢
      have HV0 := Lib.hid (show w3.heap[V]? = some (.cells (wcells (R8.of hl).list).toArray 107 (0, 0)) by rw [r8_list hl HHL.out]; exact hV0)
      have HVW := Lib.hid (show w.heap.size ≤ V ∧ V ≠ H ∧ B ≠ V ∧ KB ≠ V by have := HSV.out; have := HNE.out; have := HHs.out; have := HBs.out; omega)
      have HF3 := Lib.hid (HF2.out.trans hf3 (fun i hi => hi.elim))
      have HB3 := Lib.hid (hf3.heap HB2.out id)
      have HH3 := Lib.hid (hf3.heap HH2.out id)
      clear hV0 hf3 hV HZ HI H1 HSV HHs HBs HB2 HH2 HF2
      refine ref_l5 _ _ _ _ _ _ _ _ _ _ _ _ _ _ _ _ _ _ _ _ _ _ _ _ _ _ _ _ _ _ _ _ _ _ _ _ _ _ _ _ _ _ _ _ _ _ _ _ _ _ _ _ _ _ _ _ _ _ _ _ _ _ _ _ _ _ _ _ _ _ _ _ _ _ _ _ _ _ _ _ _ _ _ _ _ _ _ _ _ _ _ _ _ _ _ _ _ _ _ _ _ _ _ _ _ _ _ _ _ _ _ _ _ _ _ _ _ _ _ _ _ _ _ _ _ _ _ _ _ _ _ _ _ _ _ _ _ _ _ _ _ _ _ _ _ _ _ _ _ _ _ _ _ _ _ _ _ _ _ _ _ _ _ _ _ _ _ _ _ _ _ _ _ _ _ _ _ _ _ _ _ _ _ _ _ _ _ _ _ _ _ _ _ _ _ _ _ _ _ _ _ _ _ _ _ _ _ _ _ _ _ _ _ _ _ _ _ _ _ _ _ _ _ _ _ _ _ _ _ _ _ _ _ _ _ _ _ _ _ _ _ _ _ _ _ _ _ _ _ _ _ _ _ _ _ _ _ _ _ _ _ _ _ _ _ _ _ _ _ _ _ _ _ _ _ _ KB B V (sws (blk msg a) 64) (sws_length _ _) (R8.of hl) w3 (HF3.out.heap HK.out HNE.out.2.2.1) HB3.out HVW.out.2.2.2 HVW.out.2.2.1 HV0.out _ ?_
      intro q13 q14 q151 q152 q153 q154 q155 q156 q157 q158 q159 q160 q161 q162 q163 q164 q165 q166 q167 q168 q169 q170 q171 q172 q173 q174 q175 q176 q177 q178 q179 q180 q181 q182 q183 q184 q185 q186 q187 q188 q189 q190 q191 q192 q193 q194 q195 q196 q197 q198 q199 q200 q201 q202 q203 q204 q205 q206 q207 q208 q209 q210 q211 q212 q213 q214 q215 q216 q217 q218 q219 q220 q221 q222 q223 q224 q225 q226 q227 q228 q229 q230 q231 q232 q233 q234 q235 q236 q237 q238 w4 hV4 hf4
      have HV4 := Lib.hid (show w4.heap[V]? = some (.cells (wcells (rounds (sws (blk msg a) 64) (R8.of hl) 64).list ++ []).toArray 107 (0, 0)) by rw [List.append_nil]; exact hV4)
      have HF4 := Lib.hid (HF3.out.trans hf4 (fun i hi => .inr (by rw [hi]; exact HVW.out.1)))
      have HH4 := Lib.hid (hf4.heap HH3.out (Ne.symm HVW.out.2.1))
      clear hV4 hf4 HV0 HB3 HH3 HF3
      go_wp2
      refine ref_l6 _ _ _ _ _ _ _ _ _ _ _ _ _ _ _ _ _ _ _ _ _ _ _ _ _ _ _ _ _ _ _ _ _ _ _ _ _ _ _ _ _ _ _ _ _ _ _ _ _ _ _ _ _ _ _ _ _ _ _ _ _ _ _ _ _ _ _ _ _ _ _ _ _ _ _ _ _ _ _ _ _ _ _ _ _ _ _ _ _ _ _ _ _ _ _ _ _ _ _ _ _ _ _ _ _ _ _ _ _ _ _ _ _ _ _ _ _ _ _ _ _ _ _ _ _ _ _ _ _ _ _ _ _ _ _ _ _ _ _ _ _ _ _ _ _ _ _ _ _ _ _ _ _ _ _ _ _ _ _ _ _ _ _ _ _ _ _ _ _ _ _ _ _ _ _ _ _ _ _ _ _ _ _ _ _ _ _ _ _ _ _ _ _ _ _ _ _ _ _ _ _ _ _ _ _ _ _ _ _ _ _ _ _ _ _ _ _ _ _ _ _ _ _ _ _ _ _ _ _ _ _ _ _ _ _ _ _ _ _ _ _ _ _ _ _ _ _ _ _ _ _ _ _ _ _ _ _ _ _ _ _ _ _ _ _ _ _ _ _ _ _ _ _ _ _ _ _ H V hl (rounds (sws (blk msg a) 64) (R8.of hl) 64).list HHL.out rfl w4 HVW.out.2.1 HV4.out HH4.out _ ?_
      intro r239 r240 r241 r242 r243 r244 r245 r246 r247 r248 r249 r250 r251 w5 hH5 hf5
      have HH5 := Lib.hid (show w5.heap[H]? = some (.cells (wcells (comp hl (blk msg a)) ++ []).toArray 107 (0, 0)) from hH5)
      have HF5 := Lib.hid (HF4.out.trans hf5 (fun i hi => .inl hi))
      have HE5 := Lib.hid (show eatAll (comp hl (blk msg a)) (msg.drop (a + 64)) = eatAll hT msg by rw [← HE.out]; exact (blk_step msg a hl (by rw [← HL.out]; exact HA.out)).symm)
      clear hH5 hf5
      have hwa : IntKind.i64.wrap ((a : Int) + 64) = (a : Int) + 64 := IntWalk.i64_in _ (by omega)
      go_wp2
      go_roundw
      case rel => exact ⟨a + 64, comp hl (blk msg a), by go_num, HA.out, by have := HAM.out; omega, comp_length _ _, HH5.out, HE5.out, HF5.out⟩
      case measure => have := HA.out; simp [intOf]; omega
    · have hae : a = L := by omega
      subst hae
      have HHz := Lib.hid (show wr.heap[H]? = some (.cells (wcells (eatAll hT msg).1 ++ []).toArray 107 (0, 0)) by
        have := HE.out
        rw [List.drop_of_length_le (by rw [← HL.out]; omega), eatAll_done _ _ (by simp)] at this
        rw [← this]; exact HHr.out)
      go_wp2
      exact HX.out _ _ _ _ _ _ _ _ _ _ _ _ _ _ _ _ _ _ _ _ _ _ _ _ _ _ _ _ _ _ _ _ _ _ _ _ _ _ _ _ _ _ _ _ _ _ _ _ _ _ _ _ _ _ _ _ _ _ _ _ _ _ _ _ _ _ _ _ _ _ _ _ _ _ _ _ _ _ _ _ _ _ _ _ _ _ _ _ _ _ _ _ _ _ _ _ _ _ _ _ _ _ _ _ _ _ _ _ _ _ _ _ _ _ _ _ _ _ _ _ _ _ _ _ _ _ _ _ _ _ _ _ _ _ _ _ _ _ _ _ _ _ _ _ _ _ _ _ _ _ _ _ _ _ _ _ _ _ _ _ _ _ _ _ _ _ _ _ _ _ _ _ _ _ _ _ _ _ _ _ _ _ _ _ _ _ _ _ _ _ _ _ _ _ _ _ _ _ _ _ _ _ _ _ _ _ _ _ _ _ _ _ HHz.out HF.out
end Go.Proofs.Ytcchhfkmhbjdmaa
/-! Jlm -/
set_option linter.unusedVariables false
set_option linter.unusedSimpArgs false
set_option pp.deepTerms true
set_option pp.maxSteps 100000
namespace Go.Proofs.Ytcchhfkmhbjdmaa
open Go.RowKit
theorem pad_mod (n k : Nat) (hk : k ≤ (119 - n % 64) % 64) : ((n + 1 + k) % 64 = 56) ↔ k = (119 - n % 64) % 64 := by omega
theorem be8_length (n : Nat) : (be8 n).length = 8 := by simp [be8]
theorem be8_get (n k : Nat) (hk : k < 8) : (be8 n)[k]? = some (UInt8.ofNat (n / 2 ^ (56 - 8 * k))) := by simp [be8, hk]
set_option maxRecDepth 100000 in
set_option maxHeartbeats 4000000 in
theorem kt_calls (w : World) : Calls Try.prog 81 #[] w fun e w' => e = .returned (.agg (wcells kT).toArray) ∧ Fr (fun _ => False) w w' := by
  go_enter Try.func81, Try.ntmps81
  go_wp2_with (with_reducible refine wpList_store_fresh (op := ⟨none, .store 115 _ _, _, _, _, _⟩) rfl 115 _ _ rfl w #[.int .u32 0, .int .u32 0, .int .u32 0, .int .u32 0, .int .u32 0, .int .u32 0, .int .u32 0, .int .u32 0, .int .u32 0, .int .u32 0, .int .u32 0, .int .u32 0, .int .u32 0, .int .u32 0, .int .u32 0, .int .u32 0, .int .u32 0, .int .u32 0, .int .u32 0, .int .u32 0, .int .u32 0, .int .u32 0, .int .u32 0, .int .u32 0, .int .u32 0, .int .u32 0, .int .u32 0, .int .u32 0, .int .u32 0, .int .u32 0, .int .u32 0, .int .u32 0, .int .u32 0, .int .u32 0, .int .u32 0, .int .u32 0, .int .u32 0, .int .u32 0, .int .u32 0, .int .u32 0, .int .u32 0, .int .u32 0, .int .u32 0, .int .u32 0, .int .u32 0, .int .u32 0, .int .u32 0, .int .u32 0, .int .u32 0, .int .u32 0, .int .u32 0, .int .u32 0, .int .u32 0, .int .u32 0, .int .u32 0, .int .u32 0, .int .u32 0, .int .u32 0, .int .u32 0, .int .u32 0, .int .u32 0, .int .u32 0, .int .u32 0, .int .u32 0] (wcells kT).toArray rfl rfl rfl rfl (by kernel_rfl) (by simpa using wcells_one kT) ?_)
  refine bodyPost_ret (results_cell_row rfl _ _ w.heap.size 115 (wcells kT).toArray (0, 0) _ rfl (heap_alloc_new w _) Try.underlying115 rfl (by kernel_rfl)) rfl ?_
  exact ⟨rfl, (Fr.refl _ _).alloc _⟩
set_option maxRecDepth 100000 in
set_option maxHeartbeats 4000000 in
theorem ref_sum (text : List UInt8) (hb : text.length ≤ 90000) (w : World) : Calls Try.prog 31 #[.string (str text)] w fun e w' => e = .returned (.string (str (dig text))) ∧ Fr (fun _ => False) w w' := by
  obtain ⟨n, hn⟩ : ∃ n, n = text.length := ⟨_, rfl⟩
  have hsz : (str text).size = n := by rw [str_size, hn]
  have HN := Lib.hid hn
  have hnb : n ≤ 90000 := by omega
  have hcv := Lib.run_convert_string_bytes (P := Try.prog) w 9 27 5 (str text) Try.underlying9 Try.underlying27 Try.underlying5
  have hfB := xbytesWorld_fr w 5 (str text)
  have hrB := xrow_conv w text
  rw [hsz] at hcv hrB
  generalize grownCap w n 0 5 = cap0 at hcv hrB
  generalize Lib.bytesWorld w 5 (str text) = wB at hcv hfB hrB
  obtain ⟨g0, hg0⟩ : ∃ g, g = w.heap.size := ⟨_, rfl⟩
  rw [← hg0] at hcv hrB
  have HG0 := Lib.hid hg0
  obtain ⟨n8, hn8⟩ : ∃ z, z = 8 * n := ⟨_, rfl⟩
  have hw8 : IntKind.i64.wrap (8 * (n : Int)) = (n8 : Int) := by rw [IntWalk.i64_in _ (by omega)]; omega
  have HN8 := Lib.hid hn8
  have hfa : Fr (fun _ => False) wB (wB.alloc (.cells #[.int .u8 128] 5)) := (Fr.refl _ _).alloc _
  have HX0 := Lib.hid (hrB.fr hfa id)
  have HF0 := Lib.hid (hfB.alloc (.cells #[.int .u8 128] 5))
  have HC0 := Lib.hid (show (wB.alloc (.cells #[.int .u8 128] 5)).cell? ⟨wB.heap.size, 0, none⟩ = some (.int .u8 ((128 : UInt8).toNat : Int)) from (cell_of_row _ _ 0 _ _ _ (heap_alloc_new wB _)).trans rfl)
  have HWB := Lib.hid (show w.heap.size ≤ wB.heap.size from hfB.size)
  clear hfB hrB hg0 hn8 hfa hn hb
  go_enter Try.func31, Try.ntmps31
  go_wp2_with (with_reducible refine wpList_xappend (op := ⟨some 25, _, _, _, _, _⟩) rfl _ _ rfl g0 cap0 text HX0.out (by have := HN.out; omega) n HN.out rfl wB.heap.size 1 rfl 128 HC0.out ?_)
  intro g1 cap1 w1 hx1 hgr hat
  have HX1 := Lib.hid hx1
  have HG1 := Lib.hid (show w.heap.size ≤ g1 by have h0 := HG0.out; have h1 := HWB.out; rcases hat with h | h <;> (try simp at h) <;> omega)
  have HF1 := Lib.hid (HF0.out.grown hgr (fun k hk => .inr (by have := HG0.out; cases hk; omega)))
  clear hx1 hgr hat hcv
  obtain ⟨zz, hzz⟩ : ∃ z, z = (119 - n % 64) % 64 := ⟨_, rfl⟩
  have HZZ := Lib.hid hzz
  clear hzz
  go_wp2
  go_loopw [3] (fun v wr => ∃ (g cap k L : Nat), k ≤ zz ∧ L = n + 1 + k ∧ v = .slice (some ⟨g, 0, none⟩) L cap ∧ XRow wr g cap (text ++ 128 :: List.replicate k 0) ∧ w.heap.size ≤ g ∧ Fr (fun _ => False) w wr) (fun v _ => zz + n + 1 - (match v with | .slice _ l _ => l | _ => 0))
  case atStart => exact ⟨g1, cap1, 0, n + 1, Nat.zero_le _, rfl, rfl, HX1.out, HG1.out, HF1.out⟩
  case round =>
    obtain ⟨g, cap, k, L, hk, hL, rfl, hx, hg, hf⟩ := hrel
    have HX := Lib.hid hx
    have HG := Lib.hid hg
    have HF := Lib.hid hf
    have HL := Lib.hid hL
    have HK := Lib.hid hk
    clear hx hg hf HX1 HG1 HF1
    have HXL := Lib.hid (show L = (text ++ 128 :: List.replicate k 0).length by rw [List.length_append, List.length_cons, List.length_replicate, ← HN.out, hL]; omega)
    have hz64 : zz < 64 := by have := HZZ.out; omega
    have hLb : L ≤ 100000 := by omega
    obtain ⟨q, hq⟩ : ∃ q, q = L % 64 := ⟨_, rfl⟩
    have hq1 : (L : Int).tmod 64 = (q : Int) := by rw [Int.tmod_eq_emod_of_nonneg (by omega)]; omega
    have hq2 : (L : Int) % 64 = (q : Int) := by omega
    have hq3 : IntKind.i64.wrap (q : Int) = (q : Int) := IntWalk.i64_in _ (by omega)
    have hiff := pad_mod n k (by rw [← HZZ.out]; exact hk)
    rw [← HZZ.out, ← hL, ← hq] at hiff
    by_cases hlt : k = zz
    · have hne : ((q : Int) != 56) = false := by have := hiff.mpr hlt; simp [this]
      have HXP := Lib.hid (show XRow wr g cap (text ++ 128 :: List.replicate zz 0) by rw [← hlt]; exact HX.out)
      have HLz := Lib.hid (show L = n + 1 + zz by omega)
      clear hlt hiff hq hk hL
      go_wp2
      -- the length's bytes
      go_loopw [3, 5] (fun v3 v5 wr => ∃ (g cap k L : Nat), k ≤ 8 ∧ L = n + 1 + zz + k ∧ v3 = .slice (some ⟨g, 0, none⟩) L cap ∧ v5 = .int .i64 (7 - (k : Int)) ∧ XRow wr g cap ((text ++ 128 :: List.replicate zz 0) ++ (be8 n8).take k) ∧ w.heap.size ≤ g ∧ Fr (fun _ => False) w wr) (fun _ v _ => (intOf v + 1).toNat)
      case atStart => exact ⟨g, cap, 0, L, Nat.zero_le _, HLz.out, rfl, rfl, by simpa using HXP.out, HG.out, HF.out⟩
      case round =>
        obtain ⟨g, cap, k, L, hk, hL, rfl, rfl, hx, hg, hf⟩ := hrel
        have HX2 := Lib.hid hx
        have HG2 := Lib.hid hg
        have HF2 := Lib.hid hf
        have HL2 := Lib.hid hL
        clear hx hg hf HXP HLz
        have HXL2 := Lib.hid (show L = ((text ++ 128 :: List.replicate zz 0) ++ (be8 n8).take k).length by rw [List.length_append, List.length_append, List.length_cons, List.length_replicate, List.length_take, be8_length, ← HN.out, hL]; omega)
        have hLb2 : L ≤ 100000 := by omega
        by_cases hlt : k < 8
        · obtain ⟨i, hi⟩ : ∃ i, i = 7 - k := ⟨_, rfl⟩
          have hi7 : (7 : Int) - (k : Int) = (i : Int) := by omega
          obtain ⟨m, hm⟩ : ∃ m, m = 56 - 8 * k := ⟨_, rfl⟩
          obtain ⟨z, hz⟩ : ∃ z, z = UInt8.ofNat (n8 / 2 ^ (56 - 8 * k)) := ⟨_, rfl⟩
          have hw1 : IntKind.i64.wrap (8 * (i : Int)) = (m : Int) := by rw [IntWalk.i64_in _ (by omega)]; omega
          have hw2 : IntKind.u64.wrap (m : Int) = (m : Int) := by simp [IntKind.wrap, IntKind.bits, IntKind.signed]; omega
          have hm0 : (0 : Int) ≤ (m : Int) := by omega
          have hm1 : m ≤ 56 := by omega
          have hm2 : (m : Int) ≤ 64 := by omega
          have hi0 : (0 : Int) ≤ (i : Int) := by omega
          have hwi : IntKind.i64.wrap ((i : Int) - 1) = (i : Int) - 1 := IntWalk.i64_in _ (by omega)
          have hzz2 : ((n8 : Int) / 2 ^ m) % 256 = (z.toNat : Int) := by
            rw [hz, hm]
            simp
          have hzw : IntKind.u8.wrap ((n8 : Int) / 2 ^ m) = (z.toNat : Int) := by rw [IntKind.wrap_u8', hzz2]
          have HST := Lib.hid (show ((text ++ 128 :: List.replicate zz 0) ++ (be8 n8).take k) ++ [z] = (text ++ 128 :: List.replicate zz 0) ++ (be8 n8).take (k + 1) by
            rw [List.take_add_one, be8_get n8 k hlt, hz, List.append_assoc]; rfl)
          have hfa : Fr (fun _ => False) wr (wr.alloc (.cells #[.int .u8 (z.toNat : Int)] 5)) := (Fr.refl _ _).alloc _
          have HXb := Lib.hid (HX2.out.fr hfa id)
          have HFb := Lib.hid (HF2.out.alloc (.cells #[.int .u8 (z.toNat : Int)] 5))
          have HCb := Lib.hid (show (wr.alloc (.cells #[.int .u8 (z.toNat : Int)] 5)).cell? ⟨wr.heap.size, 0, none⟩ = some (.int .u8 (z.toNat : Int)) from (cell_of_row _ _ 0 _ _ _ (heap_alloc_new wr _)).trans rfl)
          have HWr := Lib.hid (show w.heap.size ≤ wr.heap.size from HF2.out.size)
          have HI := Lib.hid (show (i : Int) - 1 = 7 - ((k + 1 : Nat) : Int) by omega)
          have bz := z.toNat_lt
          rw [hi7]
          clear hz hm hi7 hfa hi hL
          go_wp2_with (with_reducible refine wpList_xappend (op := ⟨some 45, _, _, _, _, _⟩) rfl _ _ rfl g cap _ HXb.out (by rw [← HXL2.out]; exact hLb2) L HXL2.out rfl wr.heap.size 1 rfl z HCb.out ?_)
          intro g' cap' w' hx' hgr hat
          have HX' := Lib.hid (show XRow w' g' cap' ((text ++ 128 :: List.replicate zz 0) ++ (be8 n8).take (k + 1)) by rw [← HST.out]; first | exact hx' | simpa using hx')
          have HG' := Lib.hid (show w.heap.size ≤ g' by have h0 := HG2.out; have h1 := HWr.out; rcases hat with h | h <;> (try simp at h) <;> omega)
          have HF' := Lib.hid (HFb.out.grown hgr (fun k hk => .inr (by have := HG2.out; cases hk; omega)))
          clear hx' hgr hat
          go_wp2
          go_roundw
          case rel => exact ⟨g', cap', k + 1, L + 1, by omega, by have := HL2.out; omega, rfl, by rw [HI.out], HX'.out, HG'.out, HF'.out⟩
          case measure => first | (simp [intOf]; done) | (simp [intOf]; omega)
        · have hk8 : k = 8 := by omega
          subst hk8
          have hneg : ¬ (0 : Int) ≤ 7 - ((8 : Nat) : Int) := by omega
          obtain ⟨msg, hmsg⟩ : ∃ m, m = text ++ padL n := ⟨_, rfl⟩
          have HMS := Lib.hid (show XRow wr g cap msg by
            have := HX2.out
            rw [List.take_of_length_le (by rw [be8_length]; omega)] at this
            rw [hmsg]; unfold padL
            rw [← HN8.out, ← HZZ.out]
            simpa using this)
          have HML := Lib.hid (show L = msg.length by
            have h1 := HXL2.out
            rw [hmsg, List.length_append]; unfold padL
            rw [List.length_cons, List.length_append, List.length_replicate, be8_length, ← HZZ.out, ← HN.out, hL]; omega)
          have HMM := Lib.hid (show L % 64 = 0 by rw [HML.out, hmsg, HN.out]; exact padded text)
          have HMD := Lib.hid (show dig text = outL (eatAll hT msg).1 by rw [hmsg, HN.out]; exact dig_all text)
          clear hmsg hL
          go_wp2_with fail
          refine (kt_calls wr).mono ?_
          rintro e w2 ⟨rfl, hf2⟩
          have HF3 := Lib.hid (HF2.out.trans hf2 (fun i hi => hi.elim))
          have HM3 := Lib.hid (HMS.out.fr hf2 id)
          clear hf2 HMS
          have HZ := Lib.hid (show (#[.int .u32 0, .int .u32 0, .int .u32 0, .int .u32 0, .int .u32 0, .int .u32 0, .int .u32 0, .int .u32 0, .int .u32 0, .int .u32 0, .int .u32 0, .int .u32 0, .int .u32 0, .int .u32 0, .int .u32 0, .int .u32 0, .int .u32 0, .int .u32 0, .int .u32 0, .int .u32 0, .int .u32 0, .int .u32 0, .int .u32 0, .int .u32 0, .int .u32 0, .int .u32 0, .int .u32 0, .int .u32 0, .int .u32 0, .int .u32 0, .int .u32 0, .int .u32 0, .int .u32 0, .int .u32 0, .int .u32 0, .int .u32 0, .int .u32 0, .int .u32 0, .int .u32 0, .int .u32 0, .int .u32 0, .int .u32 0, .int .u32 0, .int .u32 0, .int .u32 0, .int .u32 0, .int .u32 0, .int .u32 0, .int .u32 0, .int .u32 0, .int .u32 0, .int .u32 0, .int .u32 0, .int .u32 0, .int .u32 0, .int .u32 0, .int .u32 0, .int .u32 0, .int .u32 0, .int .u32 0, .int .u32 0, .int .u32 0, .int .u32 0, .int .u32 0] : Array Value).size = (wcells kT).toArray.size by rfl)
          have HI := Lib.hid (show (Try.prog.info? 115).map (·.size) = some (wcells kT).toArray.size by kernel_rfl)
          have H1 := Lib.hid (show ∀ v ∈ (wcells kT).toArray.toList, v.oneCell' = true by simpa using wcells_one kT)
          have HZ7 := Lib.hid (show (#[.int .u32 0, .int .u32 0, .int .u32 0, .int .u32 0, .int .u32 0, .int .u32 0, .int .u32 0, .int .u32 0] : Array Value).size = (wcells hT).toArray.size by rfl)
          have HI7 := Lib.hid (show (Try.prog.info? 107).map (·.size) = some (wcells hT).toArray.size by kernel_rfl)
          have H17 := Lib.hid (show ∀ v ∈ (wcells hT).toArray.toList, v.oneCell' = true by simpa using wcells_one hT)
          have hgw : g < w2.heap.size := HM3.out.lt
          go_wp2_with (first
            | (with_reducible refine wpList_store_fresh (op := ⟨none, .store 115 _ _, _, _, _, _⟩) rfl 115 _ _ rfl w2 #[.int .u32 0, .int .u32 0, .int .u32 0, .int .u32 0, .int .u32 0, .int .u32 0, .int .u32 0, .int .u32 0, .int .u32 0, .int .u32 0, .int .u32 0, .int .u32 0, .int .u32 0, .int .u32 0, .int .u32 0, .int .u32 0, .int .u32 0, .int .u32 0, .int .u32 0, .int .u32 0, .int .u32 0, .int .u32 0, .int .u32 0, .int .u32 0, .int .u32 0, .int .u32 0, .int .u32 0, .int .u32 0, .int .u32 0, .int .u32 0, .int .u32 0, .int .u32 0, .int .u32 0, .int .u32 0, .int .u32 0, .int .u32 0, .int .u32 0, .int .u32 0, .int .u32 0, .int .u32 0, .int .u32 0, .int .u32 0, .int .u32 0, .int .u32 0, .int .u32 0, .int .u32 0, .int .u32 0, .int .u32 0, .int .u32 0, .int .u32 0, .int .u32 0, .int .u32 0, .int .u32 0, .int .u32 0, .int .u32 0, .int .u32 0, .int .u32 0, .int .u32 0, .int .u32 0, .int .u32 0, .int .u32 0, .int .u32 0, .int .u32 0, .int .u32 0] (wcells kT).toArray rfl rfl rfl HZ.out HI.out H1.out ?_)
            | (refine wpList_store_fresh (op := ⟨none, .store 107 _ _, _, _, _, _⟩) rfl 107 _ _ rfl (w2.alloc (.cells (wcells kT).toArray 115)) #[.int .u32 0, .int .u32 0, .int .u32 0, .int .u32 0, .int .u32 0, .int .u32 0, .int .u32 0, .int .u32 0] (wcells hT).toArray rfl rfl rfl HZ7.out HI7.out H17.out ?_))
          have hK0 := heap_alloc_new w2 (.cells (wcells kT).toArray 115)
          have hfA : Fr (fun _ => False) w2 (w2.alloc (.cells (wcells kT).toArray 115)) := (Fr.refl _ _).alloc _
          have hfB : Fr (fun _ => False) w2 ((w2.alloc (.cells (wcells kT).toArray 115)).alloc (.cells (wcells hT).toArray 107)) := hfA.alloc _
          have hK1 := ((Fr.refl (fun _ => False) (w2.alloc (.cells (wcells kT).toArray 115))).alloc (.cells (wcells hT).toArray 107)).heap hK0 id
          have hH0 := heap_alloc_new (w2.alloc (.cells (wcells kT).toArray 115)) (.cells (wcells hT).toArray 107)
          rw [World.size_alloc] at hH0
          change Code.wp _ _ _ _ ((w2.alloc (.cells (wcells kT).toArray 115)).alloc (.cells (wcells hT).toArray 107))
          generalize (w2.alloc (.cells (wcells kT).toArray 115)).alloc (.cells (wcells hT).toArray 107) = w4 at hK1 hH0 hfB ⊢
          obtain ⟨KB, hKB⟩ : ∃ K, K = w2.heap.size := ⟨_, rfl⟩
          obtain ⟨H, hHd⟩ : ∃ H, H = w2.heap.size + 1 := ⟨_, rfl⟩
          rw [← hHd] at hH0
          rw [← hKB] at hK1
          rw [← hHd, ← hKB]
          have HK4 := Lib.hid (show w4.heap[KB]? = some (.cells (wcells kT ++ []).toArray 115 (0, 0)) by simpa using hK1)
          have HH4 := Lib.hid (show w4.heap[H]? = some (.cells (wcells hT ++ []).toArray 107 (0, 0)) by simpa using hH0)
          have HF4 := Lib.hid (HF3.out.trans hfB (fun i hi => hi.elim))
          have HM4 := Lib.hid (HM3.out.fr hfB id)
          have HW4 := Lib.hid (show w.heap.size ≤ H ∧ g ≠ H ∧ KB ≠ H by have := HF3.out.size; omega)
          clear hK0 hfA hfB hK1 hH0 hKB hHd hgw HZ HI H1 HZ7 HI7 H17
          refine ref_l3 _ _ _ _ _ _ _ _ _ _ _ _ _ _ _ _ _ _ _ _ _ _ _ _ _ _ _ _ _ _ _ _ _ _ _ _ _ _ _ _ _ _ _ _ _ _ _ _ _ _ _ _ _ _ _ _ _ _ _ _ _ _ _ _ _ _ _ _ _ _ _ _ _ _ _ _ _ _ _ _ _ _ _ _ _ _ _ _ _ _ _ _ _ _ _ _ _ _ _ _ _ _ _ _ _ _ _ _ _ _ _ _ _ _ _ _ _ _ _ _ _ _ _ _ _ _ _ _ _ _ _ _ _ _ _ _ _ _ _ _ _ _ _ _ _ _ _ _ _ _ _ _ _ _ _ _ _ _ _ _ _ _ _ _ _ _ _ _ _ _ _ _ _ _ _ _ _ _ _ _ _ _ _ _ _ _ _ _ _ _ _ _ _ _ _ _ _ _ _ _ _ _ _ _ _ _ _ _ _ _ _ _ _ _ _ _ _ _ _ _ _ _ _ _ _ _ _ _ _ _ _ _ _ _ _ _ _ _ _ _ _ _ _ _ _ _ _ _ _ _ _ _ _ _ _ _ _ _ _ _ _ _ _ _ _ _ _ _ _ _ _ _ _ _ _ _ g L cap KB H msg HML.out (by omega) HMM.out w4 (fun k x hk => HM4.out.cell k x hk) HM4.out.lt HW4.out.2.1 HW4.out.2.2 HK4.out HH4.out _ ?_
          intro p9 p10 p11 p12 p13 p14 p15 p48 p49 p50 p51 p52 p53 p54 p55 p56 p57 p58 p59 p60 p61 p62 p63 p64 p65 p66 p67 p68 p69 p70 p71 p72 p73 p74 p75 p76 p77 p78 p79 p80 p81 p82 p83 p84 p85 p86 p87 p88 p89 p90 p91 p92 p93 p94 p95 p96 p97 p98 p99 p100 p101 p102 p103 p104 p105 p106 p107 p108 p109 p110 p111 p112 p113 p114 p115 p116 p117 p118 p119 p120 p121 p122 p123 p124 p125 p126 p127 p128 p129 p130 p131 p132 p133 p134 p135 p136 p137 p138 p139 p140 p141 p142 p143 p144 p145 p146 p147 p148 p149 p150 p151 p152 p153 p154 p155 p156 p157 p158 p159 p160 p161 p162 p163 p164 p165 p166 p167 p168 p169 p170 p171 p172 p173 p174 p175 p176 p177 p178 p179 p180 p181 p182 p183 p184 p185 p186 p187 p188 p189 p190 p191 p192 p193 p194 p195 p196 p197 p198 p199 p200 p201 p202 p203 p204 p205 p206 p207 p208 p209 p210 p211 p212 p213 p214 p215 p216 p217 p218 p219 p220 p221 p222 p223 p224 p225 p226 p227 p228 p229 p230 p231 p232 p233 p234 p235 p236 p237 p238 p239 p240 p241 p242 p243 p244 p245 p246 p247 p248 p249 p250 p251 w5 hH5 hf5
          obtain ⟨hz, hzd⟩ : ∃ h, h = (eatAll hT msg).1 := ⟨_, rfl⟩
          rw [← hzd] at hH5
          have HH5 := Lib.hid hH5
          have HF5 := Lib.hid (HF4.out.trans hf5 (fun i hi => .inr (by rw [hi]; exact HW4.out.1)))
          have HD := Lib.hid (show dig text = outL hz by rw [HMD.out, hzd])
          have HL8 := Lib.hid (show hz.length = 8 by rw [hzd]; exact eatAll_hl _ rfl _)
          clear hH5 hf5 hzd
          go_wp2
          go_loopw [16, 17] (fun v16 v17 wr => ∃ i : Nat, i ≤ 8 ∧ v16 = .string (str (outL (hz.take i))) ∧ v17 = .int .i64 i ∧ Fr (fun _ => False) w5 wr) (fun _ v _ => 8 - (intOf v).toNat)
          case atStart => exact ⟨0, Nat.zero_le _, rfl, rfl, Fr.refl _ _⟩
          case round =>
            obtain ⟨i, hi, rfl, rfl, hf⟩ := hrel
            have HFr := Lib.hid hf
            clear hf
            by_cases hlt : i < 8
            · obtain ⟨x, hx⟩ : ∃ z, z = hz.getD i 0 := ⟨_, rfl⟩
              have hxi : hz[i]? = some x := by rw [hx]; exact get_some32 HL8.out i hlt
              have HST := Lib.hid (outL_step hz i x hxi)
              have hi8' : (i : Int) < 8 := by omega
              obtain ⟨y0, hy0⟩ : ∃ z, z = (x >>> 24).toUInt8 := ⟨_, rfl⟩
              obtain ⟨y1, hy1⟩ : ∃ z, z = (x >>> 16).toUInt8 := ⟨_, rfl⟩
              obtain ⟨y2, hy2⟩ : ∃ z, z = (x >>> 8).toUInt8 := ⟨_, rfl⟩
              obtain ⟨y3, hy3⟩ : ∃ z, z = x.toUInt8 := ⟨_, rfl⟩
              have HOW := Lib.hid (show outW x = [y0, y1, y2, y3] by rw [hy0, hy1, hy2, hy3]; rfl)
              have o0 : ((x.toNat : Int) / 16777216) % 256 = (y0.toNat : Int) := by rw [hy0]; exact out_b x 24 24 rfl (by omega)
              have o1 : ((x.toNat : Int) / 65536) % 256 = (y1.toNat : Int) := by rw [hy1]; exact out_b x 16 16 rfl (by omega)
              have o2 : ((x.toNat : Int) / 256) % 256 = (y2.toNat : Int) := by rw [hy2]; exact out_b x 8 8 rfl (by omega)
              have o3 : (x.toNat : Int) % 256 = (y3.toNat : Int) := by rw [hy3]; simp
              have p0 : IntKind.u8.wrap ((x.toNat : Int) / 16777216) = (y0.toNat : Int) := by rw [IntKind.wrap_u8', o0]
              have p1 : IntKind.u8.wrap ((x.toNat : Int) / 65536) = (y1.toNat : Int) := by rw [IntKind.wrap_u8', o1]
              have p2 : IntKind.u8.wrap ((x.toNat : Int) / 256) = (y2.toNat : Int) := by rw [IntKind.wrap_u8', o2]
              have p3 : IntKind.u8.wrap (x.toNat : Int) = (y3.toNat : Int) := by rw [IntKind.wrap_u8', o3]
              have by0 := y0.toNat_lt
              have by1 := y1.toNat_lt
              have by2 := y2.toNat_lt
              have by3 := y3.toNat_lt
              have bx := x.toNat_lt
              have HCX := Lib.hid (show wr.drew.cell? ⟨H, i, none⟩ = some (.int .u32 (x.toNat : Int)) from HFr.out.cell (wcells_cell HH5.out i x hxi) id)
              have HCV := Lib.hid (show ∀ wy : World, Sem.run Try.prog (convert 27 9 (.slice (some ⟨wy.heap.size, 0, none⟩) 4 4)) (wy.alloc (.cells #[.int .u8 (y0.toNat : Int), .int .u8 (y1.toNat : Int), .int .u8 (y2.toNat : Int), .int .u8 (y3.toNat : Int)] 5)) = .ok (.string (str [y0, y1, y2, y3])) (wy.alloc (.cells #[.int .u8 (y0.toNat : Int), .int .u8 (y1.toNat : Int), .int .u8 (y2.toNat : Int), .int .u8 (y3.toNat : Int)] 5)) from fun wy =>
                run_convert_str (P := Try.prog) (wy.alloc (.cells #[.int .u8 (y0.toNat : Int), .int .u8 (y1.toNat : Int), .int .u8 (y2.toNat : Int), .int .u8 (y3.toNat : Int)] 5)) 27 5 Try.underlying27 Try.underlying5 wy.heap.size 0 4 4 [y0, y1, y2, y3] rfl (fun j v hj => by
                rw [Nat.zero_add, cell_of_row _ wy.heap.size j _ _ _ (heap_alloc_new wy _)]; simpa [bcells] using hj) 9 Try.underlying9)
              obtain ⟨O, hO⟩ : ∃ s, s = str (outL (hz.take i)) := ⟨_, rfl⟩
              obtain ⟨Y, hY⟩ : ∃ s, s = str [y0, y1, y2, y3] := ⟨_, rfl⟩
              have HAP := Lib.hid (show O ++ Y = str (outL (hz.take (i + 1))) by rw [hO, hY, jstr_append, HST.out, HOW.out])
              have hOs : O.size ≤ 32 := by rw [hO, str_size, outL_length, List.length_take, HL8.out]; omega
              have hYs : Y.size = 4 := by rw [hY, str_size]; rfl
              have hsb : ¬ 9223372036854775807 < O.size + Y.size := by omega
              have hsb2 : O.size + Y.size ≤ 9223372036854775807 := by omega
              have hsb3 : O.size + 4 ≤ 9223372036854775807 := by omega
              rw [← hY] at HCV
              rw [← hO]
              have HF6a := Lib.hid (show Fr (fun _ => False) w5 wr.drew from HFr.out.drew)
              have HF6 := Lib.hid (HFr.out.drew.alloc (.cells #[.int .u8 (y0.toNat : Int), .int .u8 (y1.toNat : Int), .int .u8 (y2.toNat : Int), .int .u8 (y3.toNat : Int)] 5))
              clear hx hxi hy0 hy1 hy2 hy3 hO hY
              go_wp2
              refine wp_region_till (fun W => W.cell? ⟨H, i, none⟩ = some (.int .u32 (x.toNat : Int))) 22 (by kernel_rfl) ?_
              have HS := HCX
              clear HF6
              generalize wr.drew = wy at HS HCX HF6a ⊢
              refine wpAnyT_take (i := 0) (n := 22) (v := .string O) rfl (by kernel_rfl) (fun _ _ _ h => h) HS.out (yieldsIf_plain rfl (fun W hW => by clear hW; go_simp)) ?_
              simp only [List.getElem_toArray, List.getElem_cons_succ, List.getElem_cons_zero, Act.put, List.setIfInBounds_toArray, List.set_cons_zero, List.set_cons_succ]
              refine wpAnyT_take (i := 1) (n := 22) (v := .int .i64 (i : Int)) rfl (by kernel_rfl) (fun _ _ _ h => h) HS.out (yieldsIf_plain rfl (fun W hW => by clear hW; go_simp)) ?_
              simp only [List.getElem_toArray, List.getElem_cons_succ, List.getElem_cons_zero, Act.put, List.setIfInBounds_toArray, List.set_cons_zero, List.set_cons_succ]
              refine wpAnyT_take (i := 2) (n := 22) (v := .pointer (some ⟨H, i, none⟩)) rfl (by kernel_rfl) (fun _ _ _ h => h) HS.out (yieldsIf_plain rfl (fun W hW => by clear hW; go_simp)) ?_
              simp only [List.getElem_toArray, List.getElem_cons_succ, List.getElem_cons_zero, Act.put, List.setIfInBounds_toArray, List.set_cons_zero, List.set_cons_succ]
              refine wpAnyT_take (i := 3) (n := 22) (v := .int .u32 (x.toNat : Int)) rfl (by kernel_rfl) (fun _ _ _ h => h) HS.out (yieldsIf_plain rfl (fun W hW => by have h1 := hW; clear hW; go_simp)) ?_
              simp only [List.getElem_toArray, List.getElem_cons_succ, List.getElem_cons_zero, Act.put, List.setIfInBounds_toArray, List.set_cons_zero, List.set_cons_succ]
              refine wpAnyT_take (i := 4) (n := 22) (v := .int .u32 ((x.toNat : Int) / 16777216)) rfl (by kernel_rfl) (fun _ _ _ h => h) HS.out (yieldsIf_plain rfl (fun W hW => by clear hW; go_simp)) ?_
              simp only [List.getElem_toArray, List.getElem_cons_succ, List.getElem_cons_zero, Act.put, List.setIfInBounds_toArray, List.set_cons_zero, List.set_cons_succ]
              refine wpAnyT_take (i := 5) (n := 22) (v := .int .u8 (y0.toNat : Int)) rfl (by kernel_rfl) (fun _ _ _ h => h) HS.out (yieldsIf_plain rfl (fun W hW => by clear hW; go_simp)) ?_
              simp only [List.getElem_toArray, List.getElem_cons_succ, List.getElem_cons_zero, Act.put, List.setIfInBounds_toArray, List.set_cons_zero, List.set_cons_succ]
              refine wpAnyT_take (i := 6) (n := 22) (v := .int .i64 (i : Int)) rfl (by kernel_rfl) (fun _ _ _ h => h) HS.out (yieldsIf_plain rfl (fun W hW => by clear hW; go_simp)) ?_
              simp only [List.getElem_toArray, List.getElem_cons_succ, List.getElem_cons_zero, Act.put, List.setIfInBounds_toArray, List.set_cons_zero, List.set_cons_succ]
              refine wpAnyT_take (i := 7) (n := 22) (v := .pointer (some ⟨H, i, none⟩)) rfl (by kernel_rfl) (fun _ _ _ h => h) HS.out (yieldsIf_plain rfl (fun W hW => by clear hW; go_simp)) ?_
              simp only [List.getElem_toArray, List.getElem_cons_succ, List.getElem_cons_zero, Act.put, List.setIfInBounds_toArray, List.set_cons_zero, List.set_cons_succ]
              refine wpAnyT_take (i := 8) (n := 22) (v := .int .u32 (x.toNat : Int)) rfl (by kernel_rfl) (fun _ _ _ h => h) HS.out (yieldsIf_plain rfl (fun W hW => by have h1 := hW; clear hW; go_simp)) ?_
              simp only [List.getElem_toArray, List.getElem_cons_succ, List.getElem_cons_zero, Act.put, List.setIfInBounds_toArray, List.set_cons_zero, List.set_cons_succ]
              refine wpAnyT_take (i := 9) (n := 22) (v := .int .u32 ((x.toNat : Int) / 65536)) rfl (by kernel_rfl) (fun _ _ _ h => h) HS.out (yieldsIf_plain rfl (fun W hW => by clear hW; go_simp)) ?_
              simp only [List.getElem_toArray, List.getElem_cons_succ, List.getElem_cons_zero, Act.put, List.setIfInBounds_toArray, List.set_cons_zero, List.set_cons_succ]
              refine wpAnyT_take (i := 10) (n := 22) (v := .int .u8 (y1.toNat : Int)) rfl (by kernel_rfl) (fun _ _ _ h => h) HS.out (yieldsIf_plain rfl (fun W hW => by clear hW; go_simp)) ?_
              simp only [List.getElem_toArray, List.getElem_cons_succ, List.getElem_cons_zero, Act.put, List.setIfInBounds_toArray, List.set_cons_zero, List.set_cons_succ]
              refine wpAnyT_take (i := 11) (n := 22) (v := .int .i64 (i : Int)) rfl (by kernel_rfl) (fun _ _ _ h => h) HS.out (yieldsIf_plain rfl (fun W hW => by clear hW; go_simp)) ?_
              simp only [List.getElem_toArray, List.getElem_cons_succ, List.getElem_cons_zero, Act.put, List.setIfInBounds_toArray, List.set_cons_zero, List.set_cons_succ]
              refine wpAnyT_take (i := 12) (n := 22) (v := .pointer (some ⟨H, i, none⟩)) rfl (by kernel_rfl) (fun _ _ _ h => h) HS.out (yieldsIf_plain rfl (fun W hW => by clear hW; go_simp)) ?_
              simp only [List.getElem_toArray, List.getElem_cons_succ, List.getElem_cons_zero, Act.put, List.setIfInBounds_toArray, List.set_cons_zero, List.set_cons_succ]
              refine wpAnyT_take (i := 13) (n := 22) (v := .int .u32 (x.toNat : Int)) rfl (by kernel_rfl) (fun _ _ _ h => h) HS.out (yieldsIf_plain rfl (fun W hW => by have h1 := hW; clear hW; go_simp)) ?_
              simp only [List.getElem_toArray, List.getElem_cons_succ, List.getElem_cons_zero, Act.put, List.setIfInBounds_toArray, List.set_cons_zero, List.set_cons_succ]
              refine wpAnyT_take (i := 14) (n := 22) (v := .int .u32 ((x.toNat : Int) / 256)) rfl (by kernel_rfl) (fun _ _ _ h => h) HS.out (yieldsIf_plain rfl (fun W hW => by clear hW; go_simp)) ?_
              simp only [List.getElem_toArray, List.getElem_cons_succ, List.getElem_cons_zero, Act.put, List.setIfInBounds_toArray, List.set_cons_zero, List.set_cons_succ]
              refine wpAnyT_take (i := 15) (n := 22) (v := .int .u8 (y2.toNat : Int)) rfl (by kernel_rfl) (fun _ _ _ h => h) HS.out (yieldsIf_plain rfl (fun W hW => by clear hW; go_simp)) ?_
              simp only [List.getElem_toArray, List.getElem_cons_succ, List.getElem_cons_zero, Act.put, List.setIfInBounds_toArray, List.set_cons_zero, List.set_cons_succ]
              refine wpAnyT_take (i := 16) (n := 22) (v := .int .i64 (i : Int)) rfl (by kernel_rfl) (fun _ _ _ h => h) HS.out (yieldsIf_plain rfl (fun W hW => by clear hW; go_simp)) ?_
              simp only [List.getElem_toArray, List.getElem_cons_succ, List.getElem_cons_zero, Act.put, List.setIfInBounds_toArray, List.set_cons_zero, List.set_cons_succ]
              refine wpAnyT_take (i := 17) (n := 22) (v := .pointer (some ⟨H, i, none⟩)) rfl (by kernel_rfl) (fun _ _ _ h => h) HS.out (yieldsIf_plain rfl (fun W hW => by clear hW; go_simp)) ?_
              simp only [List.getElem_toArray, List.getElem_cons_succ, List.getElem_cons_zero, Act.put, List.setIfInBounds_toArray, List.set_cons_zero, List.set_cons_succ]
              refine wpAnyT_take (i := 18) (n := 22) (v := .int .u32 (x.toNat : Int)) rfl (by kernel_rfl) (fun _ _ _ h => h) HS.out (yieldsIf_plain rfl (fun W hW => by have h1 := hW; clear hW; go_simp)) ?_
              simp only [List.getElem_toArray, List.getElem_cons_succ, List.getElem_cons_zero, Act.put, List.setIfInBounds_toArray, List.set_cons_zero, List.set_cons_succ]
              refine wpAnyT_take (i := 19) (n := 22) (v := .int .u8 (y3.toNat : Int)) rfl (by kernel_rfl) (fun _ _ _ h => h) HS.out (yieldsIf_plain rfl (fun W hW => by clear hW; go_simp)) ?_
              simp only [List.getElem_toArray, List.getElem_cons_succ, List.getElem_cons_zero, Act.put, List.setIfInBounds_toArray, List.set_cons_zero, List.set_cons_succ]
              refine wpAnyT_one (i := 20) rfl (by kernel_rfl) (wpOp_plain rfl rfl (fun K hK => ?_))
              simp only [List.getElem_toArray, List.getElem_cons_succ, List.getElem_cons_zero, Act.put, List.setIfInBounds_toArray, List.set_cons_zero, List.set_cons_succ]
              have HKK := Lib.hid hK
              clear hK
              go_wp2_with fail
              have hfy : Fr (fun _ => False) wy (wy.alloc (.cells #[.int .u8 (y0.toNat : Int), .int .u8 (y1.toNat : Int), .int .u8 (y2.toNat : Int), .int .u8 (y3.toNat : Int)] 5)) := (Fr.refl _ _).alloc _
              have HSy := Lib.hid (hfy.cell HS.out id)
              have HF6 := Lib.hid (HF6a.out.alloc (.cells #[.int .u8 (y0.toNat : Int), .int .u8 (y1.toNat : Int), .int .u8 (y2.toNat : Int), .int .u8 (y3.toNat : Int)] 5))
              clear hfy
              refine HKK.out _ _ ⟨fun _ => HSy.out, ?_⟩
              clear HKK K
              try simp only [List.getElem_toArray, List.getElem_cons_succ, List.getElem_cons_zero, Act.put, List.setIfInBounds_toArray, List.set_cons_zero, List.set_cons_succ]
              refine wpAnyT_one (i := 21) rfl (by kernel_rfl) (wpOp_plain rfl rfl (fun K hK => ?_))
              simp only [List.getElem_toArray, List.getElem_cons_succ, List.getElem_cons_zero, Act.put, List.setIfInBounds_toArray, List.set_cons_zero, List.set_cons_succ]
              have HKK := Lib.hid hK
              clear hK
              have hcv := HCV.out wy
              go_wp2_with fail
              clear hcv
              refine HKK.out _ _ ⟨fun _ => HSy.out, ?_⟩
              clear HKK K
              try simp only [List.getElem_toArray, List.getElem_cons_succ, List.getElem_cons_zero, Act.put, List.setIfInBounds_toArray, List.set_cons_zero, List.set_cons_succ]
              refine wpAnyT_of_any trivial [22, 23] _ _ _ _ (by kernel_rfl) (by simp) (.inr rfl) ?_
              simp only [List.filterMap_cons, List.filterMap_nil, List.getElem?_toArray, List.getElem?_cons_zero, List.getElem?_cons_succ]
              go_wp2
              go_roundw
              case rel => exact ⟨i + 1, by omega, by rw [HAP.out], by go_num, HF6.out⟩
              case measure => simp [intOf]; omega
            · have h8 : i = 8 := by omega
              subst h8
              have HTK := Lib.hid (show outL (hz.take 8) = dig text by rw [HD.out, List.take_of_length_le (by rw [HL8.out]; omega)])
              go_wp2
              go_ret
              exact ⟨by rw [HTK.out]; rfl, HF5.out.trans HFr.out (fun i hi => hi.elim)⟩
    · have hne : ((q : Int) != 56) = true := by
        have : ¬ q = 56 := fun h => hlt (hiff.mp h)
        simp; omega
      have HK2 := Lib.hid (show k + 1 ≤ zz by omega)
      have HST := Lib.hid (show (text ++ 128 :: List.replicate k 0) ++ [0] = text ++ 128 :: List.replicate (k + 1) 0 by
        rw [List.append_assoc, List.cons_append, List.replicate_succ'])
      have hfa : Fr (fun _ => False) wr (wr.alloc (.cells #[.int .u8 0] 5)) := (Fr.refl _ _).alloc _
      have HXb := Lib.hid (HX.out.fr hfa id)
      have HFb := Lib.hid (HF.out.alloc (.cells #[.int .u8 0] 5))
      have HCb := Lib.hid (show (wr.alloc (.cells #[.int .u8 0] 5)).cell? ⟨wr.heap.size, 0, none⟩ = some (.int .u8 ((0 : UInt8).toNat : Int)) from (cell_of_row _ _ 0 _ _ _ (heap_alloc_new wr _)).trans rfl)
      have HWr := Lib.hid (show w.heap.size ≤ wr.heap.size from HF.out.size)
      clear hfa hiff hq hlt hk hL
      go_wp2_with (with_reducible refine wpList_xappend (op := ⟨some 32, _, _, _, _, _⟩) rfl _ _ rfl g cap _ HXb.out (by rw [← HXL.out]; exact hLb) L HXL.out rfl wr.heap.size 1 rfl 0 HCb.out ?_)
      intro g' cap' w' hx' hgr hat
      have HX' := Lib.hid (show XRow w' g' cap' (text ++ 128 :: List.replicate (k + 1) 0) by rw [← HST.out]; first | exact hx' | simpa using hx')
      have HG' := Lib.hid (show w.heap.size ≤ g' by have h0 := HG.out; have h1 := HWr.out; rcases hat with h | h <;> (try simp at h) <;> omega)
      have HF' := Lib.hid (HFb.out.grown hgr (fun k hk => .inr (by have := HG.out; cases hk; omega)))
      clear hx' hgr hat
      go_wp2
      go_roundw
      case rel => exact ⟨g', cap', k + 1, L + 1, HK2.out, by have := HL.out; omega, rfl, HX'.out, HG'.out, HF'.out⟩
      case measure => have := HK2.out; have := HL.out; simp; omega
end Go.Proofs.Ytcchhfkmhbjdmaa
