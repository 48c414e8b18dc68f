/- The document's digest: the schedule. -/
import Derived.Test.YtcchhfkmhbjdmaaJl0
set_option linter.unusedVariables false
set_option linter.unusedSimpArgs false
set_option pp.deepTerms true
set_option pp.maxSteps 100000
namespace Go.Proofs.Ytcchhfkmhbjdmaa
open Go.RowKit
set_option maxRecDepth 100000 in
set_option maxHeartbeats 4000000 in
theorem ref_l4 (s0 s1 s2 s4 s5 s6 s7 s11 s12 s13 s14 s15 s16 s17 s18 s19 s20 s21 s22 s23 s24 s25 s26 s27 s28 s29 s30 s31 s32 s33 s34 s35 s36 s37 s38 s39 s40 s41 s42 s43 s44 s45 s46 s47 s48 s49 s50 s51 s52 s53 s54 s55 s56 s57 s58 s59 s60 s61 s62 s63 s64 s65 s66 s67 s68 s69 s70 s71 s72 s73 s74 s75 s76 s77 s78 s79 s80 s81 s82 s83 s84 s85 s86 s87 s88 s89 s90 s91 s92 s93 s94 s95 s96 s97 s98 s99 s100 s101 s102 s103 s104 s105 s106 s107 s108 s109 s110 s111 s112 s113 s114 s115 s116 s117 s118 s119 s120 s121 s122 s123 s124 s125 s126 s127 s128 s129 s130 s131 s132 s133 s134 s135 s136 s137 s138 s139 s140 s141 s142 s143 s144 s145 s146 s147 s148 s149 s150 s151 s152 s153 s154 s155 s156 s157 s158 s159 s160 s161 s162 s163 s164 s165 s166 s167 s168 s169 s170 s171 s172 s173 s174 s175 s176 s177 s178 s179 s180 s181 s182 s183 s184 s185 s186 s187 s188 s189 s190 s191 s192 s193 s194 s195 s196 s197 s198 s199 s200 s201 s202 s203 s204 s205 s206 s207 s208 s209 s210 s211 s212 s213 s214 s215 s216 s217 s218 s219 s220 s221 s222 s223 s224 s225 s226 s227 s228 s229 s230 s231 s232 s233 s234 s235 s236 s237 s238 s239 s240 s241 s242 s243 s244 s245 s246 s247 s248 s249 s250 s251 s252 s253 s254 s255 s256 s257 s258 s259 s260 s261 s262 s263 s264 s265 s266 s267 s268 s269 s270 s271 s272 s273 s274 s275 s276 s277 s278 s279 : Value) (g L cap a B : Nat) (msg : List UInt8) (hL : L = msg.length) (hLb : L ≤ 1000000) (ha : a + 64 ≤ L) (w : World) (hm : ∀ k x, msg[k]? = some x → w.cell? ⟨g, k, none⟩ = some (.int .u8 (x.toNat : Int))) (hgB : g ≠ B)
    (hB : w.heap[B]? = some (.cells (wcells (List.replicate 64 0) ++ []).toArray 115 (0, 0))) (Q0 : Exit → Act → World → Prop)
    (hexit : ∀ (u54 u55 u56 u57 u58 u59 u60 u61 u62 u63 u64 u65 u66 u67 u68 u69 u70 u71 u72 u73 u74 u75 u76 u77 u78 u79 u80 u81 u82 u83 u84 u85 u86 u87 u88 u89 u90 u91 u92 u93 u94 u95 u96 u97 u98 u99 u100 u101 u102 u103 u104 u105 u106 u107 u108 u109 u110 u111 u112 u113 u114 u115 u116 u117 u118 u119 u120 u121 u122 u123 u124 u125 u126 u127 u128 u129 u130 u131 u132 u133 u134 u135 u136 u137 u138 u139 u140 u141 u142 u143 u144 u145 u146 u147 u148 u149 : Value) (w' : World), w'.heap[B]? = some (.cells (wcells (sws (blk msg a) 64) ++ []).toArray 115 (0, 0)) → Fr (fun i => i = B) w w' → Q0 (.exit 6) ⟨(s0 :: s1 :: s2 :: .slice (some ⟨g, 0, none⟩) L cap :: s4 :: s5 :: s6 :: s7 :: .int .i64 (a : Int) :: .pointer (some ⟨B, 0, none⟩) :: .int .i64 (64) :: s11 :: s12 :: s13 :: s14 :: s15 :: s16 :: s17 :: s18 :: s19 :: s20 :: s21 :: s22 :: s23 :: s24 :: s25 :: s26 :: s27 :: s28 :: s29 :: s30 :: s31 :: s32 :: s33 :: s34 :: s35 :: s36 :: s37 :: s38 :: s39 :: s40 :: s41 :: s42 :: s43 :: s44 :: s45 :: s46 :: s47 :: s48 :: s49 :: s50 :: s51 :: s52 :: s53 :: u54 :: u55 :: u56 :: u57 :: u58 :: u59 :: u60 :: u61 :: u62 :: u63 :: u64 :: u65 :: u66 :: u67 :: u68 :: u69 :: u70 :: u71 :: u72 :: u73 :: u74 :: u75 :: u76 :: u77 :: u78 :: u79 :: u80 :: u81 :: u82 :: u83 :: u84 :: u85 :: u86 :: u87 :: u88 :: u89 :: u90 :: u91 :: u92 :: u93 :: u94 :: u95 :: u96 :: u97 :: u98 :: u99 :: u100 :: u101 :: u102 :: u103 :: u104 :: u105 :: u106 :: u107 :: u108 :: u109 :: u110 :: u111 :: u112 :: u113 :: u114 :: u115 :: u116 :: u117 :: u118 :: u119 :: u120 :: u121 :: u122 :: u123 :: u124 :: u125 :: u126 :: u127 :: u128 :: u129 :: u130 :: u131 :: u132 :: u133 :: u134 :: u135 :: u136 :: u137 :: u138 :: u139 :: u140 :: u141 :: u142 :: u143 :: u144 :: u145 :: u146 :: u147 :: u148 :: u149 :: s150 :: s151 :: s152 :: s153 :: s154 :: s155 :: s156 :: s157 :: s158 :: s159 :: s160 :: s161 :: s162 :: s163 :: s164 :: s165 :: s166 :: s167 :: s168 :: s169 :: s170 :: s171 :: s172 :: s173 :: s174 :: s175 :: s176 :: s177 :: s178 :: s179 :: s180 :: s181 :: s182 :: s183 :: s184 :: s185 :: s186 :: s187 :: s188 :: s189 :: s190 :: s191 :: s192 :: s193 :: s194 :: s195 :: s196 :: s197 :: s198 :: s199 :: s200 :: s201 :: s202 :: s203 :: s204 :: s205 :: s206 :: s207 :: s208 :: s209 :: s210 :: s211 :: s212 :: s213 :: s214 :: s215 :: s216 :: s217 :: s218 :: s219 :: s220 :: s221 :: s222 :: s223 :: s224 :: s225 :: s226 :: s227 :: s228 :: s229 :: s230 :: s231 :: s232 :: s233 :: s234 :: s235 :: s236 :: s237 :: s238 :: s239 :: s240 :: s241 :: s242 :: s243 :: s244 :: s245 :: s246 :: s247 :: s248 :: s249 :: s250 :: s251 :: s252 :: s253 :: s254 :: s255 :: s256 :: s257 :: s258 :: s259 :: s260 :: s261 :: s262 :: s263 :: s264 :: s265 :: s266 :: s267 :: s268 :: s269 :: s270 :: s271 :: s272 :: s273 :: s274 :: s275 :: s276 :: s277 :: s278 :: s279 :: []).toArray, []⟩ w') :
    Code.wp Try.prog (Code.loop (ps2 0)) Q0 ⟨(s0 :: s1 :: s2 :: .slice (some ⟨g, 0, none⟩) L cap :: s4 :: s5 :: s6 :: s7 :: .int .i64 (a : Int) :: .pointer (some ⟨B, 0, none⟩) :: .int .i64 (0) :: s11 :: s12 :: s13 :: s14 :: s15 :: s16 :: s17 :: s18 :: s19 :: s20 :: s21 :: s22 :: s23 :: s24 :: s25 :: s26 :: s27 :: s28 :: s29 :: s30 :: s31 :: s32 :: s33 :: s34 :: s35 :: s36 :: s37 :: s38 :: s39 :: s40 :: s41 :: s42 :: s43 :: s44 :: s45 :: s46 :: s47 :: s48 :: s49 :: s50 :: s51 :: s52 :: s53 :: s54 :: s55 :: s56 :: s57 :: s58 :: s59 :: s60 :: s61 :: s62 :: s63 :: s64 :: s65 :: s66 :: s67 :: s68 :: s69 :: s70 :: s71 :: s72 :: s73 :: s74 :: s75 :: s76 :: s77 :: s78 :: s79 :: s80 :: s81 :: s82 :: s83 :: s84 :: s85 :: s86 :: s87 :: s88 :: s89 :: s90 :: s91 :: s92 :: s93 :: s94 :: s95 :: s96 :: s97 :: s98 :: s99 :: s100 :: s101 :: s102 :: s103 :: s104 :: s105 :: s106 :: s107 :: s108 :: s109 :: s110 :: s111 :: s112 :: s113 :: s114 :: s115 :: s116 :: s117 :: s118 :: s119 :: s120 :: s121 :: s122 :: s123 :: s124 :: s125 :: s126 :: s127 :: s128 :: s129 :: s130 :: s131 :: s132 :: s133 :: s134 :: s135 :: s136 :: s137 :: s138 :: s139 :: s140 :: s141 :: s142 :: s143 :: s144 :: s145 :: s146 :: s147 :: s148 :: s149 :: s150 :: s151 :: s152 :: s153 :: s154 :: s155 :: s156 :: s157 :: s158 :: s159 :: s160 :: s161 :: s162 :: s163 :: s164 :: s165 :: s166 :: s167 :: s168 :: s169 :: s170 :: s171 :: s172 :: s173 :: s174 :: s175 :: s176 :: s177 :: s178 :: s179 :: s180 :: s181 :: s182 :: s183 :: s184 :: s185 :: s186 :: s187 :: s188 :: s189 :: s190 :: s191 :: s192 :: s193 :: s194 :: s195 :: s196 :: s197 :: s198 :: s199 :: s200 :: s201 :: s202 :: s203 :: s204 :: s205 :: s206 :: s207 :: s208 :: s209 :: s210 :: s211 :: s212 :: s213 :: s214 :: s215 :: s216 :: s217 :: s218 :: s219 :: s220 :: s221 :: s222 :: s223 :: s224 :: s225 :: s226 :: s227 :: s228 :: s229 :: s230 :: s231 :: s232 :: s233 :: s234 :: s235 :: s236 :: s237 :: s238 :: s239 :: s240 :: s241 :: s242 :: s243 :: s244 :: s245 :: s246 :: s247 :: s248 :: s249 :: s250 :: s251 :: s252 :: s253 :: s254 :: s255 :: s256 :: s257 :: s258 :: s259 :: s260 :: s261 :: s262 :: s263 :: s264 :: s265 :: s266 :: s267 :: s268 :: s269 :: s270 :: s271 :: s272 :: s273 :: s274 :: s275 :: s276 :: s277 :: s278 :: s279 :: []).toArray, []⟩ w := by
  have HB0 := Lib.hid hB
  have HX := Lib.hid hexit
  have HM := Lib.hid hm
  have HL := Lib.hid hL
  have HA := Lib.hid ha
  clear hB hexit hm hL ha
  obtain ⟨b, hbd⟩ : ∃ b, b = blk msg a := ⟨_, rfl⟩
  have HBD := Lib.hid hbd
  rw [← hbd] at HX
  clear hbd
  conv => arg 2; arg 1; whnf
  go_loopw [10] (fun v wr => ∃ i : Nat, i ≤ 64 ∧ v = .int .i64 i ∧ wr.heap[B]? = some (.cells (wcells (sws b i ++ List.replicate (64 - i) 0) ++ []).toArray 115 (0, 0)) ∧ Fr (fun i => i = B) w wr) (fun v _ => 64 - (intOf v).toNat)
  case atStart => exact ⟨0, Nat.zero_le _, rfl, HB0.out, Fr.refl _ _⟩
  case round =>
    obtain ⟨i, hi, rfl, hBl, hf⟩ := hrel
    have HB := Lib.hid hBl
    have HF := Lib.hid hf
    clear hBl hf HB0
    by_cases hlt : i < 64
    · have hx64 : (i : Int) < 64 := by omega
      by_cases h16 : i < 16
      · have hd16 : decide ((i : Int) < 16) = true := decide_eq_true (by omega)
        have hdi : (i : Int) < 16 := by omega
        obtain ⟨i4, hi4⟩ : ∃ n, n = 4 * i := ⟨_, rfl⟩
        obtain ⟨n0, hn0⟩ : ∃ n, n = a + 4 * i := ⟨_, rfl⟩
        have ha := HA.out
        have hwi : IntKind.i64.wrap (4 * (i : Int)) = (i4 : Int) := by rw [IntWalk.i64_in _ (by omega)]; omega
        have hwn : IntKind.i64.wrap ((a : Int) + (i4 : Int)) = (n0 : Int) := by rw [IntWalk.i64_in _ (by omega)]; omega
        obtain ⟨n1, hn1⟩ : ∃ n, n = a + 4 * i + 1 := ⟨_, rfl⟩
        have hw1 : IntKind.i64.wrap ((n0 : Int) + 1) = (n1 : Int) := by rw [IntWalk.i64_in _ (by omega)]; omega
        obtain ⟨n2, hn2⟩ : ∃ n, n = a + 4 * i + 2 := ⟨_, rfl⟩
        have hw2 : IntKind.i64.wrap ((n0 : Int) + 2) = (n2 : Int) := by rw [IntWalk.i64_in _ (by omega)]; omega
        obtain ⟨n3, hn3⟩ : ∃ n, n = a + 4 * i + 3 := ⟨_, rfl⟩
        have hw3 : IntKind.i64.wrap ((n0 : Int) + 3) = (n3 : Int) := by rw [IntWalk.i64_in _ (by omega)]; omega
        have l0 : (n0 : Int) < (L : Int) := by omega
        obtain ⟨x0, hx0⟩ : ∃ x, x = msg.getD n0 0 := ⟨_, rfl⟩
        have c0 : wr.drew.cell? ⟨g, n0, none⟩ = some (.int .u8 (x0.toNat : Int)) := HF.out.cell (HM.out n0 x0 (by
          have h := HL.out
          rw [hx0, List.getD_eq_getElem?_getD, List.getElem?_eq_getElem (by omega)]; rfl)) hgB
        have l1 : (n1 : Int) < (L : Int) := by omega
        obtain ⟨x1, hx1⟩ : ∃ x, x = msg.getD n1 0 := ⟨_, rfl⟩
        have c1 : wr.drew.cell? ⟨g, n1, none⟩ = some (.int .u8 (x1.toNat : Int)) := HF.out.cell (HM.out n1 x1 (by
          have h := HL.out
          rw [hx1, List.getD_eq_getElem?_getD, List.getElem?_eq_getElem (by omega)]; rfl)) hgB
        have l2 : (n2 : Int) < (L : Int) := by omega
        obtain ⟨x2, hx2⟩ : ∃ x, x = msg.getD n2 0 := ⟨_, rfl⟩
        have c2 : wr.drew.cell? ⟨g, n2, none⟩ = some (.int .u8 (x2.toNat : Int)) := HF.out.cell (HM.out n2 x2 (by
          have h := HL.out
          rw [hx2, List.getD_eq_getElem?_getD, List.getElem?_eq_getElem (by omega)]; rfl)) hgB
        have l3 : (n3 : Int) < (L : Int) := by omega
        obtain ⟨x3, hx3⟩ : ∃ x, x = msg.getD n3 0 := ⟨_, rfl⟩
        have c3 : wr.drew.cell? ⟨g, n3, none⟩ = some (.int .u8 (x3.toNat : Int)) := HF.out.cell (HM.out n3 x3 (by
          have h := HL.out
          rw [hx3, List.getD_eq_getElem?_getD, List.getElem?_eq_getElem (by omega)]; rfl)) hgB
        obtain ⟨y0, hy0⟩ : ∃ y, y = x0.toUInt32 <<< 24 := ⟨_, rfl⟩
        have es0 : (x0.toNat : Int) * 16777216 = (y0.toNat : Int) := by
          have h1 := shl_u32 x0.toUInt32 24 24 rfl (by omega)
          rw [← u8_32, ← hy0] at h1
          have h2 := x0.toNat_lt
          rw [← h1]; simp only [Nat.reducePow]; omega
        obtain ⟨y1, hy1⟩ : ∃ y, y = x1.toUInt32 <<< 16 := ⟨_, rfl⟩
        have es1 : (x1.toNat : Int) * 65536 = (y1.toNat : Int) := by
          have h1 := shl_u32 x1.toUInt32 16 16 rfl (by omega)
          rw [← u8_32, ← hy1] at h1
          have h2 := x1.toNat_lt
          rw [← h1]; simp only [Nat.reducePow]; omega
        obtain ⟨y2, hy2⟩ : ∃ y, y = x2.toUInt32 <<< 8 := ⟨_, rfl⟩
        have es2 : (x2.toNat : Int) * 256 = (y2.toNat : Int) := by
          have h1 := shl_u32 x2.toUInt32 8 8 rfl (by omega)
          rw [← u8_32, ← hy2] at h1
          have h2 := x2.toNat_lt
          rw [← h1]; simp only [Nat.reducePow]; omega
        have bx0 := x0.toNat_lt
        have bx1 := x1.toNat_lt
        have bx2 := x2.toNat_lt
        have bx3 := x3.toNat_lt
        obtain ⟨z1, hz1⟩ : ∃ z, z = y0 + y1 := ⟨_, rfl⟩
        have ez1 := add_small y0 y1 z1 hz1 (by omega)
        obtain ⟨z2, hz2⟩ : ∃ z, z = z1 + y2 := ⟨_, rfl⟩
        have ez2 := add_small z1 y2 z2 hz2 (by omega)
        obtain ⟨z3, hz3⟩ : ∃ z, z = z2 + x3.toUInt32 := ⟨_, rfl⟩
        have ez3 : (z2.toNat : Int) + (x3.toNat : Int) = (z3.toNat : Int) := by
          rw [u8_32]; exact add_small z2 x3.toUInt32 z3 hz3 (by have : x3.toUInt32.toNat = x3.toNat := by simp
                                                                omega)
        have hv : nextW b (sws b i) i = z3 := by
          rw [HBD.out, nextW_lo msg a _ i h16, hz3, hz2, hz1, hy0, hy1, hy2, hx0, hx1, hx2, hx3, hn0, hn1, hn2, hn3]
        have c9 : wr.drew.cell? ⟨B, i, none⟩ = some (.int .u32 (((sws b i ++ List.replicate (64 - i) 0).getD i 0).toNat : Int)) := wcells_cell (w := wr.drew) HB.out i _ (sws_at b i (by omega))
        have hz' : wr.drew.frozen? ⟨B, i, none⟩ = false := frozen_of_row wr _ _ _ _ HB.out
        have HB1 := Lib.hid (show (wr.drew.setCell ⟨B, i, none⟩ (.int .u32 (z3.toNat : Int))).heap[B]? = some (.cells (wcells (sws b (i + 1) ++ List.replicate (64 - (i + 1)) 0) ++ []).toArray 115 (0, 0)) by
          have h := wcells_set (w := wr.drew) HB.out i (by rw [sws_len b i (by omega)]; omega) z3
          rw [← hv, sws_step b i (by omega), hv] at h
          exact h)
        have HF1 := Lib.hid (HF.out.drew.setCell ⟨B, i, none⟩ (.int .u32 (z3.toNat : Int)) (.inl rfl))
        have bby0 := y0.toNat_lt
        have bby1 := y1.toNat_lt
        have bby2 := y2.toNat_lt
        have bbz1 := z1.toNat_lt
        have bbz2 := z2.toNat_lt
        have bbz3 := z3.toNat_lt
        clear hy0 hy1 hy2 hz1 hz2 hz3 hx0 hx1 hx2 hx3 hi4 hn0 hn1 hn2 hn3 hv ha h16
        go_wp2
        refine wp_region_still_tail 43 (by kernel_rfl) (by kernel_rfl) ?_
        simp only [List.take_succ_cons, List.take_zero, List.drop_succ_cons, List.drop_zero]
        change wpStill _ _ wr.drew (fun a' => wpList _ _ _ _ a' wr.drew) _ _
        repeat still_step
        refine wpStill_nil ?_
        go_wp2
        go_roundw
        case rel => exact ⟨i + 1, by omega, by go_num, HB1.out, HF1.out⟩
        case measure => simp [intOf]; omega
      · have hd16 : decide ((i : Int) < 16) = false := decide_eq_false (by omega)
        have hdi : ¬ (i : Int) < 16 := by omega
        obtain ⟨m15, hm15⟩ : ∃ n, n = i - 15 := ⟨_, rfl⟩
        obtain ⟨x15, hx15⟩ : ∃ x, x = (sws b i).getD (i - 15) 0 := ⟨_, rfl⟩
        have hw15 : IntKind.i64.wrap ((i : Int) - 15) = (m15 : Int) := by rw [IntWalk.i64_in _ (by omega)]; omega
        have l15 : (m15 : Int) < 64 := by omega
        have c15 : wr.drew.cell? ⟨B, m15, none⟩ = some (.int .u32 (x15.toNat : Int)) := wcells_cell (w := wr.drew) HB.out m15 _ (by rw [hx15, hm15]; exact sws_old b i _ (by omega) (by omega))
        obtain ⟨m2, hm2⟩ : ∃ n, n = i - 2 := ⟨_, rfl⟩
        obtain ⟨x2, hx2⟩ : ∃ x, x = (sws b i).getD (i - 2) 0 := ⟨_, rfl⟩
        have hw2 : IntKind.i64.wrap ((i : Int) - 2) = (m2 : Int) := by rw [IntWalk.i64_in _ (by omega)]; omega
        have l2 : (m2 : Int) < 64 := by omega
        have c2 : wr.drew.cell? ⟨B, m2, none⟩ = some (.int .u32 (x2.toNat : Int)) := wcells_cell (w := wr.drew) HB.out m2 _ (by rw [hx2, hm2]; exact sws_old b i _ (by omega) (by omega))
        obtain ⟨m16, hm16⟩ : ∃ n, n = i - 16 := ⟨_, rfl⟩
        obtain ⟨x16, hx16⟩ : ∃ x, x = (sws b i).getD (i - 16) 0 := ⟨_, rfl⟩
        have hw16 : IntKind.i64.wrap ((i : Int) - 16) = (m16 : Int) := by rw [IntWalk.i64_in _ (by omega)]; omega
        have l16 : (m16 : Int) < 64 := by omega
        have c16 : wr.drew.cell? ⟨B, m16, none⟩ = some (.int .u32 (x16.toNat : Int)) := wcells_cell (w := wr.drew) HB.out m16 _ (by rw [hx16, hm16]; exact sws_old b i _ (by omega) (by omega))
        obtain ⟨m7, hm7⟩ : ∃ n, n = i - 7 := ⟨_, rfl⟩
        obtain ⟨x7, hx7⟩ : ∃ x, x = (sws b i).getD (i - 7) 0 := ⟨_, rfl⟩
        have hw7 : IntKind.i64.wrap ((i : Int) - 7) = (m7 : Int) := by rw [IntWalk.i64_in _ (by omega)]; omega
        have l7 : (m7 : Int) < 64 := by omega
        have c7 : wr.drew.cell? ⟨B, m7, none⟩ = some (.int .u32 (x7.toNat : Int)) := wcells_cell (w := wr.drew) HB.out m7 _ (by rw [hx7, hm7]; exact sws_old b i _ (by omega) (by omega))
        obtain ⟨s3, hs3⟩ : ∃ z, z = x15 >>> 3 := ⟨_, rfl⟩
        obtain ⟨s10, hs10⟩ : ∃ z, z = x2 >>> 10 := ⟨_, rfl⟩
        have es3 : (x15.toNat : Int) / 8 = (s3.toNat : Int) := by rw [hs3]; exact shr_u32 x15 3 3 rfl (by omega)
        have es10 : (x2.toNat : Int) / 1024 = (s10.toNat : Int) := by rw [hs10]; exact shr_u32 x2 10 10 rfl (by omega)
        obtain ⟨r17, hr17⟩ : ∃ z, z = rr x2 17 := ⟨_, rfl⟩
        have HR17 := Lib.hid (show ∀ w, Calls Try.prog 82 #[.int .u32 (x2.toNat : Int), .int .u64 17] w fun e w' => e = .returned (.int .u32 (r17.toNat : Int)) ∧ w' = w from fun w => by rw [hr17]; exact turn17_calls x2 w)
        obtain ⟨r19, hr19⟩ : ∃ z, z = rr x2 19 := ⟨_, rfl⟩
        have HR19 := Lib.hid (show ∀ w, Calls Try.prog 82 #[.int .u32 (x2.toNat : Int), .int .u64 19] w fun e w' => e = .returned (.int .u32 (r19.toNat : Int)) ∧ w' = w from fun w => by rw [hr19]; exact turn19_calls x2 w)
        obtain ⟨r7, hr7⟩ : ∃ z, z = rr x15 7 := ⟨_, rfl⟩
        have HR7 := Lib.hid (show ∀ w, Calls Try.prog 82 #[.int .u32 (x15.toNat : Int), .int .u64 7] w fun e w' => e = .returned (.int .u32 (r7.toNat : Int)) ∧ w' = w from fun w => by rw [hr7]; exact turn7_calls x15 w)
        obtain ⟨r18, hr18⟩ : ∃ z, z = rr x15 18 := ⟨_, rfl⟩
        have HR18 := Lib.hid (show ∀ w, Calls Try.prog 82 #[.int .u32 (x15.toNat : Int), .int .u64 18] w fun e w' => e = .returned (.int .u32 (r18.toNat : Int)) ∧ w' = w from fun w => by rw [hr18]; exact turn18_calls x15 w)
        obtain ⟨q1, hq1⟩ : ∃ z, z = r17 ^^^ r19 := ⟨_, rfl⟩
        have eq1 : bits .xor .u32 (r17.toNat : Int) (r19.toNat : Int) = (q1.toNat : Int) := by rw [hq1]; exact xor_u32 _ _
        obtain ⟨q2, hq2⟩ : ∃ z, z = q1 ^^^ s10 := ⟨_, rfl⟩
        have eq2 : bits .xor .u32 (q1.toNat : Int) (s10.toNat : Int) = (q2.toNat : Int) := by rw [hq2]; exact xor_u32 _ _
        obtain ⟨t1, ht1⟩ : ∃ z, z = q2 + x7 := ⟨_, rfl⟩
        have et1 : IntKind.u32.wrap ((q2.toNat : Int) + (x7.toNat : Int)) = (t1.toNat : Int) := by rw [ht1]; exact addw_u32 _ _
        have ft1 : ((q2.toNat : Int) + (x7.toNat : Int)) % 4294967296 = (t1.toNat : Int) := by rw [ht1]; exact add_u32 _ _
        obtain ⟨p1, hp1⟩ : ∃ z, z = r7 ^^^ r18 := ⟨_, rfl⟩
        have ep1 : bits .xor .u32 (r7.toNat : Int) (r18.toNat : Int) = (p1.toNat : Int) := by rw [hp1]; exact xor_u32 _ _
        obtain ⟨p2, hp2⟩ : ∃ z, z = p1 ^^^ s3 := ⟨_, rfl⟩
        have ep2 : bits .xor .u32 (p1.toNat : Int) (s3.toNat : Int) = (p2.toNat : Int) := by rw [hp2]; exact xor_u32 _ _
        obtain ⟨t2, ht2⟩ : ∃ z, z = t1 + p2 := ⟨_, rfl⟩
        have et2 : IntKind.u32.wrap ((t1.toNat : Int) + (p2.toNat : Int)) = (t2.toNat : Int) := by rw [ht2]; exact addw_u32 _ _
        have ft2 : ((t1.toNat : Int) + (p2.toNat : Int)) % 4294967296 = (t2.toNat : Int) := by rw [ht2]; exact add_u32 _ _
        obtain ⟨z3, hz3⟩ : ∃ z, z = t2 + x16 := ⟨_, rfl⟩
        have ez3 : IntKind.u32.wrap ((t2.toNat : Int) + (x16.toNat : Int)) = (z3.toNat : Int) := by rw [hz3]; exact addw_u32 _ _
        have fz3 : ((t2.toNat : Int) + (x16.toNat : Int)) % 4294967296 = (z3.toNat : Int) := by rw [hz3]; exact add_u32 _ _
        have hv : nextW b (sws b i) i = z3 := by
          rw [nextW_hi b _ i h16]
          unfold sg0 sg1
          rw [← hx16, ← hx15, ← hx7, ← hx2, hz3, ht2, ht1, hq2, hq1, hp2, hp1, hr7, hr18, hr17, hr19, hs3, hs10]
        have c9 : wr.drew.cell? ⟨B, i, none⟩ = some (.int .u32 (((sws b i ++ List.replicate (64 - i) 0).getD i 0).toNat : Int)) := wcells_cell (w := wr.drew) HB.out i _ (sws_at b i (by omega))
        have hz' : wr.drew.frozen? ⟨B, i, none⟩ = false := frozen_of_row wr _ _ _ _ HB.out
        have HB1 := Lib.hid (show (wr.drew.setCell ⟨B, i, none⟩ (.int .u32 (z3.toNat : Int))).heap[B]? = some (.cells (wcells (sws b (i + 1) ++ List.replicate (64 - (i + 1)) 0) ++ []).toArray 115 (0, 0)) by
          have h := wcells_set (w := wr.drew) HB.out i (by rw [sws_len b i (by omega)]; omega) z3
          rw [← hv, sws_step b i (by omega), hv] at h
          exact h)
        have HF1 := Lib.hid (HF.out.drew.setCell ⟨B, i, none⟩ (.int .u32 (z3.toNat : Int)) (.inl rfl))
        have bbs3 := s3.toNat_lt
        have bbs10 := s10.toNat_lt
        have bbr17 := r17.toNat_lt
        have bbr19 := r19.toNat_lt
        have bbr7 := r7.toNat_lt
        have bbr18 := r18.toNat_lt
        have bbq1 := q1.toNat_lt
        have bbq2 := q2.toNat_lt
        have bbt1 := t1.toNat_lt
        have bbp1 := p1.toNat_lt
        have bbp2 := p2.toNat_lt
        have bbt2 := t2.toNat_lt
        have bbz3 := z3.toNat_lt
        have bbx15 := x15.toNat_lt
        have bbx2 := x2.toNat_lt
        have bbx16 := x16.toNat_lt
        have bbx7 := x7.toNat_lt
        clear hs3 hs10 hr17 hr19 hr7 hr18 hq1 hq2 ht1 hp1 hp2 ht2 hz3 hx15 hx2 hx16 hx7 hm15 hm2 hm16 hm7 hv h16
        go_wp2
        refine wp_region_still_tail 47 (by kernel_rfl) (by kernel_rfl) ?_
        simp only [List.take_succ_cons, List.take_zero, List.drop_succ_cons, List.drop_zero]
        change wpStill _ _ wr.drew (fun a' => wpList _ _ _ _ a' wr.drew) _ _
        repeat still_step
        still_call (HR17.out _)
        repeat still_step
        still_call (HR19.out _)
        repeat still_step
        still_call (HR7.out _)
        repeat still_step
        still_call (HR18.out _)
        repeat still_step
        refine wpStill_nil ?_
        go_wp2
        go_roundw
        case rel => exact ⟨i + 1, by omega, by go_num, HB1.out, HF1.out⟩
        case measure => simp [intOf]; omega
    · have h64 : i = 64 := by omega
      subst h64
      have HBz := Lib.hid (show wr.heap[B]? = some (.cells (wcells (sws b 64) ++ []).toArray 115 (0, 0)) by have := HB.out; simpa using this)
      go_wp2
      exact HX.out _ _ _ _ _ _ _ _ _ _ _ _ _ _ _ _ _ _ _ _ _ _ _ _ _ _ _ _ _ _ _ _ _ _ _ _ _ _ _ _ _ _ _ _ _ _ _ _ _ _ _ _ _ _ _ _ _ _ _ _ _ _ _ _ _ _ _ _ _ _ _ _ _ _ _ _ _ _ _ _ _ _ _ _ _ _ _ _ _ _ _ _ _ _ _ _ _ HBz.out HF.out
end Go.Proofs.Ytcchhfkmhbjdmaa
