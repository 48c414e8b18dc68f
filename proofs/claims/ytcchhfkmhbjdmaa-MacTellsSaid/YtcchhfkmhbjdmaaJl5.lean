/- The document's digest: the rounds. -/
import Derived.Test.YtcchhfkmhbjdmaaJl0
set_option linter.unusedVariables false
set_option linter.unusedSimpArgs false
set_option pp.deepTerms true
set_option pp.maxSteps 100000
namespace Go.Proofs.Ytcchhfkmhbjdmaa
open Go.RowKit
set_option maxRecDepth 100000 in
set_option maxHeartbeats 4000000 in
theorem ref_l5 (s0 s1 s2 s3 s4 s5 s7 s8 s10 s13 s14 s15 s16 s17 s18 s19 s20 s21 s22 s23 s24 s25 s26 s27 s28 s29 s30 s31 s32 s33 s34 s35 s36 s37 s38 s39 s40 s41 s42 s43 s44 s45 s46 s47 s48 s49 s50 s51 s52 s53 s54 s55 s56 s57 s58 s59 s60 s61 s62 s63 s64 s65 s66 s67 s68 s69 s70 s71 s72 s73 s74 s75 s76 s77 s78 s79 s80 s81 s82 s83 s84 s85 s86 s87 s88 s89 s90 s91 s92 s93 s94 s95 s96 s97 s98 s99 s100 s101 s102 s103 s104 s105 s106 s107 s108 s109 s110 s111 s112 s113 s114 s115 s116 s117 s118 s119 s120 s121 s122 s123 s124 s125 s126 s127 s128 s129 s130 s131 s132 s133 s134 s135 s136 s137 s138 s139 s140 s141 s142 s143 s144 s145 s146 s147 s148 s149 s150 s151 s152 s153 s154 s155 s156 s157 s158 s159 s160 s161 s162 s163 s164 s165 s166 s167 s168 s169 s170 s171 s172 s173 s174 s175 s176 s177 s178 s179 s180 s181 s182 s183 s184 s185 s186 s187 s188 s189 s190 s191 s192 s193 s194 s195 s196 s197 s198 s199 s200 s201 s202 s203 s204 s205 s206 s207 s208 s209 s210 s211 s212 s213 s214 s215 s216 s217 s218 s219 s220 s221 s222 s223 s224 s225 s226 s227 s228 s229 s230 s231 s232 s233 s234 s235 s236 s237 s238 s239 s240 s241 s242 s243 s244 s245 s246 s247 s248 s249 s250 s251 s252 s253 s254 s255 s256 s257 s258 s259 s260 s261 s262 s263 s264 s265 s266 s267 s268 s269 s270 s271 s272 s273 s274 s275 s276 s277 s278 s279 : Value) (KB B V : Nat) (ws : List UInt32) (hws : ws.length = 64) (q0 : R8) (w : World) (hK : w.heap[KB]? = some (.cells (wcells kT ++ []).toArray 115 (0, 0))) (hB : w.heap[B]? = some (.cells (wcells ws ++ []).toArray 115 (0, 0)))
    (hKV : KB ≠ V) (hBV : B ≠ V) (hV : w.heap[V]? = some (.cells #[.int .u32 ((q0.a).toNat : Int), .int .u32 ((q0.b).toNat : Int), .int .u32 ((q0.c).toNat : Int), .int .u32 ((q0.d).toNat : Int), .int .u32 ((q0.e).toNat : Int), .int .u32 ((q0.f).toNat : Int), .int .u32 ((q0.g).toNat : Int), .int .u32 ((q0.h).toNat : Int)] 107 (0, 0))) (Q0 : Exit → Act → World → Prop)
    (hexit : ∀ (u13 u14 u151 u152 u153 u154 u155 u156 u157 u158 u159 u160 u161 u162 u163 u164 u165 u166 u167 u168 u169 u170 u171 u172 u173 u174 u175 u176 u177 u178 u179 u180 u181 u182 u183 u184 u185 u186 u187 u188 u189 u190 u191 u192 u193 u194 u195 u196 u197 u198 u199 u200 u201 u202 u203 u204 u205 u206 u207 u208 u209 u210 u211 u212 u213 u214 u215 u216 u217 u218 u219 u220 u221 u222 u223 u224 u225 u226 u227 u228 u229 u230 u231 u232 u233 u234 u235 u236 u237 u238 : Value) (w' : World), w'.heap[V]? = some (.cells #[.int .u32 (((rounds ws q0 64).a).toNat : Int), .int .u32 (((rounds ws q0 64).b).toNat : Int), .int .u32 (((rounds ws q0 64).c).toNat : Int), .int .u32 (((rounds ws q0 64).d).toNat : Int), .int .u32 (((rounds ws q0 64).e).toNat : Int), .int .u32 (((rounds ws q0 64).f).toNat : Int), .int .u32 (((rounds ws q0 64).g).toNat : Int), .int .u32 (((rounds ws q0 64).h).toNat : Int)] 107 (0, 0)) → Fr (fun i => i = V) w w' → Q0 (.exit 8) ⟨(s0 :: s1 :: s2 :: s3 :: s4 :: s5 :: .pointer (some ⟨KB, 0, none⟩) :: s7 :: s8 :: .pointer (some ⟨B, 0, none⟩) :: s10 :: .pointer (some ⟨V, 0, none⟩) :: .int .i64 (64) :: u13 :: u14 :: s15 :: s16 :: s17 :: s18 :: s19 :: s20 :: s21 :: s22 :: s23 :: s24 :: s25 :: s26 :: s27 :: s28 :: s29 :: s30 :: s31 :: s32 :: s33 :: s34 :: s35 :: s36 :: s37 :: s38 :: s39 :: s40 :: s41 :: s42 :: s43 :: s44 :: s45 :: s46 :: s47 :: s48 :: s49 :: s50 :: s51 :: s52 :: s53 :: s54 :: s55 :: s56 :: s57 :: s58 :: s59 :: s60 :: s61 :: s62 :: s63 :: s64 :: s65 :: s66 :: s67 :: s68 :: s69 :: s70 :: s71 :: s72 :: s73 :: s74 :: s75 :: s76 :: s77 :: s78 :: s79 :: s80 :: s81 :: s82 :: s83 :: s84 :: s85 :: s86 :: s87 :: s88 :: s89 :: s90 :: s91 :: s92 :: s93 :: s94 :: s95 :: s96 :: s97 :: s98 :: s99 :: s100 :: s101 :: s102 :: s103 :: s104 :: s105 :: s106 :: s107 :: s108 :: s109 :: s110 :: s111 :: s112 :: s113 :: s114 :: s115 :: s116 :: s117 :: s118 :: s119 :: s120 :: s121 :: s122 :: s123 :: s124 :: s125 :: s126 :: s127 :: s128 :: s129 :: s130 :: s131 :: s132 :: s133 :: s134 :: s135 :: s136 :: s137 :: s138 :: s139 :: s140 :: s141 :: s142 :: s143 :: s144 :: s145 :: s146 :: s147 :: s148 :: s149 :: s150 :: u151 :: u152 :: u153 :: u154 :: u155 :: u156 :: u157 :: u158 :: u159 :: u160 :: u161 :: u162 :: u163 :: u164 :: u165 :: u166 :: u167 :: u168 :: u169 :: u170 :: u171 :: u172 :: u173 :: u174 :: u175 :: u176 :: u177 :: u178 :: u179 :: u180 :: u181 :: u182 :: u183 :: u184 :: u185 :: u186 :: u187 :: u188 :: u189 :: u190 :: u191 :: u192 :: u193 :: u194 :: u195 :: u196 :: u197 :: u198 :: u199 :: u200 :: u201 :: u202 :: u203 :: u204 :: u205 :: u206 :: u207 :: u208 :: u209 :: u210 :: u211 :: u212 :: u213 :: u214 :: u215 :: u216 :: u217 :: u218 :: u219 :: u220 :: u221 :: u222 :: u223 :: u224 :: u225 :: u226 :: u227 :: u228 :: u229 :: u230 :: u231 :: u232 :: u233 :: u234 :: u235 :: u236 :: u237 :: u238 :: s239 :: s240 :: s241 :: s242 :: s243 :: s244 :: s245 :: s246 :: s247 :: s248 :: s249 :: s250 :: s251 :: s252 :: s253 :: s254 :: s255 :: s256 :: s257 :: s258 :: s259 :: s260 :: s261 :: s262 :: s263 :: s264 :: s265 :: s266 :: s267 :: s268 :: s269 :: s270 :: s271 :: s272 :: s273 :: s274 :: s275 :: s276 :: s277 :: s278 :: s279 :: []).toArray, []⟩ w') :
    Code.wp Try.prog (Code.loop (ps2 1)) Q0 ⟨(s0 :: s1 :: s2 :: s3 :: s4 :: s5 :: .pointer (some ⟨KB, 0, none⟩) :: s7 :: s8 :: .pointer (some ⟨B, 0, none⟩) :: s10 :: .pointer (some ⟨V, 0, none⟩) :: .int .i64 (0) :: s13 :: s14 :: s15 :: s16 :: s17 :: s18 :: s19 :: s20 :: s21 :: s22 :: s23 :: s24 :: s25 :: s26 :: s27 :: s28 :: s29 :: s30 :: s31 :: s32 :: s33 :: s34 :: s35 :: s36 :: s37 :: s38 :: s39 :: s40 :: s41 :: s42 :: s43 :: s44 :: s45 :: s46 :: s47 :: s48 :: s49 :: s50 :: s51 :: s52 :: s53 :: s54 :: s55 :: s56 :: s57 :: s58 :: s59 :: s60 :: s61 :: s62 :: s63 :: s64 :: s65 :: s66 :: s67 :: s68 :: s69 :: s70 :: s71 :: s72 :: s73 :: s74 :: s75 :: s76 :: s77 :: s78 :: s79 :: s80 :: s81 :: s82 :: s83 :: s84 :: s85 :: s86 :: s87 :: s88 :: s89 :: s90 :: s91 :: s92 :: s93 :: s94 :: s95 :: s96 :: s97 :: s98 :: s99 :: s100 :: s101 :: s102 :: s103 :: s104 :: s105 :: s106 :: s107 :: s108 :: s109 :: s110 :: s111 :: s112 :: s113 :: s114 :: s115 :: s116 :: s117 :: s118 :: s119 :: s120 :: s121 :: s122 :: s123 :: s124 :: s125 :: s126 :: s127 :: s128 :: s129 :: s130 :: s131 :: s132 :: s133 :: s134 :: s135 :: s136 :: s137 :: s138 :: s139 :: s140 :: s141 :: s142 :: s143 :: s144 :: s145 :: s146 :: s147 :: s148 :: s149 :: s150 :: s151 :: s152 :: s153 :: s154 :: s155 :: s156 :: s157 :: s158 :: s159 :: s160 :: s161 :: s162 :: s163 :: s164 :: s165 :: s166 :: s167 :: s168 :: s169 :: s170 :: s171 :: s172 :: s173 :: s174 :: s175 :: s176 :: s177 :: s178 :: s179 :: s180 :: s181 :: s182 :: s183 :: s184 :: s185 :: s186 :: s187 :: s188 :: s189 :: s190 :: s191 :: s192 :: s193 :: s194 :: s195 :: s196 :: s197 :: s198 :: s199 :: s200 :: s201 :: s202 :: s203 :: s204 :: s205 :: s206 :: s207 :: s208 :: s209 :: s210 :: s211 :: s212 :: s213 :: s214 :: s215 :: s216 :: s217 :: s218 :: s219 :: s220 :: s221 :: s222 :: s223 :: s224 :: s225 :: s226 :: s227 :: s228 :: s229 :: s230 :: s231 :: s232 :: s233 :: s234 :: s235 :: s236 :: s237 :: s238 :: s239 :: s240 :: s241 :: s242 :: s243 :: s244 :: s245 :: s246 :: s247 :: s248 :: s249 :: s250 :: s251 :: s252 :: s253 :: s254 :: s255 :: s256 :: s257 :: s258 :: s259 :: s260 :: s261 :: s262 :: s263 :: s264 :: s265 :: s266 :: s267 :: s268 :: s269 :: s270 :: s271 :: s272 :: s273 :: s274 :: s275 :: s276 :: s277 :: s278 :: s279 :: []).toArray, []⟩ w := by
  have HV0 := Lib.hid hV
  have HX := Lib.hid hexit
  have HK := Lib.hid hK
  have HB := Lib.hid hB
  have HWS := Lib.hid hws
  clear hV hexit hK hB hws
  conv => arg 2; arg 1; whnf
  go_loopw [12] (fun v wr => ∃ (n : Nat) (a b1 c d e f g k8 : UInt32), n ≤ 64 ∧ v = .int .i64 n ∧ rounds ws q0 n = ⟨a, b1, c, d, e, f, g, k8⟩ ∧ wr.heap[V]? = some (.cells #[.int .u32 ((a).toNat : Int), .int .u32 ((b1).toNat : Int), .int .u32 ((c).toNat : Int), .int .u32 ((d).toNat : Int), .int .u32 ((e).toNat : Int), .int .u32 ((f).toNat : Int), .int .u32 ((g).toNat : Int), .int .u32 ((k8).toNat : Int)] 107 (0, 0)) ∧ Fr (fun i => i = V) w wr) (fun v _ => 64 - (intOf v).toNat)
  case atStart => exact ⟨0, q0.a, q0.b, q0.c, q0.d, q0.e, q0.f, q0.g, q0.h, Nat.zero_le _, rfl, rfl, HV0.out, Fr.refl _ _⟩
  case round =>
    obtain ⟨n, a, b1, c, d, e, f, g, k8, hn, rfl, hr, hVl, hf⟩ := hrel
    have HR0 := Lib.hid hr
    have HVr := Lib.hid hVl
    have HF := Lib.hid hf
    clear hr hf hVl HV0
    by_cases hlt : n < 64
    · have hx64 : (n : Int) < 64 := by omega
      obtain ⟨xw, hxw⟩ : ∃ z, z = ws.getD n 0 := ⟨_, rfl⟩
      obtain ⟨kk, hkk⟩ : ∃ z, z = kT.getD n 0 := ⟨_, rfl⟩
      have ck : wr.drew.cell? ⟨KB, n, none⟩ = some (.int .u32 (kk.toNat : Int)) := wcells_cell (HF.out.heap HK.out hKV) n _ (by rw [hkk]; exact get_some32 (by rfl) n hlt)
      have cw : wr.drew.cell? ⟨B, n, none⟩ = some (.int .u32 (xw.toNat : Int)) := wcells_cell (HF.out.heap HB.out hBV) n _ (by rw [hxw]; exact get_some32 HWS.out n hlt)
      have cv0 : wr.drew.cell? ⟨V, 0, none⟩ = some (.int .u32 (a.toNat : Int)) := (cell_of_row wr.drew V 0 _ _ _ HVr.out).trans rfl
      have dv0 : wr.drew.drew.cell? ⟨V, 0, none⟩ = some (.int .u32 (a.toNat : Int)) := cv0
      have cv1 : wr.drew.cell? ⟨V, 1, none⟩ = some (.int .u32 (b1.toNat : Int)) := (cell_of_row wr.drew V 1 _ _ _ HVr.out).trans rfl
      have dv1 : wr.drew.drew.cell? ⟨V, 1, none⟩ = some (.int .u32 (b1.toNat : Int)) := cv1
      have cv2 : wr.drew.cell? ⟨V, 2, none⟩ = some (.int .u32 (c.toNat : Int)) := (cell_of_row wr.drew V 2 _ _ _ HVr.out).trans rfl
      have dv2 : wr.drew.drew.cell? ⟨V, 2, none⟩ = some (.int .u32 (c.toNat : Int)) := cv2
      have cv3 : wr.drew.cell? ⟨V, 3, none⟩ = some (.int .u32 (d.toNat : Int)) := (cell_of_row wr.drew V 3 _ _ _ HVr.out).trans rfl
      have dv3 : wr.drew.drew.cell? ⟨V, 3, none⟩ = some (.int .u32 (d.toNat : Int)) := cv3
      have cv4 : wr.drew.cell? ⟨V, 4, none⟩ = some (.int .u32 (e.toNat : Int)) := (cell_of_row wr.drew V 4 _ _ _ HVr.out).trans rfl
      have dv4 : wr.drew.drew.cell? ⟨V, 4, none⟩ = some (.int .u32 (e.toNat : Int)) := cv4
      have cv5 : wr.drew.cell? ⟨V, 5, none⟩ = some (.int .u32 (f.toNat : Int)) := (cell_of_row wr.drew V 5 _ _ _ HVr.out).trans rfl
      have dv5 : wr.drew.drew.cell? ⟨V, 5, none⟩ = some (.int .u32 (f.toNat : Int)) := cv5
      have cv6 : wr.drew.cell? ⟨V, 6, none⟩ = some (.int .u32 (g.toNat : Int)) := (cell_of_row wr.drew V 6 _ _ _ HVr.out).trans rfl
      have dv6 : wr.drew.drew.cell? ⟨V, 6, none⟩ = some (.int .u32 (g.toNat : Int)) := cv6
      have cv7 : wr.drew.cell? ⟨V, 7, none⟩ = some (.int .u32 (k8.toNat : Int)) := (cell_of_row wr.drew V 7 _ _ _ HVr.out).trans rfl
      have dv7 : wr.drew.drew.cell? ⟨V, 7, none⟩ = some (.int .u32 (k8.toNat : Int)) := cv7
      obtain ⟨r6, hr6⟩ : ∃ z, z = rr e 6 := ⟨_, rfl⟩
      have HR6 := Lib.hid (show ∀ w, Calls Try.prog 82 #[.int .u32 (e.toNat : Int), .int .u64 6] w fun e w' => e = .returned (.int .u32 (r6.toNat : Int)) ∧ w' = w from fun w => by rw [hr6]; exact turn6_calls e w)
      obtain ⟨r11, hr11⟩ : ∃ z, z = rr e 11 := ⟨_, rfl⟩
      have HR11 := Lib.hid (show ∀ w, Calls Try.prog 82 #[.int .u32 (e.toNat : Int), .int .u64 11] w fun e w' => e = .returned (.int .u32 (r11.toNat : Int)) ∧ w' = w from fun w => by rw [hr11]; exact turn11_calls e w)
      obtain ⟨r25, hr25⟩ : ∃ z, z = rr e 25 := ⟨_, rfl⟩
      have HR25 := Lib.hid (show ∀ w, Calls Try.prog 82 #[.int .u32 (e.toNat : Int), .int .u64 25] w fun e w' => e = .returned (.int .u32 (r25.toNat : Int)) ∧ w' = w from fun w => by rw [hr25]; exact turn25_calls e w)
      obtain ⟨p1, hp1⟩ : ∃ z, z = r6 ^^^ r11 := ⟨_, rfl⟩
      have ep1 : bits .xor .u32 (r6.toNat : Int) (r11.toNat : Int) = (p1.toNat : Int) := by rw [hp1]; exact xor_u32 _ _
      obtain ⟨p2, hp2⟩ : ∃ z, z = p1 ^^^ r25 := ⟨_, rfl⟩
      have ep2 : bits .xor .u32 (p1.toNat : Int) (r25.toNat : Int) = (p2.toNat : Int) := by rw [hp2]; exact xor_u32 _ _
      obtain ⟨t1, ht1⟩ : ∃ z, z = k8 + p2 := ⟨_, rfl⟩
      have et1 : IntKind.u32.wrap ((k8.toNat : Int) + (p2.toNat : Int)) = (t1.toNat : Int) := by rw [ht1]; exact addw_u32 _ _
      have ft1 : ((k8.toNat : Int) + (p2.toNat : Int)) % 4294967296 = (t1.toNat : Int) := by rw [ht1]; exact add_u32 _ _
      obtain ⟨q1, hq1⟩ : ∃ z, z = e &&& f := ⟨_, rfl⟩
      have eq1 : bits .and .u32 (e.toNat : Int) (f.toNat : Int) = (q1.toNat : Int) := by rw [hq1]; exact and_u32 _ _
      obtain ⟨ne, hne⟩ : ∃ z, z = ~~~e := ⟨_, rfl⟩
      have ene : bits .xor .u32 4294967295 (e.toNat : Int) = (ne.toNat : Int) := by rw [hne, ← not_eq]; exact xor_u32 4294967295 e
      have fne : bits .xor .u32 IntKind.u32.max (e.toNat : Int) = (ne.toNat : Int) := ene
      obtain ⟨q2, hq2⟩ : ∃ z, z = ne &&& g := ⟨_, rfl⟩
      have eq2 : bits .and .u32 (ne.toNat : Int) (g.toNat : Int) = (q2.toNat : Int) := by rw [hq2]; exact and_u32 _ _
      obtain ⟨q3, hq3⟩ : ∃ z, z = q1 ^^^ q2 := ⟨_, rfl⟩
      have eq3 : bits .xor .u32 (q1.toNat : Int) (q2.toNat : Int) = (q3.toNat : Int) := by rw [hq3]; exact xor_u32 _ _
      obtain ⟨t2, ht2⟩ : ∃ z, z = t1 + q3 := ⟨_, rfl⟩
      have et2 : IntKind.u32.wrap ((t1.toNat : Int) + (q3.toNat : Int)) = (t2.toNat : Int) := by rw [ht2]; exact addw_u32 _ _
      have ft2 : ((t1.toNat : Int) + (q3.toNat : Int)) % 4294967296 = (t2.toNat : Int) := by rw [ht2]; exact add_u32 _ _
      obtain ⟨t3, ht3⟩ : ∃ z, z = t2 + kk := ⟨_, rfl⟩
      have et3 : IntKind.u32.wrap ((t2.toNat : Int) + (kk.toNat : Int)) = (t3.toNat : Int) := by rw [ht3]; exact addw_u32 _ _
      have ft3 : ((t2.toNat : Int) + (kk.toNat : Int)) % 4294967296 = (t3.toNat : Int) := by rw [ht3]; exact add_u32 _ _
      obtain ⟨X, hX⟩ : ∃ z, z = t3 + xw := ⟨_, rfl⟩
      have eX : IntKind.u32.wrap ((t3.toNat : Int) + (xw.toNat : Int)) = (X.toNat : Int) := by rw [hX]; exact addw_u32 _ _
      have fX : ((t3.toNat : Int) + (xw.toNat : Int)) % 4294967296 = (X.toNat : Int) := by rw [hX]; exact add_u32 _ _
      obtain ⟨r2, hr2⟩ : ∃ z, z = rr a 2 := ⟨_, rfl⟩
      have HR2 := Lib.hid (show ∀ w, Calls Try.prog 82 #[.int .u32 (a.toNat : Int), .int .u64 2] w fun e w' => e = .returned (.int .u32 (r2.toNat : Int)) ∧ w' = w from fun w => by rw [hr2]; exact turn2_calls a w)
      obtain ⟨r13, hr13⟩ : ∃ z, z = rr a 13 := ⟨_, rfl⟩
      have HR13 := Lib.hid (show ∀ w, Calls Try.prog 82 #[.int .u32 (a.toNat : Int), .int .u64 13] w fun e w' => e = .returned (.int .u32 (r13.toNat : Int)) ∧ w' = w from fun w => by rw [hr13]; exact turn13_calls a w)
      obtain ⟨r22, hr22⟩ : ∃ z, z = rr a 22 := ⟨_, rfl⟩
      have HR22 := Lib.hid (show ∀ w, Calls Try.prog 82 #[.int .u32 (a.toNat : Int), .int .u64 22] w fun e w' => e = .returned (.int .u32 (r22.toNat : Int)) ∧ w' = w from fun w => by rw [hr22]; exact turn22_calls a w)
      obtain ⟨o1, ho1⟩ : ∃ z, z = r2 ^^^ r13 := ⟨_, rfl⟩
      have eo1 : bits .xor .u32 (r2.toNat : Int) (r13.toNat : Int) = (o1.toNat : Int) := by rw [ho1]; exact xor_u32 _ _
      obtain ⟨o2, ho2⟩ : ∃ z, z = o1 ^^^ r22 := ⟨_, rfl⟩
      have eo2 : bits .xor .u32 (o1.toNat : Int) (r22.toNat : Int) = (o2.toNat : Int) := by rw [ho2]; exact xor_u32 _ _
      obtain ⟨j1, hj1⟩ : ∃ z, z = a &&& b1 := ⟨_, rfl⟩
      have ej1 : bits .and .u32 (a.toNat : Int) (b1.toNat : Int) = (j1.toNat : Int) := by rw [hj1]; exact and_u32 _ _
      obtain ⟨j2, hj2⟩ : ∃ z, z = a &&& c := ⟨_, rfl⟩
      have ej2 : bits .and .u32 (a.toNat : Int) (c.toNat : Int) = (j2.toNat : Int) := by rw [hj2]; exact and_u32 _ _
      obtain ⟨j3, hj3⟩ : ∃ z, z = j1 ^^^ j2 := ⟨_, rfl⟩
      have ej3 : bits .xor .u32 (j1.toNat : Int) (j2.toNat : Int) = (j3.toNat : Int) := by rw [hj3]; exact xor_u32 _ _
      obtain ⟨j4, hj4⟩ : ∃ z, z = b1 &&& c := ⟨_, rfl⟩
      have ej4 : bits .and .u32 (b1.toNat : Int) (c.toNat : Int) = (j4.toNat : Int) := by rw [hj4]; exact and_u32 _ _
      obtain ⟨j5, hj5⟩ : ∃ z, z = j3 ^^^ j4 := ⟨_, rfl⟩
      have ej5 : bits .xor .u32 (j3.toNat : Int) (j4.toNat : Int) = (j5.toNat : Int) := by rw [hj5]; exact xor_u32 _ _
      obtain ⟨Y, hY⟩ : ∃ z, z = o2 + j5 := ⟨_, rfl⟩
      have eY : IntKind.u32.wrap ((o2.toNat : Int) + (j5.toNat : Int)) = (Y.toNat : Int) := by rw [hY]; exact addw_u32 _ _
      have fY : ((o2.toNat : Int) + (j5.toNat : Int)) % 4294967296 = (Y.toNat : Int) := by rw [hY]; exact add_u32 _ _
      obtain ⟨Z, hZ⟩ : ∃ z, z = X + Y := ⟨_, rfl⟩
      have eZ : IntKind.u32.wrap ((X.toNat : Int) + (Y.toNat : Int)) = (Z.toNat : Int) := by rw [hZ]; exact addw_u32 _ _
      have fZ : ((X.toNat : Int) + (Y.toNat : Int)) % 4294967296 = (Z.toNat : Int) := by rw [hZ]; exact add_u32 _ _
      obtain ⟨D, hD⟩ : ∃ z, z = d + X := ⟨_, rfl⟩
      have eD : IntKind.u32.wrap ((d.toNat : Int) + (X.toNat : Int)) = (D.toNat : Int) := by rw [hD]; exact addw_u32 _ _
      have fD : ((d.toNat : Int) + (X.toNat : Int)) % 4294967296 = (D.toNat : Int) := by rw [hD]; exact add_u32 _ _
      have HN := Lib.hid (show rounds ws q0 (n + 1) = ⟨Z, a, b1, c, D, e, f, g⟩ by
        rw [rounds, HR0.out, ← hxw, ← hkk, rnd_ref]
        unfold bg0 bg1
        simp only [hZ, hD, hY, hX, ht3, ht2, ht1, hp2, hp1, hq3, hq2, hq1, hne, ho2, ho1, hj5, hj4, hj3, hj2, hj1, hr2, hr6, hr11, hr13, hr22, hr25])
      have HVd := Lib.hid (show wr.drew.drew.heap[V]? = some (.cells #[.int .u32 ((a).toNat : Int), .int .u32 ((b1).toNat : Int), .int .u32 ((c).toNat : Int), .int .u32 ((d).toNat : Int), .int .u32 ((e).toNat : Int), .int .u32 ((f).toNat : Int), .int .u32 ((g).toNat : Int), .int .u32 ((k8).toNat : Int)] 107 (0, 0)) from HVr.out)
      have HV1 := Lib.hid (show (wr.drew.drew.setRow V #[.int .u32 (Z.toNat : Int), .int .u32 (a.toNat : Int), .int .u32 (b1.toNat : Int), .int .u32 (c.toNat : Int), .int .u32 (D.toNat : Int), .int .u32 (e.toNat : Int), .int .u32 (f.toNat : Int), .int .u32 (g.toNat : Int)]).heap[V]? = some (.cells #[.int .u32 (Z.toNat : Int), .int .u32 (a.toNat : Int), .int .u32 (b1.toNat : Int), .int .u32 (c.toNat : Int), .int .u32 (D.toNat : Int), .int .u32 (e.toNat : Int), .int .u32 (f.toNat : Int), .int .u32 (g.toNat : Int)] 107 (0, 0)) from setRow_heap HVd.out)
      have HF1 := Lib.hid (HF.out.drew.drew.setRow V #[.int .u32 (Z.toNat : Int), .int .u32 (a.toNat : Int), .int .u32 (b1.toNat : Int), .int .u32 (c.toNat : Int), .int .u32 (D.toNat : Int), .int .u32 (e.toNat : Int), .int .u32 (f.toNat : Int), .int .u32 (g.toNat : Int)] (.inl rfl))
      have bbxw := xw.toNat_lt
      have bbkk := kk.toNat_lt
      have bbr6 := r6.toNat_lt
      have bbr11 := r11.toNat_lt
      have bbr25 := r25.toNat_lt
      have bbp1 := p1.toNat_lt
      have bbp2 := p2.toNat_lt
      have bbt1 := t1.toNat_lt
      have bbq1 := q1.toNat_lt
      have bbne := ne.toNat_lt
      have bbq2 := q2.toNat_lt
      have bbq3 := q3.toNat_lt
      have bbt2 := t2.toNat_lt
      have bbt3 := t3.toNat_lt
      have bbX := X.toNat_lt
      have bbr2 := r2.toNat_lt
      have bbr13 := r13.toNat_lt
      have bbr22 := r22.toNat_lt
      have bbo1 := o1.toNat_lt
      have bbo2 := o2.toNat_lt
      have bbj1 := j1.toNat_lt
      have bbj2 := j2.toNat_lt
      have bbj3 := j3.toNat_lt
      have bbj4 := j4.toNat_lt
      have bbj5 := j5.toNat_lt
      have bbY := Y.toNat_lt
      have bbZ := Z.toNat_lt
      have bbD := D.toNat_lt
      have bba := a.toNat_lt
      have bbb1 := b1.toNat_lt
      have bbc := c.toNat_lt
      have bbd := d.toNat_lt
      have bbe := e.toNat_lt
      have bbf := f.toNat_lt
      have bbg := g.toNat_lt
      have bbk8 := k8.toNat_lt
      clear hxw hkk hr6 hr11 hr25 hp1 hp2 ht1 hq1 hne hq2 hq3 ht2 ht3 hX hr2 hr13 hr22 ho1 ho2 hj1 hj2 hj3 hj4 hj5 hY hZ hD
      go_wp2
      refine wp_region_still_tail 35 (by kernel_rfl) (by kernel_rfl) ?_
      simp only [List.take_succ_cons, List.take_zero, List.drop_succ_cons, List.drop_zero]
      change wpStill _ _ wr.drew (fun a' => wpList _ _ _ _ a' wr.drew) _ _
      repeat still_step
      still_call (HR6.out _)
      repeat still_step
      still_call (HR11.out _)
      repeat still_step
      still_call (HR25.out _)
      repeat still_step
      refine wpStill_nil ?_
      go_wp2
      refine wp_region_still_tail 29 (by kernel_rfl) (by kernel_rfl) ?_
      simp only [List.take_succ_cons, List.take_zero, List.drop_succ_cons, List.drop_zero]
      change wpStill _ _ wr.drew.drew (fun a' => wpList _ _ _ _ a' wr.drew.drew) _ _
      repeat still_step
      still_call (HR2.out _)
      repeat still_step
      still_call (HR13.out _)
      repeat still_step
      still_call (HR22.out _)
      repeat still_step
      refine wpStill_nil ?_
      go_wp2_with (with_reducible refine wpList_store_whole (op := ⟨none, .store 107 _ _, _, _, _, _⟩) rfl 107 _ _ rfl V 107 #[.int .u32 ((a).toNat : Int), .int .u32 ((b1).toNat : Int), .int .u32 ((c).toNat : Int), .int .u32 ((d).toNat : Int), .int .u32 ((e).toNat : Int), .int .u32 ((f).toNat : Int), .int .u32 ((g).toNat : Int), .int .u32 ((k8).toNat : Int)] #[.int .u32 (Z.toNat : Int), .int .u32 (a.toNat : Int), .int .u32 (b1.toNat : Int), .int .u32 (c.toNat : Int), .int .u32 (D.toNat : Int), .int .u32 (e.toNat : Int), .int .u32 (f.toNat : Int), .int .u32 (g.toNat : Int)] rfl rfl HVd.out rfl (by kernel_rfl) (by simp [Value.oneCell']) ?_)
      go_roundw
      case rel => exact ⟨n + 1, Z, a, b1, c, D, e, f, g, by omega, by go_num, HN.out, HV1.out, HF1.out⟩
      case measure => simp [intOf]; omega
    · have h64 : n = 64 := by omega
      subst h64
      have HX2 := HX.out
      rw [HR0.out] at HX2
      have HX3 := Lib.hid HX2
      clear HX2 HX
      go_wp2
      exact HX3.out _ _ _ _ _ _ _ _ _ _ _ _ _ _ _ _ _ _ _ _ _ _ _ _ _ _ _ _ _ _ _ _ _ _ _ _ _ _ _ _ _ _ _ _ _ _ _ _ _ _ _ _ _ _ _ _ _ _ _ _ _ _ _ _ _ _ _ _ _ _ _ _ _ _ _ _ _ _ _ _ _ _ _ _ _ _ _ _ _ _ _ HVr.out HF.out
end Go.Proofs.Ytcchhfkmhbjdmaa
