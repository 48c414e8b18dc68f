/- The document's digest: the sums. -/
import Derived.Test.YtcchhfkmhbjdmaaJl0
set_option linter.unusedVariables false
set_option linter.unusedSimpArgs false
set_option pp.deepTerms true
set_option pp.maxSteps 100000
namespace Go.Proofs.Ytcchhfkmhbjdmaa
open Go.RowKit
set_option maxRecDepth 100000 in
set_option maxHeartbeats 4000000 in
theorem ref_l6 (s0 s1 s2 s3 s4 s5 s6 s8 s9 s10 s12 s13 s14 s16 s17 s18 s19 s20 s21 s22 s23 s24 s25 s26 s27 s28 s29 s30 s31 s32 s33 s34 s35 s36 s37 s38 s39 s40 s41 s42 s43 s44 s45 s46 s47 s48 s49 s50 s51 s52 s53 s54 s55 s56 s57 s58 s59 s60 s61 s62 s63 s64 s65 s66 s67 s68 s69 s70 s71 s72 s73 s74 s75 s76 s77 s78 s79 s80 s81 s82 s83 s84 s85 s86 s87 s88 s89 s90 s91 s92 s93 s94 s95 s96 s97 s98 s99 s100 s101 s102 s103 s104 s105 s106 s107 s108 s109 s110 s111 s112 s113 s114 s115 s116 s117 s118 s119 s120 s121 s122 s123 s124 s125 s126 s127 s128 s129 s130 s131 s132 s133 s134 s135 s136 s137 s138 s139 s140 s141 s142 s143 s144 s145 s146 s147 s148 s149 s150 s151 s152 s153 s154 s155 s156 s157 s158 s159 s160 s161 s162 s163 s164 s165 s166 s167 s168 s169 s170 s171 s172 s173 s174 s175 s176 s177 s178 s179 s180 s181 s182 s183 s184 s185 s186 s187 s188 s189 s190 s191 s192 s193 s194 s195 s196 s197 s198 s199 s200 s201 s202 s203 s204 s205 s206 s207 s208 s209 s210 s211 s212 s213 s214 s215 s216 s217 s218 s219 s220 s221 s222 s223 s224 s225 s226 s227 s228 s229 s230 s231 s232 s233 s234 s235 s236 s237 s238 s239 s240 s241 s242 s243 s244 s245 s246 s247 s248 s249 s250 s251 s252 s253 s254 s255 s256 s257 s258 s259 s260 s261 s262 s263 s264 s265 s266 s267 s268 s269 s270 s271 s272 s273 s274 s275 s276 s277 s278 s279 : Value) (H V : Nat) (hl rl : List UInt32) (hh : hl.length = 8) (hrl : rl.length = 8) (w : World) (hVH : V ≠ H) (hV : w.heap[V]? = some (.cells (wcells rl ++ []).toArray 107 (0, 0))) (hH : w.heap[H]? = some (.cells (wcells hl ++ []).toArray 107 (0, 0))) (Q0 : Exit → Act → World → Prop)
    (hexit : ∀ (u239 u240 u241 u242 u243 u244 u245 u246 u247 u248 u249 u250 u251 : Value) (w' : World), w'.heap[H]? = some (.cells (wcells ((List.range 8).map fun i => hl.getD i 0 + rl.getD i 0) ++ []).toArray 107 (0, 0)) → Fr (fun i => i = H) w w' → Q0 (.exit 10) ⟨(s0 :: s1 :: s2 :: s3 :: s4 :: s5 :: s6 :: .pointer (some ⟨H, 0, none⟩) :: s8 :: s9 :: s10 :: .pointer (some ⟨V, 0, none⟩) :: s12 :: s13 :: s14 :: .int .i64 (8) :: s16 :: s17 :: s18 :: s19 :: s20 :: s21 :: s22 :: s23 :: s24 :: s25 :: s26 :: s27 :: s28 :: s29 :: s30 :: s31 :: s32 :: s33 :: s34 :: s35 :: s36 :: s37 :: s38 :: s39 :: s40 :: s41 :: s42 :: s43 :: s44 :: s45 :: s46 :: s47 :: s48 :: s49 :: s50 :: s51 :: s52 :: s53 :: s54 :: s55 :: s56 :: s57 :: s58 :: s59 :: s60 :: s61 :: s62 :: s63 :: s64 :: s65 :: s66 :: s67 :: s68 :: s69 :: s70 :: s71 :: s72 :: s73 :: s74 :: s75 :: s76 :: s77 :: s78 :: s79 :: s80 :: s81 :: s82 :: s83 :: s84 :: s85 :: s86 :: s87 :: s88 :: s89 :: s90 :: s91 :: s92 :: s93 :: s94 :: s95 :: s96 :: s97 :: s98 :: s99 :: s100 :: s101 :: s102 :: s103 :: s104 :: s105 :: s106 :: s107 :: s108 :: s109 :: s110 :: s111 :: s112 :: s113 :: s114 :: s115 :: s116 :: s117 :: s118 :: s119 :: s120 :: s121 :: s122 :: s123 :: s124 :: s125 :: s126 :: s127 :: s128 :: s129 :: s130 :: s131 :: s132 :: s133 :: s134 :: s135 :: s136 :: s137 :: s138 :: s139 :: s140 :: s141 :: s142 :: s143 :: s144 :: s145 :: s146 :: s147 :: s148 :: s149 :: s150 :: s151 :: s152 :: s153 :: s154 :: s155 :: s156 :: s157 :: s158 :: s159 :: s160 :: s161 :: s162 :: s163 :: s164 :: s165 :: s166 :: s167 :: s168 :: s169 :: s170 :: s171 :: s172 :: s173 :: s174 :: s175 :: s176 :: s177 :: s178 :: s179 :: s180 :: s181 :: s182 :: s183 :: s184 :: s185 :: s186 :: s187 :: s188 :: s189 :: s190 :: s191 :: s192 :: s193 :: s194 :: s195 :: s196 :: s197 :: s198 :: s199 :: s200 :: s201 :: s202 :: s203 :: s204 :: s205 :: s206 :: s207 :: s208 :: s209 :: s210 :: s211 :: s212 :: s213 :: s214 :: s215 :: s216 :: s217 :: s218 :: s219 :: s220 :: s221 :: s222 :: s223 :: s224 :: s225 :: s226 :: s227 :: s228 :: s229 :: s230 :: s231 :: s232 :: s233 :: s234 :: s235 :: s236 :: s237 :: s238 :: u239 :: u240 :: u241 :: u242 :: u243 :: u244 :: u245 :: u246 :: u247 :: u248 :: u249 :: u250 :: u251 :: s252 :: s253 :: s254 :: s255 :: s256 :: s257 :: s258 :: s259 :: s260 :: s261 :: s262 :: s263 :: s264 :: s265 :: s266 :: s267 :: s268 :: s269 :: s270 :: s271 :: s272 :: s273 :: s274 :: s275 :: s276 :: s277 :: s278 :: s279 :: []).toArray, []⟩ w') :
    Code.wp Try.prog (Code.loop (ps2 2)) Q0 ⟨(s0 :: s1 :: s2 :: s3 :: s4 :: s5 :: s6 :: .pointer (some ⟨H, 0, none⟩) :: s8 :: s9 :: s10 :: .pointer (some ⟨V, 0, none⟩) :: s12 :: s13 :: s14 :: .int .i64 (0) :: s16 :: s17 :: s18 :: s19 :: s20 :: s21 :: s22 :: s23 :: s24 :: s25 :: s26 :: s27 :: s28 :: s29 :: s30 :: s31 :: s32 :: s33 :: s34 :: s35 :: s36 :: s37 :: s38 :: s39 :: s40 :: s41 :: s42 :: s43 :: s44 :: s45 :: s46 :: s47 :: s48 :: s49 :: s50 :: s51 :: s52 :: s53 :: s54 :: s55 :: s56 :: s57 :: s58 :: s59 :: s60 :: s61 :: s62 :: s63 :: s64 :: s65 :: s66 :: s67 :: s68 :: s69 :: s70 :: s71 :: s72 :: s73 :: s74 :: s75 :: s76 :: s77 :: s78 :: s79 :: s80 :: s81 :: s82 :: s83 :: s84 :: s85 :: s86 :: s87 :: s88 :: s89 :: s90 :: s91 :: s92 :: s93 :: s94 :: s95 :: s96 :: s97 :: s98 :: s99 :: s100 :: s101 :: s102 :: s103 :: s104 :: s105 :: s106 :: s107 :: s108 :: s109 :: s110 :: s111 :: s112 :: s113 :: s114 :: s115 :: s116 :: s117 :: s118 :: s119 :: s120 :: s121 :: s122 :: s123 :: s124 :: s125 :: s126 :: s127 :: s128 :: s129 :: s130 :: s131 :: s132 :: s133 :: s134 :: s135 :: s136 :: s137 :: s138 :: s139 :: s140 :: s141 :: s142 :: s143 :: s144 :: s145 :: s146 :: s147 :: s148 :: s149 :: s150 :: s151 :: s152 :: s153 :: s154 :: s155 :: s156 :: s157 :: s158 :: s159 :: s160 :: s161 :: s162 :: s163 :: s164 :: s165 :: s166 :: s167 :: s168 :: s169 :: s170 :: s171 :: s172 :: s173 :: s174 :: s175 :: s176 :: s177 :: s178 :: s179 :: s180 :: s181 :: s182 :: s183 :: s184 :: s185 :: s186 :: s187 :: s188 :: s189 :: s190 :: s191 :: s192 :: s193 :: s194 :: s195 :: s196 :: s197 :: s198 :: s199 :: s200 :: s201 :: s202 :: s203 :: s204 :: s205 :: s206 :: s207 :: s208 :: s209 :: s210 :: s211 :: s212 :: s213 :: s214 :: s215 :: s216 :: s217 :: s218 :: s219 :: s220 :: s221 :: s222 :: s223 :: s224 :: s225 :: s226 :: s227 :: s228 :: s229 :: s230 :: s231 :: s232 :: s233 :: s234 :: s235 :: s236 :: s237 :: s238 :: s239 :: s240 :: s241 :: s242 :: s243 :: s244 :: s245 :: s246 :: s247 :: s248 :: s249 :: s250 :: s251 :: s252 :: s253 :: s254 :: s255 :: s256 :: s257 :: s258 :: s259 :: s260 :: s261 :: s262 :: s263 :: s264 :: s265 :: s266 :: s267 :: s268 :: s269 :: s270 :: s271 :: s272 :: s273 :: s274 :: s275 :: s276 :: s277 :: s278 :: s279 :: []).toArray, []⟩ w := by
  have HH0 := Lib.hid hH
  have HX := Lib.hid hexit
  have HV := Lib.hid hV
  have HRL := Lib.hid hrl
  have HH := Lib.hid hh
  clear hH hexit hV hrl hh
  conv => arg 2; arg 1; whnf
  go_loopw [15] (fun v wr => ∃ i : Nat, i ≤ 8 ∧ v = .int .i64 i ∧ wr.heap[H]? = some (.cells (wcells (up32 hl rl i) ++ []).toArray 107 (0, 0)) ∧ Fr (fun i => i = H) w wr) (fun v _ => 8 - (intOf v).toNat)
  case atStart => exact ⟨0, Nat.zero_le _, rfl, by rw [up32_zero hl rl HH.out]; exact HH0.out, Fr.refl _ _⟩
  case round =>
    obtain ⟨i, hi, rfl, hB, hf⟩ := hrel
    have HB := Lib.hid hB
    have HF := Lib.hid hf
    clear hB hf HH0
    by_cases hlt : i < 8
    · have hx8 : (i : Int) < 8 := by omega
      obtain ⟨xr, hxr⟩ : ∃ z, z = rl.getD i 0 := ⟨_, rfl⟩
      obtain ⟨xh, hxh⟩ : ∃ z, z = hl.getD i 0 := ⟨_, rfl⟩
      have c1 : wr.drew.cell? ⟨H, i, none⟩ = some (.int .u32 (xh.toNat : Int)) := wcells_cell (w := wr.drew) HB.out i _ (by rw [up32_get _ _ _ _ hlt, if_neg (by omega), hxh])
      have c2 : wr.drew.cell? ⟨V, i, none⟩ = some (.int .u32 (xr.toNat : Int)) := wcells_cell (HF.out.heap HV.out hVH) i _ (by rw [hxr]; exact get_some32 HRL.out i hlt)
      have hz' : wr.drew.frozen? ⟨H, i, none⟩ = false := frozen_of_row wr _ _ _ _ HB.out
      obtain ⟨z, hz⟩ : ∃ z, z = xh + xr := ⟨_, rfl⟩
      have ez : IntKind.u32.wrap ((xh.toNat : Int) + (xr.toNat : Int)) = (z.toNat : Int) := by rw [hz]; exact addw_u32 _ _
      have fz : ((xh.toNat : Int) + (xr.toNat : Int)) % 4294967296 = (z.toNat : Int) := by rw [hz]; exact add_u32 _ _
      have HB1 := Lib.hid (show (wr.drew.setCell ⟨H, i, none⟩ (.int .u32 (z.toNat : Int))).heap[H]? = some (.cells (wcells (up32 hl rl (i + 1)) ++ []).toArray 107 (0, 0)) by
        have h := wcells_set (w := wr.drew) HB.out i (by rw [up32_length]; exact hlt) z
        rw [← up32_set hl rl i hlt, ← hxh, ← hxr, ← hz]
        exact h)
      have HF1 := Lib.hid (HF.out.drew.setCell ⟨H, i, none⟩ (.int .u32 (z.toNat : Int)) (.inl rfl))
      have bb1 := xr.toNat_lt
      have bb2 := xh.toNat_lt
      have bb3 := z.toNat_lt
      clear hxr hxh hz
      go_wp2
      refine wp_region_still_tail 9 (by kernel_rfl) (by kernel_rfl) ?_
      simp only [List.take_succ_cons, List.take_zero, List.drop_succ_cons, List.drop_zero]
      change wpStill _ _ wr.drew (fun a' => wpList _ _ _ _ a' wr.drew) _ _
      repeat still_step
      refine wpStill_nil ?_
      go_wp2
      go_roundw
      case rel => exact ⟨i + 1, by omega, by go_num, HB1.out, HF1.out⟩
      case measure => simp [intOf]; omega
    · have h8 : i = 8 := by omega
      subst h8
      have HBz := Lib.hid (show wr.heap[H]? = some (.cells (wcells ((List.range 8).map fun i => hl.getD i 0 + rl.getD i 0) ++ []).toArray 107 (0, 0)) by rw [← up32_all]; exact HB.out)
      go_wp2
      exact HX.out _ _ _ _ _ _ _ _ _ _ _ _ _ _ HBz.out HF.out
end Go.Proofs.Ytcchhfkmhbjdmaa
