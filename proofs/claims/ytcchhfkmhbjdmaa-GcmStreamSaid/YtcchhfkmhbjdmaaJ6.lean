/- The digest's press: the last loop. -/
import Derived.Test.YtcchhfkmhbjdmaaJ5
set_option linter.unusedVariables false
set_option linter.unusedSimpArgs false
set_option pp.deepTerms true
set_option pp.maxSteps 100000
namespace Go.Proofs.Ytcchhfkmhbjdmaa
open Go.RowKit
def up32 (h r : List UInt32) (i : Nat) : List UInt32 := (List.range 8).map fun j => if j < i then h.getD j 0 + r.getD j 0 else h.getD j 0
theorem up32_length (h r : List UInt32) (i : Nat) : (up32 h r i).length = 8 := by simp [up32]
theorem up32_zero (h r : List UInt32) (hh : h.length = 8) : up32 h r 0 = h := by
  apply List.ext_getElem (by simp [up32, hh])
  intro j h1 h2
  simp [up32, List.getElem?_eq_getElem h2]
theorem up32_get (h r : List UInt32) (i j : Nat) (hj : j < 8) : (up32 h r i)[j]? = some (if j < i then h.getD j 0 + r.getD j 0 else h.getD j 0) := by simp [up32, hj]
theorem up32_set (h r : List UInt32) (i : Nat) (hi : i < 8) : (up32 h r i).set i (h.getD i 0 + r.getD i 0) = up32 h r (i + 1) := by
  apply List.ext_getElem (by simp [up32])
  intro j h1 h2
  rw [List.getElem_set]
  simp only [up32, List.getElem_map, List.getElem_range]
  by_cases e : i = j
  · subst e; simp
  · rw [if_neg e]
    by_cases hl : j < i
    · rw [if_pos hl, if_pos (by omega)]
    · rw [if_neg hl, if_neg (by omega)]
theorem up32_all (h r : List UInt32) : up32 h r 8 = (List.range 8).map fun i => h.getD i 0 + r.getD i 0 := by
  unfold up32
  apply List.map_congr_left
  intro j hj
  rw [if_pos (List.mem_range.mp hj)]
set_option maxRecDepth 100000 in
set_option maxHeartbeats 16000000 in
theorem press_l4 (u5 u7 u8 u9 u10 u11 u12 u13 u14 u15 u16 u17 u18 u19 u23 u24 u25 u26 u27 u28 u29 u30 u31 u32 u33 u34 u35 u36 u37 u38 u39 u40 u41 u42 u43 u44 u45 u46 u47 u48 u49 u50 u51 u52 u53 u54 u55 u56 u57 u58 u59 u60 u61 u62 u63 u64 u65 u66 u67 u68 u69 u70 u71 u72 u73 u74 u75 u76 u77 u78 u79 u80 u81 u82 u83 u84 u85 u86 u87 u88 u89 u90 u91 u92 u93 u94 u95 u96 u97 u98 u99 u100 u101 u102 u103 u104 u105 u106 u107 u108 u109 u110 u111 u112 u113 u114 u115 u116 u117 u118 u119 u120 u121 u122 u123 u124 u125 u126 u127 u128 u129 u130 u131 u132 u133 u134 u135 u136 u137 u138 u139 u140 u141 u142 u143 u144 u145 u146 u147 u148 u149 u150 u151 u152 u153 u154 u155 u156 u157 u158 u159 u160 u161 u162 u163 u164 u165 u166 u167 u168 u169 u170 u171 u172 u173 u174 u175 u176 u177 u178 u179 u180 u181 u182 u183 u184 u185 u186 u187 u188 u189 u190 u191 u192 u193 u194 u195 u196 u197 u198 u199 u200 u201 u202 u203 u204 u205 u206 u207 u208 u209 u210 : Value) (T B : Nat) (b : List UInt8) (rl : List UInt32) (hrl : rl.length = 8) (hl : List UInt32) (hh : hl.length = 8) (R : List Value) (w : World)
    (hT : w.heap[T]? = some (.cells (wcells hl ++ R).toArray 111 (0, 0))) (Q0 : Exit → Act → World → Prop)
    (hexit : ∀ (u5 u7 u8 u9 u10 u11 u12 u13 u14 u15 u16 u17 u18 u19 u20 u21 u23 u24 u25 u26 u27 u28 u29 u30 u31 u32 u33 u34 u35 u36 u37 u38 u39 u40 u41 u42 u43 u44 u45 u46 u47 u48 u49 u50 u51 u52 u53 u54 u55 u56 u57 u58 u59 u60 u61 u62 u63 u64 u65 u66 u67 u68 u69 u70 u71 u72 u73 u74 u75 u76 u77 u78 u79 u80 u81 u82 u83 u84 u85 u86 u87 u88 u89 u90 u91 u92 u93 u94 u95 u96 u97 u98 u99 u100 u101 u102 u103 u104 u105 u106 u107 u108 u109 u110 u111 u112 u113 u114 u115 u116 u117 u118 u119 u120 u121 u122 u123 u124 u125 u126 u127 u128 u129 u130 u131 u132 u133 u134 u135 u136 u137 u138 u139 u140 u141 u142 u143 u144 u145 u146 u147 u148 u149 u150 u151 u152 u153 u154 u155 u156 u157 u158 u159 u160 u161 u162 u163 u164 u165 u166 u167 u168 u169 u170 u171 u172 u173 u174 u175 u176 u177 u178 u179 u180 u181 u182 u183 u184 u185 u186 u187 u188 u189 u190 u191 u192 u193 u194 u195 u196 u197 u198 u199 u200 u201 u202 u203 u204 u205 u206 u207 u208 u209 u210 u213 u214 u215 u216 u217 u218 u219 u220 u221 u222 u223 u224 u225 u226 u227 : Value) (w' : World), w'.heap[T]? = some (.cells (wcells ((List.range 8).map fun i => hl.getD i 0 + rl.getD i 0) ++ R).toArray 111 (0, 0)) → Fr (fun i => i = T) w w' → Q0 (.exit 6) ⟨(.pointer (some ⟨T, 0, none⟩) :: .string (str b) :: undef :: undef :: .pointer (some ⟨B, 0, none⟩) :: u5 :: .int .i64 (64) :: u7 :: u8 :: u9 :: u10 :: u11 :: u12 :: u13 :: u14 :: u15 :: u16 :: u17 :: u18 :: u19 :: u20 :: u21 :: .int .i64 (16) :: u23 :: u24 :: u25 :: u26 :: u27 :: u28 :: u29 :: u30 :: u31 :: u32 :: u33 :: u34 :: u35 :: u36 :: u37 :: u38 :: u39 :: u40 :: u41 :: u42 :: u43 :: u44 :: u45 :: u46 :: u47 :: u48 :: u49 :: u50 :: u51 :: u52 :: u53 :: u54 :: u55 :: u56 :: u57 :: u58 :: u59 :: u60 :: u61 :: u62 :: u63 :: u64 :: u65 :: u66 :: u67 :: u68 :: u69 :: u70 :: u71 :: u72 :: u73 :: u74 :: u75 :: u76 :: u77 :: u78 :: u79 :: u80 :: u81 :: u82 :: u83 :: u84 :: u85 :: u86 :: u87 :: u88 :: u89 :: u90 :: u91 :: u92 :: u93 :: u94 :: u95 :: u96 :: u97 :: u98 :: u99 :: u100 :: u101 :: u102 :: u103 :: u104 :: u105 :: u106 :: u107 :: u108 :: u109 :: u110 :: u111 :: u112 :: u113 :: u114 :: u115 :: u116 :: u117 :: u118 :: u119 :: u120 :: u121 :: u122 :: u123 :: u124 :: u125 :: u126 :: u127 :: u128 :: u129 :: u130 :: u131 :: u132 :: u133 :: u134 :: u135 :: u136 :: u137 :: u138 :: u139 :: u140 :: u141 :: u142 :: u143 :: u144 :: u145 :: u146 :: u147 :: u148 :: u149 :: u150 :: u151 :: u152 :: u153 :: u154 :: u155 :: u156 :: u157 :: u158 :: u159 :: u160 :: u161 :: u162 :: u163 :: u164 :: u165 :: u166 :: u167 :: u168 :: u169 :: u170 :: u171 :: u172 :: u173 :: u174 :: u175 :: u176 :: u177 :: u178 :: u179 :: u180 :: u181 :: u182 :: u183 :: u184 :: u185 :: u186 :: u187 :: u188 :: u189 :: u190 :: u191 :: u192 :: u193 :: u194 :: u195 :: u196 :: u197 :: u198 :: u199 :: u200 :: u201 :: u202 :: u203 :: u204 :: u205 :: u206 :: u207 :: u208 :: u209 :: u210 :: .agg (wcells rl).toArray :: .int .i64 (8) :: u213 :: u214 :: u215 :: u216 :: u217 :: u218 :: u219 :: u220 :: u221 :: u222 :: u223 :: u224 :: u225 :: u226 :: u227 :: []).toArray, []⟩ w') :
    Code.wp Try.prog (Code.loop (pb 3)) Q0 ⟨(.pointer (some ⟨T, 0, none⟩) :: .string (str b) :: undef :: undef :: .pointer (some ⟨B, 0, none⟩) :: u5 :: .int .i64 (64) :: u7 :: u8 :: u9 :: u10 :: u11 :: u12 :: u13 :: u14 :: u15 :: u16 :: u17 :: u18 :: u19 :: undef :: undef :: .int .i64 (16) :: u23 :: u24 :: u25 :: u26 :: u27 :: u28 :: u29 :: u30 :: u31 :: u32 :: u33 :: u34 :: u35 :: u36 :: u37 :: u38 :: u39 :: u40 :: u41 :: u42 :: u43 :: u44 :: u45 :: u46 :: u47 :: u48 :: u49 :: u50 :: u51 :: u52 :: u53 :: u54 :: u55 :: u56 :: u57 :: u58 :: u59 :: u60 :: u61 :: u62 :: u63 :: u64 :: u65 :: u66 :: u67 :: u68 :: u69 :: u70 :: u71 :: u72 :: u73 :: u74 :: u75 :: u76 :: u77 :: u78 :: u79 :: u80 :: u81 :: u82 :: u83 :: u84 :: u85 :: u86 :: u87 :: u88 :: u89 :: u90 :: u91 :: u92 :: u93 :: u94 :: u95 :: u96 :: u97 :: u98 :: u99 :: u100 :: u101 :: u102 :: u103 :: u104 :: u105 :: u106 :: u107 :: u108 :: u109 :: u110 :: u111 :: u112 :: u113 :: u114 :: u115 :: u116 :: u117 :: u118 :: u119 :: u120 :: u121 :: u122 :: u123 :: u124 :: u125 :: u126 :: u127 :: u128 :: u129 :: u130 :: u131 :: u132 :: u133 :: u134 :: u135 :: u136 :: u137 :: u138 :: u139 :: u140 :: u141 :: u142 :: u143 :: u144 :: u145 :: u146 :: u147 :: u148 :: u149 :: u150 :: u151 :: u152 :: u153 :: u154 :: u155 :: u156 :: u157 :: u158 :: u159 :: u160 :: u161 :: u162 :: u163 :: u164 :: u165 :: u166 :: u167 :: u168 :: u169 :: u170 :: u171 :: u172 :: u173 :: u174 :: u175 :: u176 :: u177 :: u178 :: u179 :: u180 :: u181 :: u182 :: u183 :: u184 :: u185 :: u186 :: u187 :: u188 :: u189 :: u190 :: u191 :: u192 :: u193 :: u194 :: u195 :: u196 :: u197 :: u198 :: u199 :: u200 :: u201 :: u202 :: u203 :: u204 :: u205 :: u206 :: u207 :: u208 :: u209 :: u210 :: .agg (wcells rl).toArray :: .int .i64 (0) :: undef :: undef :: undef :: undef :: undef :: undef :: undef :: undef :: undef :: undef :: undef :: undef :: undef :: undef :: undef :: []).toArray, []⟩ w := by
  have HT0 := Lib.hid hT
  have HX := Lib.hid hexit
  have HRL := Lib.hid hrl
  have HH := Lib.hid hh
  clear hT hexit hrl hh
  conv => arg 2; arg 1; whnf
  go_loopw [212] (fun v wr => ∃ i : Nat, i ≤ 8 ∧ v = .int .i64 i ∧ wr.heap[T]? = some (.cells (wcells (up32 hl rl i) ++ R).toArray 111 (0, 0)) ∧ Fr (fun i => i = T) w wr) (fun v _ => 8 - (intOf v).toNat)
  case atStart => exact ⟨0, Nat.zero_le _, rfl, by rw [up32_zero hl rl HH.out]; exact HT0.out, Fr.refl _ _⟩
  case round =>
    obtain ⟨i, hi, rfl, hB, hf⟩ := hrel
    have HB := Lib.hid hB
    have HF := Lib.hid hf
    clear hB hf HT0
    by_cases hlt : i < 8
    · have hx8 : (i : Int) < 8 := by omega
      obtain ⟨xr, hxr⟩ : ∃ z, z = rl.getD i 0 := ⟨_, rfl⟩
      obtain ⟨xh, hxh⟩ : ∃ z, z = hl.getD i 0 := ⟨_, rfl⟩
      have hin := run_index_w 107 8 Try.underlying107 rl i xr (by rw [hxr]; exact get_some32 HRL.out i hlt) hlt wr
      have c1 : wr.drew.cell? ⟨T, i, none⟩ = some (.int .u32 (xh.toNat : Int)) := wcells_cell (w := wr.drew) HB.out i _ (by rw [up32_get _ _ _ _ hlt, if_neg (by omega), hxh])
      have hz' : wr.drew.frozen? ⟨T, i, none⟩ = false := frozen_of_row wr _ _ _ _ HB.out
      obtain ⟨z, hz⟩ : ∃ z, z = xh + xr := ⟨_, rfl⟩
      have ez : IntKind.u32.wrap ((xh.toNat : Int) + (xr.toNat : Int)) = (z.toNat : Int) := by rw [hz]; exact addw_u32 _ _
      have fz : ((xh.toNat : Int) + (xr.toNat : Int)) % 4294967296 = (z.toNat : Int) := by rw [hz]; exact add_u32 _ _
      have HB1 := Lib.hid (show (wr.drew.setCell ⟨T, i, none⟩ (.int .u32 (z.toNat : Int))).heap[T]? = some (.cells (wcells (up32 hl rl (i + 1)) ++ R).toArray 111 (0, 0)) by
        have h := wcells_set (w := wr.drew) HB.out i (by rw [up32_length]; exact hlt) z
        rw [← up32_set hl rl i hlt, ← hxh, ← hxr, ← hz]
        exact h)
      have HF1 := Lib.hid (HF.out.drew.setCell ⟨T, i, none⟩ (.int .u32 (z.toNat : Int)) (.inl rfl))
      have bb1 := xr.toNat_lt
      have bb2 := xh.toNat_lt
      have bb3 := z.toNat_lt
      clear hxr hxh hz
      go_wp2
      refine wp_region_still_tail 11 (by kernel_rfl) (by kernel_rfl) ?_
      simp only [List.take_succ_cons, List.take_zero, List.drop_succ_cons, List.drop_zero]
      change wpStill _ _ wr.drew (fun a' => wpList _ _ _ _ a' wr.drew) _ _
      repeat still_step
      refine wpStill_nil ?_
      go_wp2
      go_roundw
      case rel => exact ⟨i + 1, by omega, by go_num, HB1.out, HF1.out⟩
      case measure => simp [intOf]; omega
    · have h8 : i = 8 := by omega
      subst h8
      have HBz := Lib.hid (show wr.heap[T]? = some (.cells (wcells ((List.range 8).map fun i => hl.getD i 0 + rl.getD i 0) ++ R).toArray 111 (0, 0)) by rw [← up32_all]; exact HB.out)
      go_wp2
      exact HX.out _ _ _ _ _ _ _ _ _ _ _ _ _ _ _ _ _ _ _ _ _ _ _ _ _ _ _ _ _ _ _ _ _ _ _ _ _ _ _ _ _ _ _ _ _ _ _ _ _ _ _ _ _ _ _ _ _ _ _ _ _ _ _ _ _ _ _ _ _ _ _ _ _ _ _ _ _ _ _ _ _ _ _ _ _ _ _ _ _ _ _ _ _ _ _ _ _ _ _ _ _ _ _ _ _ _ _ _ _ _ _ _ _ _ _ _ _ _ _ _ _ _ _ _ _ _ _ _ _ _ _ _ _ _ _ _ _ _ _ _ _ _ _ _ _ _ _ _ _ _ _ _ _ _ _ _ _ _ _ _ _ _ _ _ _ _ _ _ _ _ _ _ _ _ _ _ _ _ _ _ _ _ _ _ _ _ _ _ _ _ _ _ _ _ _ _ _ _ _ _ _ _ _ _ _ _ _ _ _ _ _ _ _ _ _ _ _ _ _ _ HBz.out HF.out
end Go.Proofs.Ytcchhfkmhbjdmaa
