/- The digest's press: the third loop. -/
import Derived.Test.YtcchhfkmhbjdmaaJ4
set_option linter.unusedVariables false
set_option linter.unusedSimpArgs false
set_option pp.deepTerms true
set_option pp.maxSteps 100000
namespace Go.Proofs.Ytcchhfkmhbjdmaa
open Go.RowKit
theorem run_index_w (t : TypeId) (len : Nat) (hu : Try.prog.underlying t = some (.array len 106)) (l : List UInt32) (n : Nat) (x : UInt32) (hx : l[n]? = some x) (hn : n < len) (w : World) :
    (Instr.index t (.agg (wcells l).toArray) (.int .i64 (n : Int))).run Try.prog w = .ok (.int .u32 (x.toNat : Int)) w := by
  have hs : (sizeOf 106).run Try.prog w = .ok 1 w := by kernel_rfl
  have ha : (isAgg 106).run Try.prog w = .ok false w := by kernel_rfl
  have hc : (wcells l)[n]? = some (.int .u32 (x.toNat : Int)) := wcells_get l n x hx
  simp [Instr.index, run_underlying hu, asIntOf, part, hs, ha, hc, hn, go_sem]
set_option maxRecDepth 100000 in
set_option maxHeartbeats 16000000 in
theorem press_l3 (u5 u7 u8 u23 u24 u25 u26 u27 u28 u29 u30 u31 u32 u33 u34 u35 u36 u37 u38 u39 u40 u41 u42 u43 u44 u45 u46 u47 u48 u49 u50 u51 u52 u53 u54 u55 u56 u57 u58 u59 u60 u61 u62 u63 u64 u65 u66 u67 u68 u69 u70 u71 u72 u73 u74 u75 u76 u77 u78 u79 u80 u81 u82 u83 u84 u85 u86 u87 u88 u89 u90 u91 u92 u93 u94 u95 u96 u97 u98 u99 u100 u101 u102 u103 u104 u105 u106 u107 u108 u109 u110 u111 u112 u113 u114 u115 u116 u117 u118 u119 u120 u121 u122 u123 u124 u125 u126 u127 u128 u129 u130 u131 u132 u133 u134 u135 u136 u137 : Value) (T B K : Nat) (b : List UInt8) (ws : List UInt32) (hws : ws.length = 64) (hl : List UInt32) (hh : hl.length = 8) (x y : Value) (s0 : R8) (w : World)
    (hT : w.heap[T]? = some (.cells (wcells hl ++ [x, y, .pointer (some ⟨K, 0, none⟩)]).toArray 111 (0, 0))) (hK : w.heap[K]? = some (.cells (wcells kT ++ []).toArray 115 (0, 0))) (Q0 : Exit → Act → World → Prop)
    (hexit : ∀ (u5 u7 u8 u17 u18 u19 u23 u24 u25 u26 u27 u28 u29 u30 u31 u32 u33 u34 u35 u36 u37 u38 u39 u40 u41 u42 u43 u44 u45 u46 u47 u48 u49 u50 u51 u52 u53 u54 u55 u56 u57 u58 u59 u60 u61 u62 u63 u64 u65 u66 u67 u68 u69 u70 u71 u72 u73 u74 u75 u76 u77 u78 u79 u80 u81 u82 u83 u84 u85 u86 u87 u88 u89 u90 u91 u92 u93 u94 u95 u96 u97 u98 u99 u100 u101 u102 u103 u104 u105 u106 u107 u108 u109 u110 u111 u112 u113 u114 u115 u116 u117 u118 u119 u120 u121 u122 u123 u124 u125 u126 u127 u128 u129 u130 u131 u132 u133 u134 u135 u136 u137 u140 u141 u142 u143 u144 u145 u146 u147 u148 u149 u150 u151 u152 u153 u154 u155 u156 u157 u158 u159 u160 u161 u162 u163 u164 u165 u166 u167 u168 u169 u170 u171 u172 u173 u174 u175 u176 u177 u178 u179 u180 u181 u182 u183 u184 u185 u186 u187 u188 u189 u190 u191 u192 u193 u194 u195 u196 u197 u198 u199 u200 u201 u202 : Value) (w' : World), Fr (fun _ => False) w w' → Q0 (.exit 4) ⟨(.pointer (some ⟨T, 0, none⟩) :: .string (str b) :: undef :: undef :: .pointer (some ⟨B, 0, none⟩) :: u5 :: .int .i64 (64) :: u7 :: u8 :: .int .u32 (((rounds ws s0 64).a).toNat : Int) :: .int .u32 (((rounds ws s0 64).b).toNat : Int) :: .int .u32 (((rounds ws s0 64).c).toNat : Int) :: .int .u32 (((rounds ws s0 64).d).toNat : Int) :: .int .u32 (((rounds ws s0 64).e).toNat : Int) :: .int .u32 (((rounds ws s0 64).f).toNat : Int) :: .int .u32 (((rounds ws s0 64).g).toNat : Int) :: .int .u32 (((rounds ws s0 64).h).toNat : Int) :: u17 :: u18 :: u19 :: undef :: undef :: .int .i64 (16) :: u23 :: u24 :: u25 :: u26 :: u27 :: u28 :: u29 :: u30 :: u31 :: u32 :: u33 :: u34 :: u35 :: u36 :: u37 :: u38 :: u39 :: u40 :: u41 :: u42 :: u43 :: u44 :: u45 :: u46 :: u47 :: u48 :: u49 :: u50 :: u51 :: u52 :: u53 :: u54 :: u55 :: u56 :: u57 :: u58 :: u59 :: u60 :: u61 :: u62 :: u63 :: u64 :: u65 :: u66 :: u67 :: u68 :: u69 :: u70 :: u71 :: u72 :: u73 :: u74 :: u75 :: u76 :: u77 :: u78 :: u79 :: u80 :: u81 :: u82 :: u83 :: u84 :: u85 :: u86 :: u87 :: u88 :: u89 :: u90 :: u91 :: u92 :: u93 :: u94 :: u95 :: u96 :: u97 :: u98 :: u99 :: u100 :: u101 :: u102 :: u103 :: u104 :: u105 :: u106 :: u107 :: u108 :: u109 :: u110 :: u111 :: u112 :: u113 :: u114 :: u115 :: u116 :: u117 :: u118 :: u119 :: u120 :: u121 :: u122 :: u123 :: u124 :: u125 :: u126 :: u127 :: u128 :: u129 :: u130 :: u131 :: u132 :: u133 :: u134 :: u135 :: u136 :: u137 :: .agg (wcells ws).toArray :: .int .i64 (64) :: u140 :: u141 :: u142 :: u143 :: u144 :: u145 :: u146 :: u147 :: u148 :: u149 :: u150 :: u151 :: u152 :: u153 :: u154 :: u155 :: u156 :: u157 :: u158 :: u159 :: u160 :: u161 :: u162 :: u163 :: u164 :: u165 :: u166 :: u167 :: u168 :: u169 :: u170 :: u171 :: u172 :: u173 :: u174 :: u175 :: u176 :: u177 :: u178 :: u179 :: u180 :: u181 :: u182 :: u183 :: u184 :: u185 :: u186 :: u187 :: u188 :: u189 :: u190 :: u191 :: u192 :: u193 :: u194 :: u195 :: u196 :: u197 :: u198 :: u199 :: u200 :: u201 :: u202 :: undef :: undef :: undef :: undef :: undef :: undef :: undef :: undef :: undef :: undef :: undef :: undef :: undef :: undef :: undef :: undef :: undef :: undef :: undef :: undef :: undef :: undef :: undef :: undef :: undef :: []).toArray, []⟩ w') :
    Code.wp Try.prog (Code.loop (pb 2)) Q0 ⟨(.pointer (some ⟨T, 0, none⟩) :: .string (str b) :: undef :: undef :: .pointer (some ⟨B, 0, none⟩) :: u5 :: .int .i64 (64) :: u7 :: u8 :: .int .u32 ((s0.a).toNat : Int) :: .int .u32 ((s0.b).toNat : Int) :: .int .u32 ((s0.c).toNat : Int) :: .int .u32 ((s0.d).toNat : Int) :: .int .u32 ((s0.e).toNat : Int) :: .int .u32 ((s0.f).toNat : Int) :: .int .u32 ((s0.g).toNat : Int) :: .int .u32 ((s0.h).toNat : Int) :: undef :: undef :: undef :: undef :: undef :: .int .i64 (16) :: u23 :: u24 :: u25 :: u26 :: u27 :: u28 :: u29 :: u30 :: u31 :: u32 :: u33 :: u34 :: u35 :: u36 :: u37 :: u38 :: u39 :: u40 :: u41 :: u42 :: u43 :: u44 :: u45 :: u46 :: u47 :: u48 :: u49 :: u50 :: u51 :: u52 :: u53 :: u54 :: u55 :: u56 :: u57 :: u58 :: u59 :: u60 :: u61 :: u62 :: u63 :: u64 :: u65 :: u66 :: u67 :: u68 :: u69 :: u70 :: u71 :: u72 :: u73 :: u74 :: u75 :: u76 :: u77 :: u78 :: u79 :: u80 :: u81 :: u82 :: u83 :: u84 :: u85 :: u86 :: u87 :: u88 :: u89 :: u90 :: u91 :: u92 :: u93 :: u94 :: u95 :: u96 :: u97 :: u98 :: u99 :: u100 :: u101 :: u102 :: u103 :: u104 :: u105 :: u106 :: u107 :: u108 :: u109 :: u110 :: u111 :: u112 :: u113 :: u114 :: u115 :: u116 :: u117 :: u118 :: u119 :: u120 :: u121 :: u122 :: u123 :: u124 :: u125 :: u126 :: u127 :: u128 :: u129 :: u130 :: u131 :: u132 :: u133 :: u134 :: u135 :: u136 :: u137 :: .agg (wcells ws).toArray :: .int .i64 (0) :: undef :: undef :: undef :: undef :: undef :: undef :: undef :: undef :: undef :: undef :: undef :: undef :: undef :: undef :: undef :: undef :: undef :: undef :: undef :: undef :: undef :: undef :: undef :: undef :: undef :: undef :: undef :: undef :: undef :: undef :: undef :: undef :: undef :: undef :: undef :: undef :: undef :: undef :: undef :: undef :: undef :: undef :: undef :: undef :: undef :: undef :: undef :: undef :: undef :: undef :: undef :: undef :: undef :: undef :: undef :: undef :: undef :: undef :: undef :: undef :: undef :: undef :: undef :: undef :: undef :: undef :: undef :: undef :: undef :: undef :: undef :: undef :: undef :: undef :: undef :: undef :: undef :: undef :: undef :: undef :: undef :: undef :: undef :: undef :: undef :: undef :: undef :: undef :: []).toArray, []⟩ w := by
  have HT0 := Lib.hid hT
  have HK0 := Lib.hid hK
  have HX := Lib.hid hexit
  have HWS := Lib.hid hws
  have HH := Lib.hid hh
  clear hT hK hexit hws hh
  conv => arg 2; arg 1; whnf
  go_loopw [9, 10, 11, 12, 13, 14, 15, 16, 139] (fun v9 v10 v11 v12 v13 v14 v15 v16 v wr => ∃ (n : Nat) (a b c d e f g h : UInt32), n ≤ 64 ∧ v = .int .i64 n ∧ rounds ws s0 n = ⟨a, b, c, d, e, f, g, h⟩ ∧ v9 = .int .u32 (a.toNat : Int) ∧ v10 = .int .u32 (b.toNat : Int) ∧ v11 = .int .u32 (c.toNat : Int) ∧ v12 = .int .u32 (d.toNat : Int) ∧ v13 = .int .u32 (e.toNat : Int) ∧ v14 = .int .u32 (f.toNat : Int) ∧ v15 = .int .u32 (g.toNat : Int) ∧ v16 = .int .u32 (h.toNat : Int) ∧ Fr (fun _ => False) w wr) (fun _ _ _ _ _ _ _ _ v _ => 64 - (intOf v).toNat)
  case atStart => exact ⟨0, s0.a, s0.b, s0.c, s0.d, s0.e, s0.f, s0.g, s0.h, Nat.zero_le _, rfl, rfl, rfl, rfl, rfl, rfl, rfl, rfl, rfl, rfl, Fr.refl _ _⟩
  case round =>
    obtain ⟨n, a, b1, c, d, e, f, g, h, hn, rfl, hr, rfl, rfl, rfl, rfl, rfl, rfl, rfl, rfl, hf⟩ := hrel
    have HR0 := Lib.hid hr
    have HF := Lib.hid hf
    clear hr hf
    by_cases hlt : n < 64
    · have hx64 : (n : Int) < 64 := by omega
      obtain ⟨xw, hxw⟩ : ∃ z, z = ws.getD n 0 := ⟨_, rfl⟩
      obtain ⟨kk, hkk⟩ : ∃ z, z = kT.getD n 0 := ⟨_, rfl⟩
      have hin := run_index_w 115 64 Try.underlying115 ws n xw (by rw [hxw]; exact get_some32 HWS.out n hlt) hlt wr
      have ck : wr.drew.cell? ⟨K, n, none⟩ = some (.int .u32 (kk.toNat : Int)) := wcells_cell (HF.out.heap HK0.out id) n _ (by rw [hkk]; exact get_some32 (by rfl) n hlt)
      have ct : wr.drew.cell? ⟨T, 10, none⟩ = some (.pointer (some ⟨K, 0, none⟩)) := by
        rw [cell_of_row wr.drew T 10 _ _ _ (HF.out.heap HT0.out id), List.getElem?_toArray, List.getElem?_append_right (by rw [wcells_length, HH.out]; omega), wcells_length, HH.out]
        rfl
      obtain ⟨r6, hr6⟩ : ∃ z, z = rr e 6 := ⟨_, rfl⟩
      have HR6 := Lib.hid (show ∀ w, Calls Try.prog 108 #[.int .u32 (e.toNat : Int), .int .i64 (-6)] w fun e w' => e = .returned (.int .u32 (r6.toNat : Int)) ∧ w' = w from fun w => by rw [hr6]; exact (rotr6_calls e w).mono fun e w' h => ⟨h.1, h.2.symm⟩)
      obtain ⟨r11, hr11⟩ : ∃ z, z = rr e 11 := ⟨_, rfl⟩
      have HR11 := Lib.hid (show ∀ w, Calls Try.prog 108 #[.int .u32 (e.toNat : Int), .int .i64 (-11)] w fun e w' => e = .returned (.int .u32 (r11.toNat : Int)) ∧ w' = w from fun w => by rw [hr11]; exact (rotr11_calls e w).mono fun e w' h => ⟨h.1, h.2.symm⟩)
      obtain ⟨r25, hr25⟩ : ∃ z, z = rr e 25 := ⟨_, rfl⟩
      have HR25 := Lib.hid (show ∀ w, Calls Try.prog 108 #[.int .u32 (e.toNat : Int), .int .i64 (-25)] w fun e w' => e = .returned (.int .u32 (r25.toNat : Int)) ∧ w' = w from fun w => by rw [hr25]; exact (rotr25_calls e w).mono fun e w' h => ⟨h.1, h.2.symm⟩)
      obtain ⟨p1, hp1⟩ : ∃ z, z = r6 ^^^ r11 := ⟨_, rfl⟩
      have ep1 : bits .xor .u32 (r6.toNat : Int) (r11.toNat : Int) = (p1.toNat : Int) := by rw [hp1]; exact xor_u32 _ _
      obtain ⟨p2, hp2⟩ : ∃ z, z = p1 ^^^ r25 := ⟨_, rfl⟩
      have ep2 : bits .xor .u32 (p1.toNat : Int) (r25.toNat : Int) = (p2.toNat : Int) := by rw [hp2]; exact xor_u32 _ _
      obtain ⟨t1, ht1⟩ : ∃ z, z = h + p2 := ⟨_, rfl⟩
      have et1 : IntKind.u32.wrap ((h.toNat : Int) + (p2.toNat : Int)) = (t1.toNat : Int) := by rw [ht1]; exact addw_u32 _ _
      have ft1 : ((h.toNat : Int) + (p2.toNat : Int)) % 4294967296 = (t1.toNat : Int) := by rw [ht1]; exact add_u32 _ _
      obtain ⟨q1, hq1⟩ : ∃ z, z = f ^^^ g := ⟨_, rfl⟩
      have eq1 : bits .xor .u32 (f.toNat : Int) (g.toNat : Int) = (q1.toNat : Int) := by rw [hq1]; exact xor_u32 _ _
      obtain ⟨q2, hq2⟩ : ∃ z, z = e &&& q1 := ⟨_, rfl⟩
      have eq2 : bits .and .u32 (e.toNat : Int) (q1.toNat : Int) = (q2.toNat : Int) := by rw [hq2]; exact and_u32 _ _
      obtain ⟨q3, hq3⟩ : ∃ z, z = g ^^^ q2 := ⟨_, rfl⟩
      have eq3 : bits .xor .u32 (g.toNat : Int) (q2.toNat : Int) = (q3.toNat : Int) := by rw [hq3]; exact xor_u32 _ _
      obtain ⟨t2, ht2⟩ : ∃ z, z = t1 + q3 := ⟨_, rfl⟩
      have et2 : IntKind.u32.wrap ((t1.toNat : Int) + (q3.toNat : Int)) = (t2.toNat : Int) := by rw [ht2]; exact addw_u32 _ _
      have ft2 : ((t1.toNat : Int) + (q3.toNat : Int)) % 4294967296 = (t2.toNat : Int) := by rw [ht2]; exact add_u32 _ _
      obtain ⟨t3, ht3⟩ : ∃ z, z = t2 + kk := ⟨_, rfl⟩
      have et3 : IntKind.u32.wrap ((t2.toNat : Int) + (kk.toNat : Int)) = (t3.toNat : Int) := by rw [ht3]; exact addw_u32 _ _
      have ft3 : ((t2.toNat : Int) + (kk.toNat : Int)) % 4294967296 = (t3.toNat : Int) := by rw [ht3]; exact add_u32 _ _
      obtain ⟨X, hX⟩ : ∃ z, z = xw + t3 := ⟨_, rfl⟩
      have eX : IntKind.u32.wrap ((xw.toNat : Int) + (t3.toNat : Int)) = (X.toNat : Int) := by rw [hX]; exact addw_u32 _ _
      have fX : ((xw.toNat : Int) + (t3.toNat : Int)) % 4294967296 = (X.toNat : Int) := by rw [hX]; exact add_u32 _ _
      obtain ⟨r2, hr2⟩ : ∃ z, z = rr a 2 := ⟨_, rfl⟩
      have HR2 := Lib.hid (show ∀ w, Calls Try.prog 108 #[.int .u32 (a.toNat : Int), .int .i64 (-2)] w fun e w' => e = .returned (.int .u32 (r2.toNat : Int)) ∧ w' = w from fun w => by rw [hr2]; exact (rotr2_calls a w).mono fun e w' h => ⟨h.1, h.2.symm⟩)
      obtain ⟨r13, hr13⟩ : ∃ z, z = rr a 13 := ⟨_, rfl⟩
      have HR13 := Lib.hid (show ∀ w, Calls Try.prog 108 #[.int .u32 (a.toNat : Int), .int .i64 (-13)] w fun e w' => e = .returned (.int .u32 (r13.toNat : Int)) ∧ w' = w from fun w => by rw [hr13]; exact (rotr13_calls a w).mono fun e w' h => ⟨h.1, h.2.symm⟩)
      obtain ⟨r22, hr22⟩ : ∃ z, z = rr a 22 := ⟨_, rfl⟩
      have HR22 := Lib.hid (show ∀ w, Calls Try.prog 108 #[.int .u32 (a.toNat : Int), .int .i64 (-22)] w fun e w' => e = .returned (.int .u32 (r22.toNat : Int)) ∧ w' = w from fun w => by rw [hr22]; exact (rotr22_calls a w).mono fun e w' h => ⟨h.1, h.2.symm⟩)
      obtain ⟨o1, ho1⟩ : ∃ z, z = r2 ^^^ r13 := ⟨_, rfl⟩
      have eo1 : bits .xor .u32 (r2.toNat : Int) (r13.toNat : Int) = (o1.toNat : Int) := by rw [ho1]; exact xor_u32 _ _
      obtain ⟨o2, ho2⟩ : ∃ z, z = o1 ^^^ r22 := ⟨_, rfl⟩
      have eo2 : bits .xor .u32 (o1.toNat : Int) (r22.toNat : Int) = (o2.toNat : Int) := by rw [ho2]; exact xor_u32 _ _
      obtain ⟨j1, hj1⟩ : ∃ z, z = a &&& b1 := ⟨_, rfl⟩
      have ej1 : bits .and .u32 (a.toNat : Int) (b1.toNat : Int) = (j1.toNat : Int) := by rw [hj1]; exact and_u32 _ _
      obtain ⟨j2, hj2⟩ : ∃ z, z = a ||| b1 := ⟨_, rfl⟩
      have ej2 : bits .or .u32 (a.toNat : Int) (b1.toNat : Int) = (j2.toNat : Int) := by rw [hj2]; exact or_u32 _ _
      obtain ⟨j3, hj3⟩ : ∃ z, z = c &&& j2 := ⟨_, rfl⟩
      have ej3 : bits .and .u32 (c.toNat : Int) (j2.toNat : Int) = (j3.toNat : Int) := by rw [hj3]; exact and_u32 _ _
      obtain ⟨j4, hj4⟩ : ∃ z, z = j1 ||| j3 := ⟨_, rfl⟩
      have ej4 : bits .or .u32 (j1.toNat : Int) (j3.toNat : Int) = (j4.toNat : Int) := by rw [hj4]; exact or_u32 _ _
      obtain ⟨Y, hY⟩ : ∃ z, z = o2 + j4 := ⟨_, rfl⟩
      have eY : IntKind.u32.wrap ((o2.toNat : Int) + (j4.toNat : Int)) = (Y.toNat : Int) := by rw [hY]; exact addw_u32 _ _
      have fY : ((o2.toNat : Int) + (j4.toNat : Int)) % 4294967296 = (Y.toNat : Int) := by rw [hY]; exact add_u32 _ _
      obtain ⟨Z, hZ⟩ : ∃ z, z = X + Y := ⟨_, rfl⟩
      have eZ : IntKind.u32.wrap ((X.toNat : Int) + (Y.toNat : Int)) = (Z.toNat : Int) := by rw [hZ]; exact addw_u32 _ _
      have fZ : ((X.toNat : Int) + (Y.toNat : Int)) % 4294967296 = (Z.toNat : Int) := by rw [hZ]; exact add_u32 _ _
      obtain ⟨D, hD⟩ : ∃ z, z = d + X := ⟨_, rfl⟩
      have eD : IntKind.u32.wrap ((d.toNat : Int) + (X.toNat : Int)) = (D.toNat : Int) := by rw [hD]; exact addw_u32 _ _
      have fD : ((d.toNat : Int) + (X.toNat : Int)) % 4294967296 = (D.toNat : Int) := by rw [hD]; exact add_u32 _ _
      have HN := Lib.hid (show rounds ws s0 (n + 1) = ⟨Z, a, b1, c, D, e, f, g⟩ by
        rw [rounds, HR0.out, ← hxw, ← hkk]
        unfold rnd bg0 bg1 chs maj
        simp only [hZ, hD, hY, hX, ht3, ht2, ht1, hp2, hp1, hq3, hq2, hq1, ho2, ho1, hj4, hj3, hj2, hj1, hr2, hr6, hr11, hr13, hr22, hr25])
      have bbxw := xw.toNat_lt
      have bbkk := kk.toNat_lt
      have bbr6 := r6.toNat_lt
      have bbr11 := r11.toNat_lt
      have bbr25 := r25.toNat_lt
      have bbp1 := p1.toNat_lt
      have bbp2 := p2.toNat_lt
      have bbt1 := t1.toNat_lt
      have bbq1 := q1.toNat_lt
      have bbq2 := q2.toNat_lt
      have bbq3 := q3.toNat_lt
      have bbt2 := t2.toNat_lt
      have bbt3 := t3.toNat_lt
      have bbX := X.toNat_lt
      have bbr2 := r2.toNat_lt
      have bbr13 := r13.toNat_lt
      have bbr22 := r22.toNat_lt
      have bbo1 := o1.toNat_lt
      have bbo2 := o2.toNat_lt
      have bbj1 := j1.toNat_lt
      have bbj2 := j2.toNat_lt
      have bbj3 := j3.toNat_lt
      have bbj4 := j4.toNat_lt
      have bbY := Y.toNat_lt
      have bbZ := Z.toNat_lt
      have bbD := D.toNat_lt
      have bba := a.toNat_lt
      have bbb1 := b1.toNat_lt
      have bbc := c.toNat_lt
      have bbd := d.toNat_lt
      have bbe := e.toNat_lt
      have bbf := f.toNat_lt
      have bbg := g.toNat_lt
      have bbh := h.toNat_lt
      clear hxw hkk hr6 hr11 hr25 hp1 hp2 ht1 hq1 hq2 hq3 ht2 ht3 hX hr2 hr13 hr22 ho1 ho2 hj1 hj2 hj3 hj4 hY hZ hD
      go_wp2
      refine wp_region_still_tail 29 (by kernel_rfl) (by kernel_rfl) ?_
      simp only [List.take_succ_cons, List.take_zero, List.drop_succ_cons, List.drop_zero]
      change wpStill _ _ wr.drew (fun a' => wpList _ _ _ _ a' wr.drew) _ _
      repeat still_step
      still_call (HR6.out _)
      repeat still_step
      still_call (HR11.out _)
      repeat still_step
      still_call (HR25.out _)
      repeat still_step
      refine wpStill_nil ?_
      go_wp2_with (first
        | (go_at_call 108; with_reducible refine (HR2.out _).mono ?_; rintro e' w' ⟨rfl, rfl⟩)
        | (go_at_call 108; with_reducible refine (HR13.out _).mono ?_; rintro e' w' ⟨rfl, rfl⟩)
        | (go_at_call 108; with_reducible refine (HR22.out _).mono ?_; rintro e' w' ⟨rfl, rfl⟩))
      go_roundw
      case rel => exact ⟨n + 1, Z, a, b1, c, D, e, f, g, by omega, by go_num, HN.out, rfl, rfl, rfl, rfl, rfl, rfl, rfl, rfl, HF.out.drew⟩
      case measure => simp [intOf]; omega
    · have h64 : n = 64 := by omega
      subst h64
      have HX2 := HX.out
      rw [HR0.out] at HX2
      have HX3 := Lib.hid HX2
      clear HX2 HX
      go_wp2
      exact HX3.out _ _ _ _ _ _ _ _ _ _ _ _ _ _ _ _ _ _ _ _ _ _ _ _ _ _ _ _ _ _ _ _ _ _ _ _ _ _ _ _ _ _ _ _ _ _ _ _ _ _ _ _ _ _ _ _ _ _ _ _ _ _ _ _ _ _ _ _ _ _ _ _ _ _ _ _ _ _ _ _ _ _ _ _ _ _ _ _ _ _ _ _ _ _ _ _ _ _ _ _ _ _ _ _ _ _ _ _ _ _ _ _ _ _ _ _ _ _ _ _ _ _ _ _ _ _ _ _ _ _ _ _ _ _ _ _ _ _ _ _ _ _ _ _ _ _ _ _ _ _ _ _ _ _ _ _ _ _ _ _ _ _ _ _ _ _ _ _ _ _ _ _ _ _ _ _ _ _ _ _ _ _ _ _ _ HF.out
end Go.Proofs.Ytcchhfkmhbjdmaa
