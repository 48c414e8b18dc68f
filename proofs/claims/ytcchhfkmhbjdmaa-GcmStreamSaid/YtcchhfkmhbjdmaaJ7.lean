/- The digest's press: the whole. -/
import Derived.Test.YtcchhfkmhbjdmaaJ6
set_option linter.unusedVariables false
set_option linter.unusedSimpArgs false
set_option pp.deepTerms true
set_option pp.maxSteps 100000
namespace Go.Proofs.Ytcchhfkmhbjdmaa
open Go.RowKit
section
variable {P : Program} {ops : Array Oper} {rest : List Oper} {op : Oper} {a : Act} {w : World} {Q : Exit → Act → World → Prop}
theorem wpList_load_w (hgd : op.guard = none) (ty : TypeId) (x : Operand) (ho : op.op = .load ty x) (B : Nat) (hx : a.eval x = .pointer (some ⟨B, 0, none⟩)) (t : TypeId) (l : List UInt32) (fr : Nat × Nat) (n : Nat) (e : TypeId)
    (hg : w.heap[B]? = some (.cells (wcells l ++ []).toArray t fr)) (hu : P.underlying ty = some (.array n e)) (hn : l.length = n) (hi : (P.info? ty).map (·.size) = some n)
    (h : wpList P ops Q rest (a.put op.dst (.agg (wcells l).toArray)) w) : wpList P ops Q (op :: rest) a w :=
  wpList_load_row hgd ty x ho B hx t _ fr _ (by rw [List.append_nil] at hg; exact hg) hu rfl (by rw [hi, ← hn]; simp [wcells]) h
end
set_option maxRecDepth 100000 in
set_option maxHeartbeats 16000000 in
theorem press_sha (T K : Nat) (hl : List UInt32) (hh : hl.length = 8) (x y : Value) (b : List UInt8) (hb : b.length = 64) (w : World)
    (hT : w.heap[T]? = some (.cells (wcells hl ++ [x, y, .pointer (some ⟨K, 0, none⟩)]).toArray 111 (0, 0))) (hK : w.heap[K]? = some (.cells (wcells kT ++ []).toArray 115 (0, 0))) :
    Calls Try.prog 79 #[.pointer (some ⟨T, 0, none⟩), .string (str b)] w fun e w' => e = .returned (.tuple #[]) ∧ w'.heap[T]? = some (.cells (wcells (comp hl b) ++ [x, y, .pointer (some ⟨K, 0, none⟩)]).toArray 111 (0, 0)) ∧ Fr (fun i => i = T) w w' := by
  have HT := Lib.hid hT
  have HK := Lib.hid hK
  have HH := Lib.hid hh
  have HBB := Lib.hid hb
  have hTl := lt_of_heap hT
  have HTL := Lib.hid hTl
  clear hT hK hh hb hTl
  go_enter Try.func79, Try.ntmps79
  go_wp2
  have hB0 := heap_alloc_new w (.cells (wcells (List.replicate 64 0)).toArray 115)
  have hf0 : Fr (fun _ => False) w (w.alloc (.cells (wcells (List.replicate 64 0)).toArray 115)) := (Fr.refl _ _).alloc _
  obtain ⟨w1, hw1⟩ : ∃ w1, w1 = w.alloc (.cells (wcells (List.replicate 64 0)).toArray 115) := ⟨_, rfl⟩
  obtain ⟨B, hBd⟩ : ∃ B, B = w.heap.size := ⟨_, rfl⟩
  rw [← hw1] at hB0 hf0
  rw [← hBd] at hB0
  change Code.wp _ _ _ _ (w.alloc (.cells (wcells (List.replicate 64 0)).toArray 115))
  rw [← hw1, ← hBd]
  have HB0 := Lib.hid hB0
  have HF0 := Lib.hid hf0
  have HBT := Lib.hid (show B ≠ T by have := HTL.out; omega)
  have HWB := Lib.hid (show w.heap.size ≤ B by omega)
  clear hB0 hf0 hw1 hBd
  refine press_l1 T B b HBB.out w1 (by have := HB0.out; simpa using this) _ ?_
  intro u5 u23 u24 u25 u26 u27 u28 u29 u30 u31 u32 u33 u34 u35 u36 u37 u38 u39 u40 u41 u42 u43 u44 u45 u46 u47 u48 u49 u50 u51 u52 u53 u54 u55 u56 w2 hB1 hf1
  have HB1 := Lib.hid hB1
  have HF1 := Lib.hid (HF0.out.trans hf1 (fun i hi => .inr (by rw [hi]; exact HWB.out)))
  have HT1 := Lib.hid (hf1.heap (HF0.out.heap HT.out id) (Ne.symm HBT.out))
  have HK1 := Lib.hid HF1.out
  clear hB1 hf1
  go_wp2
  refine press_l2 _ _ _ _ _ _ _ _ _ _ _ _ _ _ _ _ _ _ _ _ _ _ _ _ _ _ _ _ _ _ _ _ _ _ _ T B b w2 HB1.out _ ?_
  clear HB1
  intro u5 u7 u8 u23 u24 u25 u26 u27 u28 u29 u30 u31 u32 u33 u34 u35 u36 u37 u38 u39 u40 u41 u42 u43 u44 u45 u46 u47 u48 u49 u50 u51 u52 u53 u54 u55 u56 u57 u58 u59 u60 u61 u62 u63 u64 u65 u66 u67 u68 u69 u70 u71 u72 u73 u74 u75 u76 u77 u78 u79 u80 u81 u82 u83 u84 u85 u86 u87 u88 u89 u90 u91 u92 u93 u94 u95 u96 u97 w3 hB2 hf2
  have HB2 := Lib.hid hB2
  have HF2 := Lib.hid (HF1.out.trans hf2 (fun i hi => .inr (by rw [hi]; exact HWB.out)))
  have HT2 := Lib.hid (HF2.out.heap HT.out id)
  have HK2 := Lib.hid (HF2.out.heap HK.out id)
  have HWL := Lib.hid (sws_length b 64)
  clear hB2 hf2 HF1 HT1 HK1
  have cT : ∀ k, k < 8 → w3.drew.cell? ⟨T, k, none⟩ = some (.int .u32 ((hl.getD k 0).toNat : Int)) := fun k hk => wcells_cell (w := w3.drew) HT2.out k _ (get_some32 HH.out k hk)
  have c0 := cT 0 (by omega)
  have c1 := cT 1 (by omega)
  have c2 := cT 2 (by omega)
  have c3 := cT 3 (by omega)
  have c4 := cT 4 (by omega)
  have c5 := cT 5 (by omega)
  have c6 := cT 6 (by omega)
  have c7 := cT 7 (by omega)
  clear cT
  go_wp2
  refine wp_region_still_tail 47 (by kernel_rfl) (by kernel_rfl) ?_
  simp only [List.take_succ_cons, List.take_zero, List.drop_succ_cons, List.drop_zero]
  change wpStill _ _ w3.drew (fun a' => wpList _ _ _ _ a' w3.drew) _ _
  repeat still_step
  refine wpStill_nil ?_
  have HF3 := Lib.hid HF2.out.drew
  have HT3 := Lib.hid (show w3.drew.heap[T]? = _ from HT2.out)
  have HK3 := Lib.hid (show w3.drew.heap[K]? = _ from HK2.out)
  have HB3 := Lib.hid (show w3.drew.heap[B]? = _ from HB2.out)
  clear c0 c1 c2 c3 c4 c5 c6 c7
  generalize w3.drew = w4 at HF3 HT3 HK3 HB3 ⊢
  go_wp2_with (with_reducible refine wpList_load_w (op := ⟨some 138, _, _, _, _, _⟩) rfl 115 _ rfl B rfl 115 (sws b 64) _ 64 106 HB3.out Try.underlying115 HWL.out (by kernel_rfl) ?_)
  refine press_l3 _ _ _ _ _ _ _ _ _ _ _ _ _ _ _ _ _ _ _ _ _ _ _ _ _ _ _ _ _ _ _ _ _ _ _ _ _ _ _ _ _ _ _ _ _ _ _ _ _ _ _ _ _ _ _ _ _ _ _ _ _ _ _ _ _ _ _ _ _ _ _ _ _ _ _ _ _ _ _ _ _ _ _ _ _ _ _ _ _ _ _ _ _ _ _ _ _ _ _ _ _ _ _ _ _ _ _ _ _ _ _ _ _ _ _ _ _ _ T B K b (sws b 64) HWL.out hl HH.out x y (R8.of hl) w4 HT3.out HK3.out _ ?_
  intro v5 v7 v8 v17 v18 v19 v23 v24 v25 v26 v27 v28 v29 v30 v31 v32 v33 v34 v35 v36 v37 v38 v39 v40 v41 v42 v43 v44 v45 v46 v47 v48 v49 v50 v51 v52 v53 v54 v55 v56 v57 v58 v59 v60 v61 v62 v63 v64 v65 v66 v67 v68 v69 v70 v71 v72 v73 v74 v75 v76 v77 v78 v79 v80 v81 v82 v83 v84 v85 v86 v87 v88 v89 v90 v91 v92 v93 v94 v95 v96 v97 v98 v99 v100 v101 v102 v103 v104 v105 v106 v107 v108 v109 v110 v111 v112 v113 v114 v115 v116 v117 v118 v119 v120 v121 v122 v123 v124 v125 v126 v127 v128 v129 v130 v131 v132 v133 v134 v135 v136 v137 v140 v141 v142 v143 v144 v145 v146 v147 v148 v149 v150 v151 v152 v153 v154 v155 v156 v157 v158 v159 v160 v161 v162 v163 v164 v165 v166 v167 v168 v169 v170 v171 v172 v173 v174 v175 v176 v177 v178 v179 v180 v181 v182 v183 v184 v185 v186 v187 v188 v189 v190 v191 v192 v193 v194 v195 v196 v197 v198 v199 v200 v201 v202 w5 hf5
  have HF5 := Lib.hid (HF3.out.trans hf5 (fun i hi => hi.elim))
  have HT5 := Lib.hid (hf5.heap HT3.out id)
  clear hf5
  go_wp2
  refine press_l4 _ _ _ _ _ _ _ _ _ _ _ _ _ _ _ _ _ _ _ _ _ _ _ _ _ _ _ _ _ _ _ _ _ _ _ _ _ _ _ _ _ _ _ _ _ _ _ _ _ _ _ _ _ _ _ _ _ _ _ _ _ _ _ _ _ _ _ _ _ _ _ _ _ _ _ _ _ _ _ _ _ _ _ _ _ _ _ _ _ _ _ _ _ _ _ _ _ _ _ _ _ _ _ _ _ _ _ _ _ _ _ _ _ _ _ _ _ _ _ _ _ _ _ _ _ _ _ _ _ _ _ _ _ _ _ _ _ _ _ _ _ _ _ _ _ _ _ _ _ _ _ _ _ _ _ _ _ _ _ _ _ _ _ _ _ _ _ _ _ _ _ _ _ _ _ _ _ _ _ _ _ _ _ _ _ _ _ _ _ _ _ _ _ _ _ _ _ _ _ _ _ _ T B b (rounds (sws b 64) (R8.of hl) 64).list rfl hl HH.out [x, y, .pointer (some ⟨K, 0, none⟩)] w5 HT5.out _ ?_
  intro r5 r7 r8 r9 r10 r11 r12 r13 r14 r15 r16 r17 r18 r19 r20 r21 r23 r24 r25 r26 r27 r28 r29 r30 r31 r32 r33 r34 r35 r36 r37 r38 r39 r40 r41 r42 r43 r44 r45 r46 r47 r48 r49 r50 r51 r52 r53 r54 r55 r56 r57 r58 r59 r60 r61 r62 r63 r64 r65 r66 r67 r68 r69 r70 r71 r72 r73 r74 r75 r76 r77 r78 r79 r80 r81 r82 r83 r84 r85 r86 r87 r88 r89 r90 r91 r92 r93 r94 r95 r96 r97 r98 r99 r100 r101 r102 r103 r104 r105 r106 r107 r108 r109 r110 r111 r112 r113 r114 r115 r116 r117 r118 r119 r120 r121 r122 r123 r124 r125 r126 r127 r128 r129 r130 r131 r132 r133 r134 r135 r136 r137 r138 r139 r140 r141 r142 r143 r144 r145 r146 r147 r148 r149 r150 r151 r152 r153 r154 r155 r156 r157 r158 r159 r160 r161 r162 r163 r164 r165 r166 r167 r168 r169 r170 r171 r172 r173 r174 r175 r176 r177 r178 r179 r180 r181 r182 r183 r184 r185 r186 r187 r188 r189 r190 r191 r192 r193 r194 r195 r196 r197 r198 r199 r200 r201 r202 r203 r204 r205 r206 r207 r208 r209 r210 r213 r214 r215 r216 r217 r218 r219 r220 r221 r222 r223 r224 r225 r226 r227 w6 hT6 hf6
  have HT6 := Lib.hid hT6
  have HF6 := Lib.hid (show Fr (fun i => i = T) w w6 from (HF5.out.mono (fun i hi => hi.elim)).trans hf6 (fun i hi => .inl hi))
  clear hT6 hf6
  go_wp2
  go_end0
  exact ⟨rfl, HT6.out, HF6.out⟩
end Go.Proofs.Ytcchhfkmhbjdmaa
