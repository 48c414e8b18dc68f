/- The digest walked; blocks: load, text, Product, turn, fill. -/
import Derived.Deep.LoopGhost
import Derived.Shelf.Strings.Repeat
import Derived.Laws.OwnMore
import Derived.Test.YtcchhfkmhbjdmaaPm3
/-! J7 -/
set_option linter.unusedVariables false
set_option linter.unusedSimpArgs false
set_option pp.deepTerms true
set_option pp.maxSteps 100000
namespace Go.Proofs.Ytcchhfkmhbjdmaa
open Go.RowKit
section
variable {P : Program} {ops : Array Oper} {rest : List Oper} {op : Oper} {a : Act} {w : World} {Q : Exit → Act → World → Prop}
theorem wpList_load_w (hgd : op.guard = none) (ty : TypeId) (x : Operand) (ho : op.op = .load ty x) (B : Nat) (hx : a.eval x = .pointer (some ⟨B, 0, none⟩)) (t : TypeId) (l : List UInt32) (fr : Nat × Nat) (n : Nat) (e : TypeId)
    (hg : w.heap[B]? = some (.cells (wcells l ++ []).toArray t fr)) (hu : P.underlying ty = some (.array n e)) (hn : l.length = n) (hi : (P.info? ty).map (·.size) = some n)
    (h : wpList P ops Q rest (a.put op.dst (.agg (wcells l).toArray)) w) : wpList P ops Q (op :: rest) a w :=
  wpList_load_row hgd ty x ho B hx t _ fr _ (by rw [List.append_nil] at hg; exact hg) hu rfl (by rw [hi, ← hn]; simp [wcells]) h
end
set_option maxRecDepth 100000 in
set_option maxHeartbeats 16000000 in
theorem press_sha (T K : Nat) (hl : List UInt32) (hh : hl.length = 8) (x y : Value) (b : List UInt8) (hb : b.length = 64) (w : World)
    (hT : w.heap[T]? = some (.cells (wcells hl ++ [x, y, .pointer (some ⟨K, 0, none⟩)]).toArray 111 (0, 0))) (hK : w.heap[K]? = some (.cells (wcells kT ++ []).toArray 115 (0, 0))) :
    Calls Try.prog 79 #[.pointer (some ⟨T, 0, none⟩), .string (str b)] w fun e w' => e = .returned (.tuple #[]) ∧ w'.heap[T]? = some (.cells (wcells (comp hl b) ++ [x, y, .pointer (some ⟨K, 0, none⟩)]).toArray 111 (0, 0)) ∧ Fr (fun i => i = T) w w' := by
  have HT := Lib.hid hT
  have HK := Lib.hid hK
  have HH := Lib.hid hh
  have HBB := Lib.hid hb
  have hTl := lt_of_heap hT
  have HTL := Lib.hid hTl
  clear hT hK hh hb hTl
  go_enter Try.func79, Try.ntmps79
  go_wp2
  have hB0 := heap_alloc_new w (.cells (wcells (List.replicate 64 0)).toArray 115)
  have hf0 : Fr (fun _ => False) w (w.alloc (.cells (wcells (List.replicate 64 0)).toArray 115)) := (Fr.refl _ _).alloc _
  obtain ⟨w1, hw1⟩ : ∃ w1, w1 = w.alloc (.cells (wcells (List.replicate 64 0)).toArray 115) := ⟨_, rfl⟩
  obtain ⟨B, hBd⟩ : ∃ B, B = w.heap.size := ⟨_, rfl⟩
  rw [← hw1] at hB0 hf0
  rw [← hBd] at hB0
  change Code.wp _ _ _ _ (w.alloc (.cells (wcells (List.replicate 64 0)).toArray 115))
  rw [← hw1, ← hBd]
  have HB0 := Lib.hid hB0
  have HF0 := Lib.hid hf0
  have HBT := Lib.hid (show B ≠ T by have := HTL.out; omega)
  have HWB := Lib.hid (show w.heap.size ≤ B by omega)
  clear hB0 hf0 hw1 hBd
  refine press_l1 T B b HBB.out w1 (by have := HB0.out; simpa using this) _ ?_
  intro u5 u23 u24 u25 u26 u27 u28 u29 u30 u31 u32 u33 u34 u35 u36 u37 u38 u39 u40 u41 u42 u43 u44 u45 u46 u47 u48 u49 u50 u51 u52 u53 u54 u55 u56 w2 hB1 hf1
  have HB1 := Lib.hid hB1
  have HF1 := Lib.hid (HF0.out.trans hf1 (fun i hi => .inr (by rw [hi]; exact HWB.out)))
  have HT1 := Lib.hid (hf1.heap (HF0.out.heap HT.out id) (Ne.symm HBT.out))
  have HK1 := Lib.hid HF1.out
  clear hB1 hf1
  go_wp2
  refine press_l2 _ _ _ _ _ _ _ _ _ _ _ _ _ _ _ _ _ _ _ _ _ _ _ _ _ _ _ _ _ _ _ _ _ _ _ T B b w2 HB1.out _ ?_
  clear HB1
  intro u5 u7 u8 u23 u24 u25 u26 u27 u28 u29 u30 u31 u32 u33 u34 u35 u36 u37 u38 u39 u40 u41 u42 u43 u44 u45 u46 u47 u48 u49 u50 u51 u52 u53 u54 u55 u56 u57 u58 u59 u60 u61 u62 u63 u64 u65 u66 u67 u68 u69 u70 u71 u72 u73 u74 u75 u76 u77 u78 u79 u80 u81 u82 u83 u84 u85 u86 u87 u88 u89 u90 u91 u92 u93 u94 u95 u96 u97 w3 hB2 hf2
  have HB2 := Lib.hid hB2
  have HF2 := Lib.hid (HF1.out.trans hf2 (fun i hi => .inr (by rw [hi]; exact HWB.out)))
  have HT2 := Lib.hid (HF2.out.heap HT.out id)
  have HK2 := Lib.hid (HF2.out.heap HK.out id)
  have HWL := Lib.hid (sws_length b 64)
  clear hB2 hf2 HF1 HT1 HK1
  have cT : ∀ k, k < 8 → w3.drew.cell? ⟨T, k, none⟩ = some (.int .u32 ((hl.getD k 0).toNat : Int)) := fun k hk => wcells_cell (w := w3.drew) HT2.out k _ (get_some32 HH.out k hk)
  have c0 := cT 0 (by omega)
  have c1 := cT 1 (by omega)
  have c2 := cT 2 (by omega)
  have c3 := cT 3 (by omega)
  have c4 := cT 4 (by omega)
  have c5 := cT 5 (by omega)
  have c6 := cT 6 (by omega)
  have c7 := cT 7 (by omega)
  clear cT
  go_wp2
  refine wp_region_still_tail 47 (by kernel_rfl) (by kernel_rfl) ?_
  simp only [List.take_succ_cons, List.take_zero, List.drop_succ_cons, List.drop_zero]
  change wpStill _ _ w3.drew (fun a' => wpList _ _ _ _ a' w3.drew) _ _
  repeat still_step
  refine wpStill_nil ?_
  have HF3 := Lib.hid HF2.out.drew
  have HT3 := Lib.hid (show w3.drew.heap[T]? = _ from HT2.out)
  have HK3 := Lib.hid (show w3.drew.heap[K]? = _ from HK2.out)
  have HB3 := Lib.hid (show w3.drew.heap[B]? = _ from HB2.out)
  clear c0 c1 c2 c3 c4 c5 c6 c7
  generalize w3.drew = w4 at HF3 HT3 HK3 HB3 ⊢
  go_wp2_with (with_reducible refine wpList_load_w (op := ⟨some 138, _, _, _, _, _⟩) rfl 115 _ rfl B rfl 115 (sws b 64) _ 64 106 HB3.out Try.underlying115 HWL.out (by kernel_rfl) ?_)
  refine press_l3 _ _ _ _ _ _ _ _ _ _ _ _ _ _ _ _ _ _ _ _ _ _ _ _ _ _ _ _ _ _ _ _ _ _ _ _ _ _ _ _ _ _ _ _ _ _ _ _ _ _ _ _ _ _ _ _ _ _ _ _ _ _ _ _ _ _ _ _ _ _ _ _ _ _ _ _ _ _ _ _ _ _ _ _ _ _ _ _ _ _ _ _ _ _ _ _ _ _ _ _ _ _ _ _ _ _ _ _ _ _ _ _ _ _ _ _ _ _ T B K b (sws b 64) HWL.out hl HH.out x y (R8.of hl) w4 HT3.out HK3.out _ ?_
  intro v5 v7 v8 v17 v18 v19 v23 v24 v25 v26 v27 v28 v29 v30 v31 v32 v33 v34 v35 v36 v37 v38 v39 v40 v41 v42 v43 v44 v45 v46 v47 v48 v49 v50 v51 v52 v53 v54 v55 v56 v57 v58 v59 v60 v61 v62 v63 v64 v65 v66 v67 v68 v69 v70 v71 v72 v73 v74 v75 v76 v77 v78 v79 v80 v81 v82 v83 v84 v85 v86 v87 v88 v89 v90 v91 v92 v93 v94 v95 v96 v97 v98 v99 v100 v101 v102 v103 v104 v105 v106 v107 v108 v109 v110 v111 v112 v113 v114 v115 v116 v117 v118 v119 v120 v121 v122 v123 v124 v125 v126 v127 v128 v129 v130 v131 v132 v133 v134 v135 v136 v137 v140 v141 v142 v143 v144 v145 v146 v147 v148 v149 v150 v151 v152 v153 v154 v155 v156 v157 v158 v159 v160 v161 v162 v163 v164 v165 v166 v167 v168 v169 v170 v171 v172 v173 v174 v175 v176 v177 v178 v179 v180 v181 v182 v183 v184 v185 v186 v187 v188 v189 v190 v191 v192 v193 v194 v195 v196 v197 v198 v199 v200 v201 v202 w5 hf5
  have HF5 := Lib.hid (HF3.out.trans hf5 (fun i hi => hi.elim))
  have HT5 := Lib.hid (hf5.heap HT3.out id)
  clear hf5
  go_wp2
  refine press_l4 _ _ _ _ _ _ _ _ _ _ _ _ _ _ _ _ _ _ _ _ _ _ _ _ _ _ _ _ _ _ _ _ _ _ _ _ _ _ _ _ _ _ _ _ _ _ _ _ _ _ _ _ _ _ _ _ _ _ _ _ _ _ _ _ _ _ _ _ _ _ _ _ _ _ _ _ _ _ _ _ _ _ _ _ _ _ _ _ _ _ _ _ _ _ _ _ _ _ _ _ _ _ _ _ _ _ _ _ _ _ _ _ _ _ _ _ _ _ _ _ _ _ _ _ _ _ _ _ _ _ _ _ _ _ _ _ _ _ _ _ _ _ _ _ _ _ _ _ _ _ _ _ _ _ _ _ _ _ _ _ _ _ _ _ _ _ _ _ _ _ _ _ _ _ _ _ _ _ _ _ _ _ _ _ _ _ _ _ _ _ _ _ _ _ _ _ _ _ _ _ _ _ T B b (rounds (sws b 64) (R8.of hl) 64).list rfl hl HH.out [x, y, .pointer (some ⟨K, 0, none⟩)] w5 HT5.out _ ?_
  intro r5 r7 r8 r9 r10 r11 r12 r13 r14 r15 r16 r17 r18 r19 r20 r21 r23 r24 r25 r26 r27 r28 r29 r30 r31 r32 r33 r34 r35 r36 r37 r38 r39 r40 r41 r42 r43 r44 r45 r46 r47 r48 r49 r50 r51 r52 r53 r54 r55 r56 r57 r58 r59 r60 r61 r62 r63 r64 r65 r66 r67 r68 r69 r70 r71 r72 r73 r74 r75 r76 r77 r78 r79 r80 r81 r82 r83 r84 r85 r86 r87 r88 r89 r90 r91 r92 r93 r94 r95 r96 r97 r98 r99 r100 r101 r102 r103 r104 r105 r106 r107 r108 r109 r110 r111 r112 r113 r114 r115 r116 r117 r118 r119 r120 r121 r122 r123 r124 r125 r126 r127 r128 r129 r130 r131 r132 r133 r134 r135 r136 r137 r138 r139 r140 r141 r142 r143 r144 r145 r146 r147 r148 r149 r150 r151 r152 r153 r154 r155 r156 r157 r158 r159 r160 r161 r162 r163 r164 r165 r166 r167 r168 r169 r170 r171 r172 r173 r174 r175 r176 r177 r178 r179 r180 r181 r182 r183 r184 r185 r186 r187 r188 r189 r190 r191 r192 r193 r194 r195 r196 r197 r198 r199 r200 r201 r202 r203 r204 r205 r206 r207 r208 r209 r210 r213 r214 r215 r216 r217 r218 r219 r220 r221 r222 r223 r224 r225 r226 r227 w6 hT6 hf6
  have HT6 := Lib.hid hT6
  have HF6 := Lib.hid (show Fr (fun i => i = T) w w6 from (HF5.out.mono (fun i hi => hi.elim)).trans hf6 (fun i hi => .inl hi))
  clear hT6 hf6
  go_wp2
  go_end0
  exact ⟨rfl, HT6.out, HF6.out⟩
end Go.Proofs.Ytcchhfkmhbjdmaa
/-! J8 -/
set_option linter.unusedVariables false
set_option linter.unusedSimpArgs false
set_option pp.deepTerms true
set_option pp.maxSteps 100000
namespace Go.Proofs.Ytcchhfkmhbjdmaa
open Go.RowKit
/-- A tally in memory. -/
def tcells (K : Nat) (t : Tal) : List Value := wcells t.h ++ [.string (str t.rest), .int .i64 (t.n : Int), .pointer (some ⟨K, 0, none⟩)]
structure TRep (w : World) (T K : Nat) (t : Tal) : Prop where
  row : w.heap[T]? = some (.cells (tcells K t).toArray 111 (0, 0))
  tab : w.heap[K]? = some (.cells (wcells kT ++ []).toArray 115 (0, 0))
  ne : K ≠ T
  ok : t.Ok
theorem TRep.fr {F : Nat → Prop} {w w' : World} {T K : Nat} {t : Tal} (h : TRep w T K t) (hf : Fr F w w') (hT : ¬ F T) (hK : ¬ F K) : TRep w' T K t :=
  ⟨hf.heap h.row hT, hf.heap h.tab hK, h.ne, h.ok⟩
theorem tcells_cell {w : World} {T : Nat} {hl : List UInt32} (hh : hl.length = 8) {x y z : Value} (h : w.heap[T]? = some (.cells (wcells hl ++ [x, y, z]).toArray 111 (0, 0))) :
    w.cell? ⟨T, 8, none⟩ = some x ∧ w.cell? ⟨T, 9, none⟩ = some y ∧ w.cell? ⟨T, 10, none⟩ = some z := by
  have hl8 : (wcells hl).length = 8 := by rw [wcells_length, hh]
  refine ⟨?_, ?_, ?_⟩ <;> rw [cell_of_row w T _ _ _ _ h, List.getElem?_toArray, List.getElem?_append_right (by omega), hl8] <;> rfl
theorem tcells_set8 {w : World} {T : Nat} {hl : List UInt32} (hh : hl.length = 8) {x y z : Value} (h : w.heap[T]? = some (.cells (wcells hl ++ [x, y, z]).toArray 111 (0, 0))) (v : Value) :
    (w.setCell ⟨T, 8, none⟩ v).heap[T]? = some (.cells (wcells hl ++ [v, y, z]).toArray 111 (0, 0)) := by
  have hl8 : (wcells hl).length = 8 := by rw [wcells_length, hh]
  rw [heap_setCell_same w T 8 _ _ _ h]
  simp [List.set_append, hl8]
theorem tcells_set9 {w : World} {T : Nat} {hl : List UInt32} (hh : hl.length = 8) {x y z : Value} (h : w.heap[T]? = some (.cells (wcells hl ++ [x, y, z]).toArray 111 (0, 0))) (v : Value) :
    (w.setCell ⟨T, 9, none⟩ v).heap[T]? = some (.cells (wcells hl ++ [x, v, z]).toArray 111 (0, 0)) := by
  have hl8 : (wcells hl).length = 8 := by rw [wcells_length, hh]
  rw [heap_setCell_same w T 9 _ _ _ h]
  simp [List.set_append, hl8]
theorem jstr_append (a b : List UInt8) : str a ++ str b = str (a ++ b) := by
  apply ByteArray.ext
  simp [str]
theorem jstr_take (a : List UInt8) (n : Nat) : (str a).extract 0 n = str (a.take n) := by
  apply ByteArray.ext
  simp [str]
theorem jstr_drop (a : List UInt8) (n : Nat) : (str a).extract n (str a).size = str (a.drop n) := by
  apply ByteArray.ext
  simp [str, ByteArray.size]
  exact List.take_of_length_le (by simp)
set_option maxRecDepth 100000 in
set_option maxHeartbeats 4000000 in
theorem sha_new (w : World) : Calls Try.prog 28 #[] w fun e w' => ∃ T K, e = .returned (.pointer (some ⟨T, 0, none⟩)) ∧ TRep w' T K Tal.new ∧ w.heap.size ≤ T ∧ w.heap.size ≤ K ∧ Fr (fun _ => False) w w' := by
  go_enter Try.func28, Try.ntmps28
  go_wp2
  go_ret
  refine ⟨w.heap.size + 1, w.heap.size, rfl, ⟨?_, ?_, by omega, Tal.new_ok⟩, by omega, Nat.le_refl _, ?_⟩
  · have := heap_alloc_new (w.alloc (.cells (wcells kT).toArray 115)) (.cells (tcells w.heap.size Tal.new).toArray 111)
    rw [World.size_alloc] at this
    exact this
  · rw [List.append_nil]
    exact ((Fr.refl (fun _ => False) (w.alloc (.cells (wcells kT).toArray 115))).alloc (.cells (tcells w.heap.size Tal.new).toArray 111)).heap (heap_alloc_new w _) id
  · exact ((Fr.refl _ _).alloc _).alloc _
set_option maxRecDepth 20000 in
set_option maxHeartbeats 4000000 in
theorem sha_len (T K : Nat) (t : Tal) (w : World) (h : TRep w T K t) : Calls Try.prog 32 #[.pointer (some ⟨T, 0, none⟩)] w fun e w' => e = .returned (.int .i64 (t.n : Int)) ∧ w = w' := by
  have c9 := (tcells_cell h.ok.h h.row).2.1
  clear h
  go_enter Try.func32, Try.ntmps32
  go_wp2
  go_ret
  exact ⟨rfl, rfl⟩
end Go.Proofs.Ytcchhfkmhbjdmaa
/-! J9 -/
set_option linter.unusedVariables false
set_option linter.unusedSimpArgs false
set_option pp.deepTerms true
set_option pp.maxSteps 100000
namespace Go.Proofs.Ytcchhfkmhbjdmaa
open Go.RowKit
/-- A tally's row. -/
def TRow (w : World) (T K : Nat) (hl : List UInt32) (l : List UInt8) (n : Nat) : Prop := w.heap[T]? = some (.cells (wcells hl ++ ([.string (str l), .int .i64 (n : Int), .pointer (some ⟨K, 0, none⟩)] : List Value)).toArray 111 (0, 0))
set_option maxRecDepth 20000 in
set_option maxHeartbeats 4000000 in
theorem sha_add (T K : Nat) (t : Tal) (s : List UInt8) (hb : t.n + s.length ≤ 1099511627776) (w : World) (h : TRep w T K t) :
    Calls Try.prog 29 #[.pointer (some ⟨T, 0, none⟩), .string (str s)] w fun e w' => e = .returned (.pointer (some ⟨T, 0, none⟩)) ∧ TRep w' T K (t.add s) ∧ Fr (fun i => i = T) w w' := by
  obtain ⟨n2, hn2⟩ : ∃ n, n = t.n + s.length := ⟨_, rfl⟩
  have hsz : (str s).size = s.length := str_size s
  have c9 := (tcells_cell h.ok.h h.row).2.1
  have c8 := (tcells_cell h.ok.h h.row).1
  have hz9 : w.frozen? ⟨T, 9, none⟩ = false := frozen_of_row w _ _ _ _ h.row
  have hr1 := tcells_set9 h.ok.h h.row (.int .i64 (n2 : Int))
  have hw9 : IntKind.i64.wrap ((t.n : Int) + (s.length : Int)) = (n2 : Int) := by rw [IntWalk.i64_in _ (by omega)]; omega
  have d8 := (tcells_cell h.ok.h hr1).1
  have hz8 : (w.setCell ⟨T, 9, none⟩ (.int .i64 (n2 : Int))).frozen? ⟨T, 8, none⟩ = false := frozen_of_row _ _ _ _ _ hr1
  have hl0 : t.rest.length < 64 := h.ok.rest
  have hsb : ¬ 9223372036854775807 < (str t.rest).size + (str s).size := by rw [str_size, str_size]; omega
  have hr2 := tcells_set8 h.ok.h hr1 (.string (str (t.rest ++ s)))
  have hap := jstr_append t.rest s
  have hf1 : Fr (fun i => i = T) w (w.setCell ⟨T, 9, none⟩ (.int .i64 (n2 : Int))) := (Fr.refl _ _).setCell _ _ (.inl rfl)
  have hf2 : Fr (fun i => i = T) w ((w.setCell ⟨T, 9, none⟩ (.int .i64 (n2 : Int))).setCell ⟨T, 8, none⟩ (.string (str (t.rest ++ s)))) := hf1.setCell _ _ (.inl rfl)
  have HR2 := Lib.hid hr2
  have HF2 := Lib.hid hf2
  have HTAB := Lib.hid h.tab
  have HOK := Lib.hid h.ok
  have HNE := Lib.hid h.ne
  have HN2 := Lib.hid hn2
  have HADD := Lib.hid (h.ok.add s)
  clear h hr1 hr2 hf1 hf2 hn2
  go_enter Try.func29, Try.ntmps29
  go_wp2
  generalize (w.setCell ⟨T, 9, none⟩ (.int .i64 (n2 : Int))).setCell ⟨T, 8, none⟩ (.string (str (t.rest ++ s))) = w1 at HR2 HF2 ⊢
  clear c9 c8 hz9 hw9 d8 hz8 hsb hap
  go_loopg [] (t.rest ++ s).length (fun k wx => ∃ (hl : List UInt32) (l : List UInt8), k = l.length ∧ hl.length = 8 ∧ TRow wx T K hl l n2 ∧ eatAll hl l = eatAll t.h (t.rest ++ s) ∧ l.length ≤ n2 + 64 ∧ Fr (fun i => i = T) w wx)
  case atStart => exact ⟨t.h, t.rest ++ s, rfl, HOK.out.h, HR2.out, rfl, by rw [List.length_append]; have := HN2.out; omega, HF2.out⟩
  case round =>
    obtain ⟨hl, l, hk, hh, hr, he, hll, hf⟩ := hrel
    have HKL := Lib.hid hk
    have HH := Lib.hid hh
    have HR := Lib.hid hr
    have HE := Lib.hid he
    have HF := Lib.hid hf
    have c8 := (tcells_cell hh (show wr.heap[T]? = some (.cells (wcells hl ++ ([.string (str l), .int .i64 (n2 : Int), .pointer (some ⟨K, 0, none⟩)] : List Value)).toArray 111 (0, 0)) from hr)).1
    have hs2 : (str l).size = l.length := str_size l
    have HN := Lib.hid (show l.length ≤ 2199023255552 by have := HN2.out; omega)
    have HLL := Lib.hid hll
    clear hr he hf hk hh HR2 HF2 hll
    by_cases hlt : 64 ≤ l.length
    · have hd : (64 : Int) ≤ (l.length : Int) := by omega
      have hx1 : (str l).extract 0 64 = str (l.take 64) := jstr_take l 64
      have hx2 : (str l).extract 64 l.length = str (l.drop 64) := by rw [← hs2]; exact jstr_drop l 64
      have HB := Lib.hid (show (l.take 64).length = 64 by rw [List.length_take]; omega)
      go_wp2_with fail
      refine (press_sha T K hl HH.out (.string (str l)) (.int .i64 (n2 : Int)) (l.take 64) HB.out wr HR.out (HF.out.heap HTAB.out HNE.out)).mono ?_
      rintro e w2 ⟨rfl, h2, hf2⟩
      have HCL := Lib.hid (comp_length hl (l.take 64))
      have c82 := (tcells_cell HCL.out h2).1
      have hz82 : w2.frozen? ⟨T, 8, none⟩ = false := frozen_of_row w2 _ _ _ _ h2
      have HR3 := Lib.hid (tcells_set8 HCL.out h2 (.string (str (l.drop 64))))
      have HF3 := Lib.hid (((HF.out.trans hf2 (fun i hi => .inl hi)).setCell ⟨T, 8, none⟩ (.string (str (l.drop 64))) (.inl rfl)))
      clear h2 hf2 c8
      go_wp2_with fail
      have HE3 := Lib.hid (show eatAll (comp hl (l.take 64)) (l.drop 64) = eatAll t.h (t.rest ++ s) by rw [← HE.out, eatAll_step hl l hlt])
      go_roundg (l.drop 64).length
      case measure => rw [List.length_drop]; have := HKL.out; omega
      case rel => exact ⟨_, _, rfl, HCL.out, HR3.out, HE3.out, by rw [List.length_drop]; have := HLL.out; omega, HF3.out⟩
    · have hd : ¬ (64 : Int) ≤ (l.length : Int) := by omega
      have hev : eatAll t.h (t.rest ++ s) = (hl, l) := by rw [← HE.out, eatAll_done hl l (by omega)]
      have HT := Lib.hid (show TRep wr T K (t.add s) by
        refine ⟨?_, HF.out.heap HTAB.out HNE.out, HNE.out, HADD.out⟩
        unfold tcells Tal.add
        rw [hev, ← HN2.out]
        exact HR.out)
      clear hev
      go_wp2_with fail
      go_ret
      exact ⟨rfl, HT.out, HF.out⟩
end Go.Proofs.Ytcchhfkmhbjdmaa
/-! Ja -/
set_option linter.unusedVariables false
set_option linter.unusedSimpArgs false
namespace Go.Proofs.Ytcchhfkmhbjdmaa
open Go.Shelf
def lays105_ren : Go.Shelf.Ren := ⟨fun | 105 => 80 | 212 => 109 | 99 => 110 | 165 => 111 | 166 => 112 | 170 => 113 | 169 => 114 | 263 => 130 | 264 => 131 | 206 => 132 | 240 => 133 | 241 => 134 | 276 => 144 | 277 => 145 | n => n, fun | 9 => 9 | 3 => 3 | 4 => 4 | 20 => 20 | 0 => 0 | 46 => 98 | 109 => 147 | 5 => 5 | 72 => 151 | 76 => 155 | 51 => 106 | 146 => 168 | 53 => 125 | 148 => 170 | 70 => 149 | 37 => 27 | 75 => 154 | 127 => 172 | 164 => 185 | 80 => 47 | n => n, fun | n => n⟩
theorem lays105 : Go.Proofs.Lays.n105 Try.prog lays105_ren := {
  mixed := by kernel_rfl
  f99 := Try.func110.trans (congrArg some (by kernel_rfl))
  f105 := Try.func80.trans (congrArg some (by kernel_rfl))
  f165 := Try.func111.trans (congrArg some (by kernel_rfl))
  f166 := Try.func112.trans (congrArg some (by kernel_rfl))
  f169 := Try.func114.trans (congrArg some (by kernel_rfl))
  f170 := Try.func113.trans (congrArg some (by kernel_rfl))
  f206 := Try.func132.trans (congrArg some (by kernel_rfl))
  f212 := Try.func109.trans (congrArg some (by kernel_rfl))
  f240 := Try.func133.trans (congrArg some (by kernel_rfl))
  f241 := Try.func134.trans (congrArg some (by kernel_rfl))
  f263 := Try.func130.trans (congrArg some (by kernel_rfl))
  f264 := Try.func131.trans (congrArg some (by kernel_rfl))
  f276 := Try.func144.trans (congrArg some (by kernel_rfl))
  f277 := Try.func145.trans (congrArg some (by kernel_rfl))
  t0 := Try.underlying0
  a0 := Try.isAgg0
  z0 := Try.sizeOf0
  v0 := Try.zeroValue0
  t3 := Try.underlying3
  a3 := Try.isAgg3
  z3 := Try.sizeOf3
  v3 := Try.zeroValue3
  t4 := Try.underlying4
  a4 := Try.isAgg4
  z4 := Try.sizeOf4
  v4 := Try.zeroValue4
  t5 := Try.underlying5
  a5 := Try.isAgg5
  z5 := Try.sizeOf5
  v5 := Try.zeroValue5
  t9 := Try.underlying9
  a9 := Try.isAgg9
  z9 := Try.sizeOf9
  v9 := Try.zeroValue9
  t20 := Try.underlying20
  a20 := Try.isAgg20
  z20 := Try.sizeOf20
  v20 := Try.zeroValue20
  t37 := Try.underlying27
  a37 := Try.isAgg27
  z37 := Try.sizeOf27
  v37 := Try.zeroValue27
  t46 := Try.underlying98
  a46 := Try.isAgg98
  z46 := Try.sizeOf98
  v46 := Try.zeroValue98
  t51 := Try.underlying106
  a51 := Try.isAgg106
  z51 := Try.sizeOf106
  v51 := Try.zeroValue106
  t53 := Try.underlying125
  a53 := Try.isAgg125
  z53 := Try.sizeOf125
  v53 := Try.zeroValue125
  t70 := Try.underlying149
  a70 := Try.isAgg149
  z70 := Try.sizeOf149
  v70 := Try.zeroValue149
  t72 := Try.underlying151
  a72 := Try.isAgg151
  z72 := Try.sizeOf151
  v72 := Try.zeroValue151
  t75 := Try.underlying154
  a75 := Try.isAgg154
  z75 := Try.sizeOf154
  v75 := Try.zeroValue154
  t76 := Try.underlying155
  a76 := Try.isAgg155
  z76 := Try.sizeOf155
  v76 := Try.zeroValue155
  t109 := Try.underlying147
  a109 := Try.isAgg147
  z109 := Try.sizeOf147
  v109 := Try.zeroValue147
  t127 := Try.underlying172
  a127 := Try.isAgg172
  z127 := Try.sizeOf172
  v127 := Try.zeroValue172
  t146 := Try.underlying168
  a146 := Try.isAgg168
  z146 := Try.sizeOf168
  v146 := Try.zeroValue168
  t148 := Try.underlying170
  a148 := Try.isAgg170
  z148 := Try.sizeOf170
  v148 := Try.zeroValue170
  t164 := Try.underlying185
  a164 := Try.isAgg185
  z164 := Try.sizeOf185
  v164 := Try.zeroValue185 }
theorem builder_extra105 : Builder.Extra Try.prog lays105_ren := {
  sizeBuilder := by kernel_rfl
  liesBuilder := by kernel_rfl
  t5 := Try.underlying5
  a5 := Try.isAgg5
  z5 := Try.sizeOf5
  v5 := Try.zeroValue5
  infoByte := by kernel_rfl
  cellsByte := by kernel_rfl
  sizeByte := by kernel_rfl
  neB5 := by decide }
open Go.RowKit Go.Lib in
theorem strings_repeat (s : ByteArray) (c : Nat) (w : World) (hc : c ≤ 9223372036854775807) (hlen : s.size * c ≤ 140737488355328) :
    Calls Try.prog 80 #[.string s, .int .i64 c] w fun e w' => e = .returned (.string ⟨(Lib.repeatL s.data.toList c).toArray⟩) ∧ Below w.heap.size w w' := Any.strings_Repeat lays105 builder_extra105 s c w hc hlen
open Go.RowKit in
theorem repeat_zeros (c : Nat) (hc : c ≤ 100000) (w : World) :
    Calls Try.prog 80 #[.string ⟨#[0]⟩, .int .i64 c] w fun e w' => e = .returned (.string (str (List.replicate c 0))) ∧ Fr (fun _ => False) w w' := by
  refine (strings_repeat ⟨#[0]⟩ c w (by omega) (by simp [ByteArray.size]; omega)).mono ?_
  rintro e w' ⟨rfl, h⟩
  refine ⟨?_, Fr.of_below h⟩
  have := Lib.repeatL_replicate 0 1 c
  rw [Nat.mul_one] at this
  rw [← this]
  rfl
end Go.Proofs.Ytcchhfkmhbjdmaa
/-! Jb -/
set_option linter.unusedVariables false
set_option linter.unusedSimpArgs false
set_option pp.deepTerms true
set_option pp.maxSteps 100000
namespace Go.Proofs.Ytcchhfkmhbjdmaa
open Go.RowKit
section
variable {ops : Array Oper} {rest : List Oper} {op : Oper} {a : Act} {w : World} {Q : Exit → Act → World → Prop}
theorem wpList_load111 (hgd : op.guard = none) (x : Operand) (ho : op.op = .load 111 x) (V : Nat) (hx : a.eval x = .pointer (some ⟨V, 0, none⟩)) (l : List Value) (hl : l.length = 11)
    (hg : w.heap[V]? = some (.cells l.toArray 111 (0, 0))) (h : wpList Try.prog ops Q rest (a.put op.dst (.agg l.toArray)) w) : wpList Try.prog ops Q (op :: rest) a w :=
  wpList_load_row hgd 111 x ho V hx 111 l.toArray (0, 0) _ hg Try.underlying111 rfl (by rw [List.size_toArray, hl]; kernel_rfl) h
set_option maxRecDepth 20000 in
theorem wpList_append_own (hgd : op.guard = none) (s y : Operand) (ho : op.op = .call { callee := .builtin .append, args := #[s, y], argTypes := #[27, 27] })
    (base : Nat) (v : Value) (n : Nat) (xs : List UInt8) (hown : w.ownsRow base 5 1 v n (bcells xs)) (hs : a.eval s = v) (B m c : Nat) (hy : a.eval y = .slice (some ⟨B, 0, none⟩) m c)
    (ys : List UInt8) (hm : ys.length = m) (ha : w.rangeAt B 0 (bcells ys)) (hbig : n + m ≤ 100000) (hbase : base ≤ w.heap.size)
    (hk : ∀ v' w', w'.ownsRow base 5 1 v' (n + m) (bcells (xs ++ ys)) → w.grownBy w' v.ownBlock → wpList Try.prog ops Q rest (a.put op.dst v') w') : wpList Try.prog ops Q (op :: rest) a w := by
  refine wpList_plain hgd fun K hK => ?_
  obtain ⟨i0, hi0⟩ : ∃ i0, Try.prog.info? 5 = some i0 := ⟨_, rfl⟩
  have hz0 : (Try.prog.info? 5).map (fun i => (i.zero, i.size, i.bytes)) = some (some (.int .u8 0), 1, 1) := by kernel_rfl
  rw [hi0] at hz0
  simp only [Option.map_some, Option.some.injEq, Prod.mk.injEq] at hz0
  obtain ⟨v', w', hr, h1, h2, _⟩ := run_append_own (P := Try.prog) (w := w) base 27 op.type 5 i0 (.int .u8 0) 1 1 Try.underlying27 hi0 hz0.1 hz0.2.1 hz0.2.2 rfl (by omega) v n (bcells xs) hown ⟨B, 0, none⟩ m c (bcells ys)
    (by rw [bcells_length]; omega) (fun j u hj => by rw [Addr.add_mid]; exact ha j u hj) (bcells_one ys) (by unfold maxLen; omega) (by omega) hbase
  rw [← bcells_append] at h1
  unfold Oper.wp execOp
  simp only [ho, resolve, invoke, builtin, Sem.run_bind, Sem.run_pure, Result.andThen_ok, List.map_toArray, List.map_cons, List.map_nil, hs, hy, hr]
  exact hK _ _ (hk v' w' h1 h2)
end
theorem owns_slice {w : World} {base n : Nat} {v : Value} {xs : List UInt8} (h : w.ownsRow base 5 1 v n (bcells xs)) (hn : 0 < n) : ∃ g cap, v = .slice (some ⟨g, 0, none⟩) n cap ∧ xs.length = n ∧ w.rangeAt g 0 (bcells xs) := by
  obtain ⟨hl, h | ⟨g, cap, cur, hv, hg, hh, hnc, hcm, hcs, ht⟩⟩ := h
  · omega
  · rw [bcells_length, Nat.mul_one] at hl
    refine ⟨g, cap, hv, hl, fun j u hj => ?_⟩
    rw [Nat.zero_add, cell_of_row w g j _ _ _ hh]
    rw [← ht, List.getElem?_take] at hj
    split at hj
    · simpa using hj
    · cases hj
theorem outL_step (h : List UInt32) (i : Nat) (x : UInt32) (hx : h[i]? = some x) : outL (h.take (i + 1)) = outL (h.take i) ++ outW x := by
  unfold outL
  rw [List.take_add_one, hx, Option.toList_some, List.flatMap_append]
  simp
theorem out_b (x : UInt32) (s : Nat) (t : UInt32) (ht : t.toNat = s) (hs : s < 32) : ((x.toNat : Int) / ((2 ^ s : Nat) : Int)) % 256 = (((x >>> t).toUInt8).toNat : Int) := by
  rw [shr_u32 x s t ht hs]; simp
def padF (n : Nat) (i : Nat) : UInt8 := UInt8.ofNat (8 * n / 2 ^ (56 - 8 * i))
theorem sum_idx (n : Nat) (hn : n ≤ 1099511627776) : ∃ q r p : Nat, (n : Int).tmod 64 = (q : Int) ∧ (n : Int) % 64 = (q : Int) ∧ IntKind.i64.wrap (q : Int) = (q : Int) ∧ IntKind.i64.wrap (119 - (q : Int)) = (r : Int) ∧ IntKind.i64.wrap (r : Int) = (r : Int) ∧ (r : Int).tmod 64 = (p : Int) ∧ (r : Int) % 64 = (p : Int) ∧ IntKind.i64.wrap (p : Int) = (p : Int) ∧ p < 64 ∧ p = (119 - n % 64) % 64 := by
  refine ⟨n % 64, 119 - n % 64, (119 - n % 64) % 64, ?_, by omega, IntWalk.i64_in _ (by omega), ?_, IntWalk.i64_in _ (by omega), ?_, by omega, IntWalk.i64_in _ (by omega), by omega, rfl⟩
  · rw [Int.tmod_eq_emod_of_nonneg (by omega)]; omega
  · rw [IntWalk.i64_in _ (by omega)]; omega
  · rw [Int.tmod_eq_emod_of_nonneg (by omega)]; omega
set_option maxRecDepth 100000 in
set_option maxHeartbeats 8000000 in
theorem sha_sum (T K : Nat) (t : Tal) (hb : t.n ≤ 549755813888) (w : World) (h : TRep w T K t) :
    Calls Try.prog 30 #[.pointer (some ⟨T, 0, none⟩)] w fun e w' => e = .returned (.string (str t.sum)) ∧ Fr (fun _ => False) w w' := by
  have HR := Lib.hid h
  have HLL := Lib.hid (show (tcells K t).length = 11 by simp [tcells, wcells_length, h.ok.h])
  have HZ1 := Lib.hid (show ∀ v ∈ (tcells K t).toArray.toList, v.oneCell' = true by
    intro v hv
    simp only [tcells, List.mem_append] at hv
    rcases hv with hv | hv
    · exact wcells_one _ v hv
    · simp at hv; rcases hv with rfl | rfl | rfl <;> rfl)
  have HZS := Lib.hid (show (#[.int .u32 0, .int .u32 0, .int .u32 0, .int .u32 0, .int .u32 0, .int .u32 0, .int .u32 0, .int .u32 0, .string ⟨#[]⟩, .int .i64 0, .pointer none] : Array Value).size = (tcells K t).toArray.size by rw [show (tcells K t).toArray.size = 11 by rw [List.size_toArray, HLL.out]]; rfl)
  have HI := Lib.hid (show (Try.prog.info? 111).map (·.size) = some (tcells K t).toArray.size by rw [List.size_toArray, HLL.out]; kernel_rfl)
  obtain ⟨n, hn⟩ : ∃ n, n = t.n := ⟨_, rfl⟩
  have HN := Lib.hid hn
  have hnb : n ≤ 549755813888 := by omega
  have HTl := Lib.hid (lt_of_heap h.row)
  have HKl := Lib.hid (lt_of_heap h.tab)
  clear h hb hn
  go_enter Try.func30, Try.ntmps30
  go_wp2_with (first
    | (with_reducible refine wpList_load111 (op := ⟨some 11, _, _, _, _, _⟩) rfl _ rfl T rfl (tcells K t) HLL.out HR.out.row ?_)
    | (with_reducible refine wpList_store_fresh (op := ⟨none, .store 111 _ _, _, _, _, _⟩) rfl 111 _ _ rfl w #[.int .u32 0, .int .u32 0, .int .u32 0, .int .u32 0, .int .u32 0, .int .u32 0, .int .u32 0, .int .u32 0, .string ⟨#[]⟩, .int .i64 0, .pointer none] (tcells K t).toArray rfl rfl rfl HZS.out HI.out HZ1.out ?_))
  have hC0 := heap_alloc_new w (.cells (tcells K t).toArray 111)
  have hB0 := heap_alloc_new (w.alloc (.cells (tcells K t).toArray 111)) (.cells (bcells (List.replicate 8 0)).toArray 113)
  have hf1 : Fr (fun _ => False) w (w.alloc (.cells (tcells K t).toArray 111)) := (Fr.refl _ _).alloc _
  have hf2 : Fr (fun _ => False) w ((w.alloc (.cells (tcells K t).toArray 111)).alloc (.cells (bcells (List.replicate 8 0)).toArray 113)) := hf1.alloc _
  have hC1 := ((Fr.refl (fun _ => False) (w.alloc (.cells (tcells K t).toArray 111))).alloc (.cells (bcells (List.replicate 8 0)).toArray 113)).heap hC0 id
  rw [World.size_alloc] at hB0
  change Code.wp _ _ _ _ ((w.alloc (.cells (tcells K t).toArray 111)).alloc (.cells (bcells (List.replicate 8 0)).toArray 113))
  generalize (w.alloc (.cells (tcells K t).toArray 111)).alloc (.cells (bcells (List.replicate 8 0)).toArray 113) = w2 at hB0 hf2 hC1 ⊢
  obtain ⟨C, hC⟩ : ∃ C, C = w.heap.size := ⟨_, rfl⟩
  obtain ⟨B, hB⟩ : ∃ B, B = w.heap.size + 1 := ⟨_, rfl⟩
  rw [← hB] at hB0
  rw [← hC] at hC1
  rw [← hB, ← hC]
  have HC1 := Lib.hid hC1
  have HB1 := Lib.hid hB0
  have HF2 := Lib.hid hf2
  have HCB := Lib.hid (show C = w.heap.size ∧ B = w.heap.size + 1 from ⟨hC, hB⟩)
  have HTB := Lib.hid (show T ≠ B ∧ K ≠ B ∧ T ≠ C ∧ K ≠ C ∧ C ≠ B by have := HTl.out; have := HKl.out; omega)
  clear hC0 hB0 hf1 hf2 hC1 hC hB HLL HZ1 HZS HI
  go_loopw [12] (fun v wr => ∃ i : Nat, i ≤ 8 ∧ v = .int .i64 i ∧ wr.heap[B]? = some (.cells (bcells (upd (padF n) (List.replicate 8 0) i)).toArray 113 (0, 0)) ∧ Fr (fun i => i = B) w2 wr) (fun v _ => 8 - (intOf v).toNat)
  case atStart => exact ⟨0, Nat.zero_le _, rfl, by rw [upd_zero]; exact HB1.out, Fr.refl _ _⟩
  case round =>
    obtain ⟨i, hi, rfl, hBl, hf⟩ := hrel
    have HB := Lib.hid hBl
    have HF := Lib.hid hf
    clear hBl hf HB1
    by_cases hlt : i < 8
    · obtain ⟨n8, hn8⟩ : ∃ z, z = 8 * n := ⟨_, rfl⟩
      obtain ⟨i8, hi8⟩ : ∃ z, z = 8 * i := ⟨_, rfl⟩
      obtain ⟨m, hm⟩ : ∃ z, z = 56 - 8 * i := ⟨_, rfl⟩
      obtain ⟨z, hz⟩ : ∃ z, z = padF n i := ⟨_, rfl⟩
      have hw1 : IntKind.i64.wrap (8 * (n : Int)) = (n8 : Int) := by rw [IntWalk.i64_in _ (by omega)]; omega
      have hw2 : IntKind.i64.wrap (8 * (i : Int)) = (i8 : Int) := by rw [IntWalk.i64_in _ (by omega)]; omega
      have hw3 : IntKind.i64.wrap (56 - (i8 : Int)) = (m : Int) := by rw [IntWalk.i64_in _ (by omega)]; omega
      have hm0 : (0 : Int) ≤ (m : Int) := by omega
      have hm1 : m ≤ 56 := by omega
      have hm2 : (m : Int) ≤ 64 := by omega
      have hzz : ((n8 : Int) / 2 ^ m) % 256 = (z.toNat : Int) := by
        rw [hz, hm, hn8]
        unfold padF
        simp
      have hzw : IntKind.u8.wrap ((n8 : Int) / 2 ^ m) = (z.toNat : Int) := by rw [IntKind.wrap_u8', hzz]
      have c9 : wr.cell? ⟨T, 9, none⟩ = some (.int .i64 (n : Int)) := by
        rw [HN.out]
        exact (tcells_cell HR.out.ok.h (HF.out.heap (HF2.out.heap HR.out.row id) HTB.out.1)).2.1
      have hfz : wr.frozen? ⟨B, i, none⟩ = false := frozen_of_row wr _ _ _ _ HB.out
      have cB : wr.cell? ⟨B, i, none⟩ = some (.int .u8 ((0 : UInt8).toNat : Int)) := bcells_cell HB.out i 0 (by rw [upd_get _ _ _ _ (by simp; omega), if_neg (by omega), List.getD_eq_getElem?_getD, List.getElem?_replicate, if_pos hlt]; rfl)
      have hi8' : (i : Int) < 8 := by omega
      have HB2 := Lib.hid (show (wr.setCell ⟨B, i, none⟩ (.int .u8 (z.toNat : Int))).heap[B]? = some (.cells (bcells (upd (padF n) (List.replicate 8 0) (i + 1))).toArray 113 (0, 0)) by
        rw [← upd_set _ _ _ (by simp; omega), ← hz]
        exact bcells_set HB.out i z)
      have HF3 := Lib.hid (HF.out.setCell ⟨B, i, none⟩ (.int .u8 (z.toNat : Int)) (.inl rfl))
      have bz := z.toNat_lt
      clear hz hn8 hi8 hm
      go_wp2
      go_roundw
      case rel => exact ⟨i + 1, by omega, by go_num, HB2.out, HF3.out⟩
      case measure => simp [intOf]; omega
    · have h8 : i = 8 := by omega
      subst h8
      go_wp2
      obtain ⟨q, r, p, ht1, ht2, hw1, hw2, hw2b, ht3, ht4, hw3, hp64, hpn⟩ := sum_idx n (by omega)
      have HPN := Lib.hid hpn
      have HBf := Lib.hid (show wr.heap[B]? = some (.cells (bcells (be8 (8 * n))).toArray 113 (0, 0)) by
        have := HB.out
        rw [upd_all _ _ 8 (by simp)] at this
        exact this)
      have HB8 := Lib.hid (show (be8 (8 * n)).length = 8 by simp [be8])
      have HFa := Lib.hid (show Fr (fun i => i = B) w2 wr.drew from HF.out.drew)
      have HA1 := (jstr_append [128] (List.replicate p 0))
      have HA2 := (jstr_append (128 :: List.replicate p 0) (be8 (8 * n)))
      have HPAD := Lib.hid (show (128 :: List.replicate p 0) ++ be8 (8 * n) = padL n by unfold padL; rw [hpn]; rfl)
      have hs1 : ¬ 9223372036854775807 < (str [128]).size + (str (List.replicate p 0)).size := by rw [str_size, str_size]; simp; omega
      have hs2 : ¬ 9223372036854775807 < (str (128 :: List.replicate p 0)).size + (str (be8 (8 * n))).size := by rw [str_size, str_size, HB8.out]; simp; omega
      rw [HPAD.out] at HA2
      obtain ⟨s1, hs1d⟩ : ∃ s, s = str (List.replicate p 0) := ⟨_, rfl⟩
      obtain ⟨s2, hs2d⟩ : ∃ s, s = str (be8 (8 * n)) := ⟨_, rfl⟩
      obtain ⟨s3, hs3d⟩ : ∃ s, s = str (128 :: List.replicate p 0) := ⟨_, rfl⟩
      have hA1 : (⟨#[128]⟩ : ByteArray) ++ s1 = s3 := by rw [hs1d, hs3d]; exact HA1
      have hA2 : s3 ++ s2 = str (padL n) := by rw [hs3d, hs2d]; exact HA2
      have hS1 : ¬ 9223372036854775807 < (⟨#[128]⟩ : ByteArray).size + s1.size := by rw [hs1d]; exact hs1
      have hS2 : ¬ 9223372036854775807 < s3.size + s2.size := by rw [hs3d, hs2d]; exact hs2
      have hS1b : 1 + s1.size ≤ 9223372036854775807 := by rw [hs1d, str_size, List.length_replicate]; omega
      have hS2b : s3.size + s2.size ≤ 9223372036854775807 := by omega
      have HS2D := Lib.hid hs2d
      have HRep := Lib.hid (show ∀ w, Calls Try.prog 80 #[.string ⟨#[0]⟩, .int .i64 (p : Int)] w fun e w' => e = .returned (.string s1) ∧ Fr (fun _ => False) w w' from fun w => by rw [hs1d]; exact repeat_zeros p (by omega) w)
      clear HA1 HA2 hs1 hs2 hs1d hs2d hs3d hpn
      refine wp_region_till (fun W => W.cell? ⟨T, 9, none⟩ = some (.int .i64 (n : Int)) ∧ W.heap[B]? = some (.cells (bcells (be8 (8 * n))).toArray 113 (0, 0))) 12 (by kernel_rfl) ?_
      have c9 : wr.cell? ⟨T, 9, none⟩ = some (.int .i64 (n : Int)) := by
        rw [HN.out]
        exact (tcells_cell HR.out.ok.h (HF.out.heap (HF2.out.heap HR.out.row id) HTB.out.1)).2.1
      have HS := Lib.hid (show wr.drew.cell? ⟨T, 9, none⟩ = some (.int .i64 (n : Int)) ∧ wr.drew.heap[B]? = some (.cells (bcells (be8 (8 * n))).toArray 113 (0, 0)) from ⟨c9, HBf.out⟩)
      clear c9 hlt hi
      generalize wr.drew = wy at HS HFa ⊢
      refine wpAnyT_take (i := 0) (n := 12) (v := .pointer (some ⟨T, 0, none⟩)) rfl (by kernel_rfl) (fun _ _ _ h => h) HS.out (yieldsIf_plain rfl (fun W hW => by clear hW; go_simp)) ?_
      simp only [List.getElem_toArray, List.getElem_cons_succ, List.getElem_cons_zero, Act.put, List.setIfInBounds_toArray, List.set_cons_zero, List.set_cons_succ]
      refine wpAnyT_take (i := 1) (n := 12) (v := .pointer (some ⟨T, 0, none⟩)) rfl (by kernel_rfl) (fun _ _ _ h => h) HS.out (yieldsIf_plain rfl (fun W hW => by clear hW; go_simp)) ?_
      simp only [List.getElem_toArray, List.getElem_cons_succ, List.getElem_cons_zero, Act.put, List.setIfInBounds_toArray, List.set_cons_zero, List.set_cons_succ]
      refine wpAnyT_take (i := 2) (n := 12) (v := .pointer (some ⟨T, 9, none⟩)) rfl (by kernel_rfl) (fun _ _ _ h => h) HS.out (yieldsIf_plain rfl (fun W hW => by clear hW; go_simp)) ?_
      simp only [List.getElem_toArray, List.getElem_cons_succ, List.getElem_cons_zero, Act.put, List.setIfInBounds_toArray, List.set_cons_zero, List.set_cons_succ]
      refine wpAnyT_take (i := 3) (n := 12) (v := .int .i64 (n : Int)) rfl (by kernel_rfl) (fun _ _ _ h => h) HS.out (yieldsIf_plain rfl (fun W hW => by have h1 := hW.1; clear hW; go_simp)) ?_
      simp only [List.getElem_toArray, List.getElem_cons_succ, List.getElem_cons_zero, Act.put, List.setIfInBounds_toArray, List.set_cons_zero, List.set_cons_succ]
      refine wpAnyT_take (i := 4) (n := 12) (v := .int .i64 (q : Int)) rfl (by kernel_rfl) (fun _ _ _ h => h) HS.out (yieldsIf_plain rfl (fun W hW => by clear hW; go_simp)) ?_
      simp only [List.getElem_toArray, List.getElem_cons_succ, List.getElem_cons_zero, Act.put, List.setIfInBounds_toArray, List.set_cons_zero, List.set_cons_succ]
      refine wpAnyT_take (i := 5) (n := 12) (v := .int .i64 (r : Int)) rfl (by kernel_rfl) (fun _ _ _ h => h) HS.out (yieldsIf_plain rfl (fun W hW => by clear hW; go_simp)) ?_
      simp only [List.getElem_toArray, List.getElem_cons_succ, List.getElem_cons_zero, Act.put, List.setIfInBounds_toArray, List.set_cons_zero, List.set_cons_succ]
      refine wpAnyT_take (i := 6) (n := 12) (v := .int .i64 (p : Int)) rfl (by kernel_rfl) (fun _ _ _ h => h) HS.out (yieldsIf_plain rfl (fun W hW => by clear hW; go_simp)) ?_
      simp only [List.getElem_toArray, List.getElem_cons_succ, List.getElem_cons_zero, Act.put, List.setIfInBounds_toArray, List.set_cons_zero, List.set_cons_succ]
      refine wpAnyT_take (i := 9) (n := 12) (v := .slice (some ⟨B, 0, none⟩) 8 8) rfl (by kernel_rfl) (fun _ _ _ h => h) HS.out (yieldsIf_plain rfl (fun W hW => by clear hW; go_simp)) ?_
      simp only [List.getElem_toArray, List.getElem_cons_succ, List.getElem_cons_zero, Act.put, List.setIfInBounds_toArray, List.set_cons_zero, List.set_cons_succ]
      refine wpAnyT_take (i := 10) (n := 12) (v := .string s2) rfl (by kernel_rfl) (fun _ _ _ h => h) HS.out (yieldsIf_plain rfl (fun W hW => by have hcv := run_convert_str (P := Try.prog) W 27 5 Try.underlying27 Try.underlying5 B 0 8 8 (be8 (8 * n)) HB8.out (fun j v hj => by rw [Nat.zero_add, cell_of_row W B j _ _ _ hW.2]; simpa using hj) 9 Try.underlying9; rw [← HS2D.out] at hcv; clear hW; go_simp)) ?_
      simp only [List.getElem_toArray, List.getElem_cons_succ, List.getElem_cons_zero, Act.put, List.setIfInBounds_toArray, List.set_cons_zero, List.set_cons_succ]
      refine wpAnyT_one (i := 7) rfl (by kernel_rfl) (wpOp_plain rfl rfl (fun K hK => ?_))
      simp only [List.getElem_toArray, List.getElem_cons_succ, List.getElem_cons_zero, Act.put, List.setIfInBounds_toArray, List.set_cons_zero, List.set_cons_succ]
      have HKK := Lib.hid hK
      clear hK
      go_wp2_with fail
      refine (HRep.out wy).mono ?_
      rintro e w4 ⟨rfl, h4⟩
      have H4 := Lib.hid h4
      have HFb := Lib.hid (HFa.out.trans h4 (fun i hi => hi.elim))
      have HSb := Lib.hid (show w4.cell? ⟨T, 9, none⟩ = some (.int .i64 (n : Int)) ∧ w4.heap[B]? = some (.cells (bcells (be8 (8 * n))).toArray 113 (0, 0)) from ⟨h4.cell HS.out.1 id, h4.heap HS.out.2 id⟩)
      clear h4
      go_wp2_with fail
      refine HKK.out _ _ ⟨fun _ => HSb.out, ?_⟩
      clear HKK K HRep
      try simp only [List.getElem_toArray, List.getElem_cons_succ, List.getElem_cons_zero, Act.put, List.setIfInBounds_toArray, List.set_cons_zero, List.set_cons_succ]
      refine wpAnyT_take (i := 8) (n := 12) (v := .string s3) rfl (by kernel_rfl) (fun _ _ _ h => h) HSb.out (yieldsIf_plain rfl (fun W hW => by clear hW; go_simp)) ?_
      simp only [List.getElem_toArray, List.getElem_cons_succ, List.getElem_cons_zero, Act.put, List.setIfInBounds_toArray, List.set_cons_zero, List.set_cons_succ]
      refine wpAnyT_take (i := 11) (n := 12) (v := .string (str (padL n))) rfl (by kernel_rfl) (fun _ _ _ h => h) HSb.out (yieldsIf_plain rfl (fun W hW => by clear hW; go_simp)) ?_
      simp only [List.getElem_toArray, List.getElem_cons_succ, List.getElem_cons_zero, Act.put, List.setIfInBounds_toArray, List.set_cons_zero, List.set_cons_succ]
      refine wpAnyT_of_any trivial [12] _ _ _ _ (by kernel_rfl) (by simp) (.inr rfl) ?_
      simp only [List.filterMap_cons, List.filterMap_nil, List.getElem?_toArray, List.getElem?_cons_zero, List.getElem?_cons_succ]
      have HCT := Lib.hid (show TRep w4 C K t from ⟨HFb.out.heap HC1.out HTB.out.2.2.2.2, HFb.out.heap (HF2.out.heap HR.out.tab id) HTB.out.2.1, HTB.out.2.2.2.1, HR.out.ok⟩)
      go_wp2_with fail
      refine (sha_add C K t (padL n) (by rw [← HN.out]; simp [padL, be8]; omega) w4 HCT.out).mono ?_
      rintro e w5 ⟨rfl, h5, hf5⟩
      obtain ⟨t2, ht2'⟩ : ∃ t2, t2 = t.add (padL n) := ⟨_, rfl⟩
      rw [← ht2'] at h5
      have HSUM := Lib.hid (show t.sum = outL t2.h by rw [ht2', HN.out]; rfl)
      have H5 := Lib.hid h5
      have HF5 := Lib.hid (show Fr (fun _ => False) w w5 from ((HF2.out.trans HFb.out (fun i hi => .inr (by have := HCB.out; omega))).trans hf5 (fun i hi => .inr (by have := HCB.out; omega))))
      have HL8 := Lib.hid h5.ok.h
      have HRG := Lib.hid (show w5.rangeAt C 0 (wcells t2.h) from fun j v hj => by
        have hjl : j < (wcells t2.h).length := (List.getElem?_eq_some_iff.1 hj).1
        rw [Nat.zero_add, cell_of_row w5 C j _ _ _ h5.row]
        unfold tcells
        rw [List.getElem?_toArray, List.getElem?_append_left hjl]; exact hj)
      have HI7 := Lib.hid (show (Try.prog.info? 107).map (·.size) = some (wcells t2.h).length by rw [wcells_length, h5.ok.h]; kernel_rfl)
      clear h5 hf5 ht2' hA1 hA2 hS1 hS2 HCT HSb HS HFa HFb H4 HBf
      go_wp2_with (with_reducible refine wpList_load_mid (op := ⟨some 42, _, _, _, _, _⟩) rfl 107 _ rfl C 0 rfl (wcells t2.h) _ HRG.out Try.underlying107 rfl HI7.out ?_)
      have HW5 := Lib.hid (show w.heap.size ≤ w5.heap.size from HF5.out.size)
      go_loopw [6, 43] (fun v6 v wr => ∃ i : Nat, i ≤ 8 ∧ v = .int .i64 i ∧ wr.ownsRow w.heap.size 5 1 v6 (4 * i) (bcells (outL (t2.h.take i))) ∧ Fr (fun _ => False) w wr) (fun _ v _ => 8 - (intOf v).toNat)
      case atStart => exact ⟨0, Nat.zero_le _, rfl, ⟨rfl, .inl ⟨rfl, rfl⟩⟩, HF5.out⟩
      case round =>
        obtain ⟨i, hi, rfl, ho, hf⟩ := hrel
        have HO := Lib.hid ho
        have HFr := Lib.hid hf
        clear ho hf HF5
        by_cases hlt : i < 8
        · obtain ⟨x, hx⟩ : ∃ z, z = t2.h.getD i 0 := ⟨_, rfl⟩
          have hxi : t2.h[i]? = some x := by rw [hx]; exact get_some32 HL8.out i hlt
          have hin := run_index_w 107 8 Try.underlying107 t2.h i x hxi hlt wr
          have HST := Lib.hid (outL_step t2.h i x hxi)
          have hi8' : (i : Int) < 8 := by omega
          obtain ⟨y0, hy0⟩ : ∃ z, z = (x >>> 24).toUInt8 := ⟨_, rfl⟩
          obtain ⟨y1, hy1⟩ : ∃ z, z = (x >>> 16).toUInt8 := ⟨_, rfl⟩
          obtain ⟨y2, hy2⟩ : ∃ z, z = (x >>> 8).toUInt8 := ⟨_, rfl⟩
          obtain ⟨y3, hy3⟩ : ∃ z, z = x.toUInt8 := ⟨_, rfl⟩
          have HOW := Lib.hid (show outW x = [y0, y1, y2, y3] by rw [hy0, hy1, hy2, hy3]; rfl)
          have o0 : ((x.toNat : Int) / 16777216) % 256 = (y0.toNat : Int) := by rw [hy0]; exact out_b x 24 24 rfl (by omega)
          have o1 : ((x.toNat : Int) / 65536) % 256 = (y1.toNat : Int) := by rw [hy1]; exact out_b x 16 16 rfl (by omega)
          have o2 : ((x.toNat : Int) / 256) % 256 = (y2.toNat : Int) := by rw [hy2]; exact out_b x 8 8 rfl (by omega)
          have o3 : (x.toNat : Int) % 256 = (y3.toNat : Int) := by rw [hy3]; simp
          have p0 : IntKind.u8.wrap ((x.toNat : Int) / 16777216) = (y0.toNat : Int) := by rw [IntKind.wrap_u8', o0]
          have p1 : IntKind.u8.wrap ((x.toNat : Int) / 65536) = (y1.toNat : Int) := by rw [IntKind.wrap_u8', o1]
          have p2 : IntKind.u8.wrap ((x.toNat : Int) / 256) = (y2.toNat : Int) := by rw [IntKind.wrap_u8', o2]
          have p3 : IntKind.u8.wrap (x.toNat : Int) = (y3.toNat : Int) := by rw [IntKind.wrap_u8', o3]
          have by0 := y0.toNat_lt
          have by1 := y1.toNat_lt
          have by2 := y2.toNat_lt
          have by3 := y3.toNat_lt
          have HOb := Lib.hid (show (wr.alloc (.cells #[.int .u8 (y0.toNat : Int), .int .u8 (y1.toNat : Int), .int .u8 (y2.toNat : Int), .int .u8 (y3.toNat : Int)] 5)).ownsRow w.heap.size 5 1 u6 (4 * i) (bcells (outL (t2.h.take i))) from ((Fr.refl (fun _ => False) wr).alloc _).own HO.out (fun k _ => id))
          have HRb := Lib.hid (show (wr.alloc (.cells #[.int .u8 (y0.toNat : Int), .int .u8 (y1.toNat : Int), .int .u8 (y2.toNat : Int), .int .u8 (y3.toNat : Int)] 5)).rangeAt wr.heap.size 0 (bcells [y0, y1, y2, y3]) from fun j v hj => by
            rw [Nat.zero_add, cell_of_row _ wr.heap.size j _ _ _ (heap_alloc_new wr _)]; simpa [bcells] using hj)
          have HFb := Lib.hid (HFr.out.alloc (.cells #[.int .u8 (y0.toNat : Int), .int .u8 (y1.toNat : Int), .int .u8 (y2.toNat : Int), .int .u8 (y3.toNat : Int)] 5))
          have HSz := Lib.hid (show w.heap.size ≤ (wr.alloc (.cells #[.int .u8 (y0.toNat : Int), .int .u8 (y1.toNat : Int), .int .u8 (y2.toNat : Int), .int .u8 (y3.toNat : Int)] 5)).heap.size from HFb.out.size)
          clear hx hxi hy0 hy1 hy2 hy3
          go_wp2_with (with_reducible refine wpList_append_own (op := ⟨some 59, _, _, _, _, _⟩) rfl _ _ rfl w.heap.size u6 (4 * i) (outL (t2.h.take i)) HOb.out rfl wr.heap.size 4 4 rfl [y0, y1, y2, y3] rfl HRb.out (by omega) HSz.out ?_)
          intro v' w' ho' hgr
          have HO' := Lib.hid (show w'.ownsRow w.heap.size 5 1 v' (4 * (i + 1)) (bcells (outL (t2.h.take (i + 1)))) by rw [HST.out, HOW.out]; exact ho')
          have HF' := Lib.hid (HFb.out.grown hgr (fun k hk => .inr (by
            obtain ⟨_, ⟨h1, _⟩ | ⟨g, cap, cur, h1, h2, _⟩⟩ := HO.out
            · rw [h1] at hk; cases hk
            · rw [h1] at hk; cases hk; exact h2)))
          clear ho' hgr
          go_wp2
          go_roundw
          case rel => exact ⟨i + 1, by omega, by go_num, HO'.out, HF'.out⟩
          case measure => simp [intOf]; omega
        · have h8 : i = 8 := by omega
          subst h8
          obtain ⟨g, cap, hv, hlo, hro⟩ := owns_slice HO.out (by omega)
          have HV := Lib.hid hv
          have hcv := run_convert_str (P := Try.prog) wr 27 5 Try.underlying27 Try.underlying5 g 0 32 cap (outL (t2.h.take 8)) hlo hro 9 Try.underlying9
          have HTK := Lib.hid (show outL (t2.h.take 8) = t.sum by rw [HSUM.out, List.take_of_length_le (by rw [HL8.out]; omega)])
          rw [HTK.out] at hcv
          clear hlo hro
          subst hv
          go_wp2
          go_ret
          exact ⟨rfl, HFr.out⟩
end Go.Proofs.Ytcchhfkmhbjdmaa
/-! Jc -/
set_option linter.unusedVariables false
set_option linter.unusedSimpArgs false
set_option pp.deepTerms true
set_option pp.maxSteps 100000
namespace Go.Proofs.Ytcchhfkmhbjdmaa
open Go.RowKit
theorem dig_sum (l : List UInt8) : dig l = (Tal.new.add l).sum := rfl
set_option maxRecDepth 20000 in
set_option maxHeartbeats 4000000 in
theorem sha_of (B cap : Nat) (parts : List (List UInt8)) (w : World) (hc : ∀ j s, parts[j]? = some s → w.cell? ⟨B, j, none⟩ = some (.string (str s))) (hbig : parts.flatten.length ≤ 549755813888) (hpl : parts.length ≤ 1000000000) (hB : B < w.heap.size) :
    Calls Try.prog 33 #[.slice (some ⟨B, 0, none⟩) parts.length cap] w fun e w' => e = .returned (.string (str (dig parts.flatten))) ∧ Fr (fun _ => False) w w' := by
  have HC := Lib.hid hc
  have HBG := Lib.hid hbig
  obtain ⟨n, hn⟩ : ∃ n, n = parts.length := ⟨_, rfl⟩
  have HN := Lib.hid hn
  have hn1 : n ≤ 1000000000 := by omega
  rw [← hn]
  clear hc hbig hn hpl
  go_enter Try.func33, Try.ntmps33
  go_wp2_with fail
  refine (sha_new w).mono ?_
  rintro e w1 ⟨T, K, rfl, h1, hT, hK, hf1⟩
  have H1 := Lib.hid h1
  have HF1 := Lib.hid hf1
  have HT := Lib.hid hT
  have HKK := Lib.hid hK
  clear h1 hf1 hT hK
  go_wp2_with fail
  go_loopw [9] (fun v wr => ∃ i : Nat, i ≤ n ∧ v = .int .i64 i ∧ TRep wr T K (Tal.new.add (parts.take i).flatten) ∧ Fr (fun _ => False) w wr) (fun v _ => n - (intOf v).toNat)
  case atStart => exact ⟨0, Nat.zero_le _, rfl, by
    have := H1.out
    rw [show (parts.take 0).flatten = [] from rfl, Tal.add_nil _ (by decide)]
    exact this, HF1.out⟩
  case round =>
    obtain ⟨i, hi, rfl, ht, hf⟩ := hrel
    have HTr := Lib.hid ht
    have HF := Lib.hid hf
    clear ht hf H1 HF1
    by_cases hlt : i < n
    · have hx : (i : Int) < (n : Int) := by omega
      obtain ⟨s, hs⟩ : ∃ s, parts[i]? = some s := ⟨parts[i]'(by rw [← HN.out]; exact hlt), List.getElem?_eq_getElem (by rw [← HN.out]; exact hlt)⟩
      have c1 : wr.cell? ⟨B, i, none⟩ = some (.string (str s)) := HF.out.cell (HC.out i s hs) id
      have HX := Lib.hid (show (parts.take (i + 1)).flatten = (parts.take i).flatten ++ s by
        rw [List.take_add_one, hs, Option.toList_some, List.flatten_append]; simp)
      have HLE := Lib.hid (show (Tal.new.add (parts.take i).flatten).n + s.length ≤ 1099511627776 by
        have h1 : (parts.take (i + 1)).flatten.length ≤ parts.flatten.length := by
          conv => rhs; rw [← List.take_append_drop (i + 1) parts, List.flatten_append, List.length_append]
          omega
        rw [HX.out, List.length_append] at h1
        have := HBG.out
        show 0 + (parts.take i).flatten.length + s.length ≤ _
        omega)
      clear hs
      go_wp2_with fail
      refine (sha_add T K _ s HLE.out wr HTr.out).mono ?_
      rintro e w2 ⟨rfl, h2, hf2⟩
      have H2 := Lib.hid (show TRep w2 T K (Tal.new.add (parts.take (i + 1)).flatten) by rw [HX.out, Tal.add_append]; exact h2)
      have HF2 := Lib.hid (HF.out.trans hf2 (fun i hi => .inr (by rw [hi]; exact HT.out)))
      clear h2 hf2
      go_wp2_with fail
      go_roundw
      case rel => exact ⟨i + 1, by omega, by go_num, H2.out, HF2.out⟩
      case measure => simp [intOf]; omega
    · have hie : i = n := by omega
      have HTe := Lib.hid (show TRep wr T K (Tal.new.add parts.flatten) by
        have := HTr.out
        rwa [hie, HN.out, List.take_length] at this)
      clear hie
      go_wp2_with fail
      refine (sha_sum T K _ (by show 0 + parts.flatten.length ≤ _; have := HBG.out; omega) wr HTe.out).mono ?_
      rintro e w2 ⟨rfl, hf2⟩
      have HF2 := Lib.hid (HF.out.trans hf2 (fun i hi => hi.elim))
      clear hf2
      go_wp2_with fail
      go_ret
      exact ⟨rfl, HF2.out⟩
theorem or_zero (v x y : UInt8) : (v ||| (x ^^^ y)) = 0 ↔ v = 0 ∧ x = y := by
  constructor
  · intro h
    have h1 : v = 0 := by
      apply UInt8.toNat_inj.mp
      have := congrArg UInt8.toNat h
      rw [UInt8.toNat_or] at this
      have h2 : v.toNat ≤ v.toNat ||| (x ^^^ y).toNat := Nat.left_le_or
      have h3 : (0 : UInt8).toNat = 0 := rfl
      omega
    refine ⟨h1, ?_⟩
    rw [h1, UInt8.zero_or] at h
    exact UInt8.xor_eq_zero_iff.mp h
  · rintro ⟨rfl, rfl⟩
    simp
set_option maxRecDepth 20000 in
set_option maxHeartbeats 4000000 in
theorem sha_equal (a b : List UInt8) (hal : a.length ≤ 4294967296) (w : World) : Calls Try.prog 77 #[.string (str a), .string (str b)] w fun e w' => e = .returned (.bool (decide (a = b))) ∧ Fr (fun _ => False) w w' := by
  have ha : (str a).size = a.length := str_size a
  have hb : (str b).size = b.length := str_size b
  by_cases hl : a.length = b.length
  · have q1 : ((a.length : Int) != (b.length : Int)) = false := by simp [hl]
    have HL := Lib.hid hl
    obtain ⟨n, hn⟩ : ∃ n, n = a.length := ⟨_, rfl⟩
    have hbn : b.length = n := by omega
    have HN := Lib.hid hn
    rw [← hn] at ha q1
    rw [hbn] at hb q1
    have HBN := Lib.hid hbn
    have hnb : n ≤ 4294967296 := by omega
    clear hl hn hbn hal
    go_enter Try.func77, Try.ntmps77
    go_wp2
    go_loopw [5, 14] (fun v5 v wr => ∃ (i : Nat) (x : UInt8), i ≤ n ∧ v = .int .i64 i ∧ v5 = .int .u8 (x.toNat : Int) ∧ (x = 0 ↔ a.take i = b.take i) ∧ Fr (fun _ => False) w wr) (fun _ v _ => n - (intOf v).toNat)
    case atStart => exact ⟨0, 0, Nat.zero_le _, rfl, rfl, by simp, Fr.refl _ _⟩
    case round =>
      obtain ⟨i, x, hi, rfl, rfl, hx, hf⟩ := hrel
      have HX := Lib.hid hx
      have HF := Lib.hid hf
      clear hx hf
      by_cases hlt : i < n
      · have hin : (i : Int) < (n : Int) := by omega
        obtain ⟨y, hy⟩ : ∃ y, y = a.getD i 0 := ⟨_, rfl⟩
        obtain ⟨z, hz⟩ : ∃ y, y = b.getD i 0 := ⟨_, rfl⟩
        have hya : ∀ h, (str a)[i]'h = y := fun h => by rw [str_at32, hy]
        have hzb : ∀ h, (str b)[i]'h = z := fun h => by rw [str_at32, hz]
        obtain ⟨p, hp⟩ : ∃ p, p = y ^^^ z := ⟨_, rfl⟩
        have e1 := xor_u8 y z
        rw [← hp] at e1
        have e2 := or_u8 x p
        obtain ⟨q, hq⟩ : ∃ q, q = x ||| p := ⟨_, rfl⟩
        rw [← hq] at e2
        have HQ := Lib.hid (show q = 0 ↔ a.take (i + 1) = b.take (i + 1) by
          have hga : a[i]? = some y := by rw [hy, List.getD_eq_getElem?_getD, List.getElem?_eq_getElem (by rw [← HN.out]; exact hlt)]; rfl
          have hgb : b[i]? = some z := by rw [hz, List.getD_eq_getElem?_getD, List.getElem?_eq_getElem (by rw [HBN.out]; exact hlt)]; rfl
          rw [hq, hp, or_zero, HX.out, List.take_add_one, List.take_add_one, hga, hgb]
          constructor
          · rintro ⟨h1, rfl⟩; rw [h1]
          · intro h
            have h2 := List.append_inj h (by rw [List.length_take, List.length_take, ← HN.out, HBN.out])
            exact ⟨h2.1, by simpa using h2.2⟩)
        have bx := x.toNat_lt
        have by1 := y.toNat_lt
        have bz := z.toNat_lt
        have bp := p.toNat_lt
        have bq := q.toNat_lt
        clear hy hz hp hq
        go_wp2
        refine wp_region_still_tail 9 (by kernel_rfl) (by kernel_rfl) ?_
        simp only [List.take_succ_cons, List.take_zero, List.drop_succ_cons, List.drop_zero]
        change wpStill _ _ wr.drew (fun a' => wpList _ _ _ _ a' wr.drew) _ _
        repeat still_step
        refine wpStill_nil ?_
        go_wp2
        go_roundw
        case rel => exact ⟨i + 1, q, by omega, by go_num, rfl, HQ.out, HF.out.drew⟩
        case measure => simp [intOf]; omega
      · have hie : i = n := by omega
        have HE := Lib.hid (show x = 0 ↔ a = b by
          have := HX.out
          rwa [hie, List.take_of_length_le (by rw [← HN.out]; omega), List.take_of_length_le (by rw [HBN.out]; omega)] at this)
        have hzz : ((x.toNat : Int) == 0) = decide (a = b) := by
          rw [Bool.eq_iff_iff, beq_iff_eq, decide_eq_true_iff, ← HE.out]
          constructor
          · intro h; exact UInt8.toNat_inj.mp (by have h2 : (0 : UInt8).toNat = 0 := rfl; omega)
          · intro h; rw [h]; rfl
        clear hie
        go_wp2
        go_ret
        exact ⟨rfl, HF.out⟩
  · have q1 : ((a.length : Int) != (b.length : Int)) = true := by simp; omega
    have hd : decide (a = b) = false := decide_eq_false (fun h => hl (by rw [h]))
    rw [hd]
    go_enter Try.func77, Try.ntmps77
    go_wp2
    go_ret
    exact ⟨rfl, Fr.refl _ _⟩
end Go.Proofs.Ytcchhfkmhbjdmaa
/-! Jj -/
set_option linter.unusedVariables false
set_option linter.unusedSimpArgs false
set_option pp.deepTerms true
set_option pp.maxSteps 100000
namespace Go.Proofs.Ytcchhfkmhbjdmaa
open Go.RowKit
theorem jmade_bytes (n : Nat) : madeCells #[.int .u8 0] n = (bcells (List.replicate n 0)).toArray := by
  apply Array.ext'
  rw [toList_madeCells_one]
  simp [bcells]
set_option maxRecDepth 20000 in
theorem make_zeros (m : Nat) (hm : m ≤ 100000) (w : World) : (Instr.makeSlice 27 (.int .i64 (m : Int)) (.int .i64 (m : Int))).run Try.prog w = .ok (.slice (some ⟨w.heap.size, 0, none⟩) m m) (w.alloc (.cells (bcells (List.replicate m 0)).toArray 5)) := by
  obtain ⟨i0, hi0⟩ : ∃ i0, Try.prog.info? 5 = some i0 := ⟨_, rfl⟩
  have hz0 : (Try.prog.info? 5).map (fun i => (i.zero, i.size, i.bytes)) = some (some (.int .u8 0), 1, 1) := by kernel_rfl
  rw [hi0] at hz0
  simp only [Option.map_some, Option.some.injEq, Prod.mk.injEq] at hz0
  have h := run_makeSlice (P := Try.prog) w 27 5 i0 (.int .u8 0) Try.underlying27 hi0 hz0.1 .i64 .i64 m m (by omega) (by omega) (by rw [hz0.2.1]; simp; omega) (by rw [hz0.2.2]; omega) (by omega)
  rw [h, hz0.2.1]
  simp only [Int.toNat_natCast, Nat.mul_one]
  rw [show (Value.int IntKind.u8 0).cells = #[.int .u8 0] from rfl, jmade_bytes]
end Go.Proofs.Ytcchhfkmhbjdmaa
/-! Pg2 -/
set_option linter.unusedVariables false
set_option linter.unusedSimpArgs false
set_option pp.deepTerms true
set_option pp.maxSteps 100000
namespace Go.Proofs.Ytcchhfkmhbjdmaa
open Go.RowKit
def ldF (l : List UInt8) : Nat → W2
  | 0 => W2.zero
  | i + 1 => if i < 8 then ⟨((ldF l i).a <<< 8) ||| (l.getD i 0).toUInt64, (ldF l i).b⟩ else ⟨(ldF l i).a, ((ldF l i).b <<< 8) ||| (l.getD i 0).toUInt64⟩
def loadL (l : List UInt8) : W2 := ldF l 16
theorem u8_64 (x : UInt8) : (x.toNat : Int) = ((x.toUInt64).toNat : Int) := by simp
theorem idx8 (i : Nat) (hi : i < 16) : ∃ q r : Nat, (i : Int).tdiv 8 = (q : Int) ∧ (i : Int) / 8 = (q : Int) ∧ IntKind.i64.wrap (q : Int) = (q : Int) ∧ (q : Int) < 2 ∧ (i : Int).tmod 8 = (r : Int) ∧ (i : Int) % 8 = (r : Int) ∧ IntKind.i64.wrap (r : Int) = (r : Int) ∧ r < 8 ∧ q = i / 8 ∧ r = i % 8 := by
  refine ⟨i / 8, i % 8, ?_, by omega, IntWalk.i64_in _ (by omega), by omega, ?_, by omega, IntWalk.i64_in _ (by omega), by omega, rfl, rfl⟩
  · rw [Int.tdiv_eq_ediv_of_nonneg (by omega)]; omega
  · rw [Int.tmod_eq_emod_of_nonneg (by omega)]; omega
/-- The word that i touches, and what it becomes. -/
theorem ld_word (l : List UInt8) (i q : Nat) (hi : i < 16) (hq : q = i / 8) : ∃ cw z : UInt64, (vals (ldF l i))[q]? = some (.int .u64 (cw.toNat : Int)) ∧ z = (cw <<< 8) ||| (l.getD i 0).toUInt64 ∧ (vals (ldF l i)).setIfInBounds q (.int .u64 (z.toNat : Int)) = vals (ldF l (i + 1)) := by
  by_cases h : i < 8
  · have hq0 : q = 0 := by omega
    subst hq0
    refine ⟨(ldF l i).a, _, rfl, rfl, ?_⟩
    rw [ldF, if_pos h]; rfl
  · have hq1 : q = 1 := by omega
    subst hq1
    refine ⟨(ldF l i).b, _, rfl, rfl, ?_⟩
    rw [ldF, if_neg h]; rfl
theorem two_alloc (w : World) (a b : Array Value) (t u : TypeId) :
    let w2 := (w.alloc (.cells a t)).alloc (.cells b u)
    w2.heap[w.heap.size]? = some (.cells a t (0, 0)) ∧ w2.heap[w.heap.size + 1]? = some (.cells b u (0, 0)) ∧ Fr (fun _ => False) w w2 := by
  intro w2
  have hA := heap_alloc_new w (.cells a t)
  have hB := heap_alloc_new (w.alloc (.cells a t)) (.cells b u)
  have fA := (Fr.refl (fun _ => False) (w.alloc (.cells a t))).alloc (.cells b u)
  simp only [World.size_alloc] at hB
  exact ⟨fA.heap hA id, hB, ((Fr.refl _ _).alloc _).alloc _⟩
set_option maxRecDepth 20000 in
set_option maxHeartbeats 2000000 in
theorem load_calls (l : List UInt8) (hl : l.length = 16) (w : World) : Calls Try.prog 89 #[.string (str l)] w fun e w' => e = .returned (.agg (vals (loadL l))) ∧ Fr (fun _ => False) w w' := by
  obtain ⟨h0, h1, hf⟩ := two_alloc w (vals W2.zero) (vals W2.zero) 127 127
  obtain ⟨S, hS⟩ : ∃ S, S = str l := ⟨_, rfl⟩
  have hsz : S.size = 16 := by rw [hS, str_size, hl]
  have HS := Lib.hid hS
  obtain ⟨R, hR⟩ : ∃ X, X = w.heap.size := ⟨_, rfl⟩
  obtain ⟨B, hB⟩ : ∃ X, X = w.heap.size + 1 := ⟨_, rfl⟩
  have HNE := Lib.hid (show w.heap.size ≤ R ∧ w.heap.size ≤ B ∧ R ≠ B by omega)
  rw [← hR] at h0
  rw [← hB] at h1
  rw [← hS]
  go_enter Try.func89, Try.ntmps89
  go_wp2
  change Code.wp _ _ _ _ ((w.alloc (.cells (vals W2.zero) 127)).alloc (.cells (vals W2.zero) 127))
  rw [← hB, ← hR]
  generalize (w.alloc (.cells (vals W2.zero) 127)).alloc (.cells (vals W2.zero) 127) = w2 at h0 h1 hf ⊢
  have H0 := Lib.hid h0
  have H1 := Lib.hid h1
  have HF := Lib.hid hf
  clear h0 h1 hf hR hB hS hl
  go_loopw [5] (fun v5 wr => ∃ i : Nat, i ≤ 16 ∧ v5 = .int .i64 i ∧ wr.heap[B]? = some (.cells (vals (ldF l i)) 127 (0, 0)) ∧ wr.heap[R]? = some (.cells (vals W2.zero) 127 (0, 0)) ∧ Fr (fun _ => False) w wr) (fun v _ => 16 - (intOf v).toNat)
  case atStart => exact ⟨0, Nat.zero_le _, rfl, H1.out, H0.out, HF.out⟩
  case round =>
    obtain ⟨i, hi, rfl, hb, hr, hf⟩ := hrel
    have HBr := Lib.hid hb
    have HRr := Lib.hid hr
    have HFr := Lib.hid hf
    clear hb hr hf H0 H1 HF
    by_cases hlt : i < 16
    · have hx16 : (i : Int) < 16 := by omega
      obtain ⟨q, r, hq1, hq2, hq3, hq4, hr1, hr2, hr3, hr8, hqd, hrd⟩ := idx8 i hlt
      obtain ⟨cw, z, hcw, hz, hset⟩ := ld_word l i q hlt hqd
      obtain ⟨x, hx⟩ : ∃ x, x = l.getD i 0 := ⟨_, rfl⟩
      rw [← hx] at hz
      have hxs : ∀ h, S[i]'h = x := by
        intro h
        have hk := HS.out
        subst hk
        rw [str_at32, hx]
      obtain ⟨c8, hc8⟩ : ∃ z, z = cw <<< 8 := ⟨_, rfl⟩
      have es1 : ((cw.toNat : Int) * 256) % 18446744073709551616 = (c8.toNat : Int) := by rw [hc8]; exact shl_u64 cw 8 8 rfl (by omega)
      have es2 : IntKind.u64.wrap ((cw.toNat : Int) * 256) = (c8.toNat : Int) := by rw [wrap_u64', es1]
      have eo : bits .or .u64 (c8.toNat : Int) (x.toNat : Int) = (z.toNat : Int) := by rw [hz, ← hc8, u8_64]; exact or_u64 _ _
      have c1 : wr.drew.cell? ⟨B, q, none⟩ = some (.int .u64 (cw.toNat : Int)) := (cell_of_row wr.drew B q _ _ _ HBr.out).trans hcw
      have fz : wr.drew.frozen? ⟨B, q, none⟩ = false := frozen_of_row wr.drew _ _ _ _ HBr.out
      have HB2 := Lib.hid (show (wr.drew.setCell ⟨B, q, none⟩ (.int .u64 (z.toNat : Int))).heap[B]? = some (.cells (vals (ldF l (i + 1))) 127 (0, 0)) by rw [← hset]; exact heap_setCell_same wr.drew B q _ _ _ HBr.out)
      have hfs : Fr (fun j => j = B) wr (wr.drew.setCell ⟨B, q, none⟩ (.int .u64 (z.toNat : Int))) := (Fr.refl _ _).drew.setCell _ _ (.inl rfl)
      have HR2 := Lib.hid (hfs.heap HRr.out HNE.out.2.2)
      have HF2 := Lib.hid (HFr.out.drew.setCell ⟨B, q, none⟩ (.int .u64 (z.toNat : Int)) (.inr HNE.out.2.1))
      have bc := cw.toNat_lt
      have bz := z.toNat_lt
      have bx := x.toNat_lt
      have b8 := c8.toNat_lt
      clear hx hz hc8 hset hcw hfs hqd hrd
      go_wp2
      refine wp_region_still_tail 13 (by kernel_rfl) (by kernel_rfl) ?_
      simp only [List.take_succ_cons, List.take_zero, List.drop_succ_cons, List.drop_zero]
      change wpStill _ _ wr.drew (fun a' => wpList _ _ _ _ a' wr.drew) _ _
      repeat still_step
      refine wpStill_nil ?_
      go_wp2
      go_roundw
      case rel => exact ⟨i + 1, by omega, by go_num, HB2.out, HR2.out, HF2.out⟩
      case measure => simp [intOf]; omega
    · have h16 : i = 16 := by omega
      subst h16
      obtain ⟨s, hs⟩ : ∃ s, s = ldF l 16 := ⟨_, rfl⟩
      have HLD := Lib.hid (show s = loadL l from hs)
      rw [← hs] at HBr
      have HBd := Lib.hid (show wr.heap[B]? = some (.cells #[.int .u64 (s.a.toNat : Int), .int .u64 (s.b.toNat : Int)] 127 (0, 0)) from HBr.out)
      have HRd := Lib.hid (show wr.heap[R]? = some (.cells #[.int .u64 0, .int .u64 0] 127 (0, 0)) from HRr.out)
      have HR2 := Lib.hid (show (wr.setRow R #[.int .u64 (s.a.toNat : Int), .int .u64 (s.b.toNat : Int)]).heap[R]? = some (.cells #[.int .u64 (s.a.toNat : Int), .int .u64 (s.b.toNat : Int)] 127 (0, 0)) from setRow_heap HRd.out)
      have HF2 := Lib.hid (HFr.out.setRow R #[.int .u64 (s.a.toNat : Int), .int .u64 (s.b.toNat : Int)] (.inr HNE.out.1))
      clear hs
      go_wp2_with (first
        | (with_reducible refine wpList_load127 (op := ⟨some 22, _, _, _, _, _⟩) rfl _ rfl B rfl _ _ HBd.out ?_)
        | (with_reducible refine wpList_store_whole (op := ⟨none, .store 127 _ _, _, _, _, _⟩) rfl 127 _ _ rfl R 127 #[.int .u64 0, .int .u64 0] #[.int .u64 (s.a.toNat : Int), .int .u64 (s.b.toNat : Int)] rfl rfl HRd.out rfl (by kernel_rfl) (by simp [Value.oneCell']) ?_))
      refine bodyPost_ret (results_cell_row rfl _ _ R 127 #[.int .u64 (s.a.toNat : Int), .int .u64 (s.b.toNat : Int)] (0, 0) _ rfl HR2.out Try.underlying127 rfl (by kernel_rfl)) rfl ?_
      exact ⟨by first | (rw [← HLD.out]; done) | (rw [← HLD.out]; rfl), HF2.out⟩
def txF (w : W2) (i : Nat) : UInt8 := UInt8.ofNat ((if i < 8 then w.a else w.b).toNat / 2 ^ (56 - 8 * (i % 8)))
def textL (w : W2) : List UInt8 := full (txF w) 16
theorem tx_word (x : W2) (i q r : Nat) (hi : i < 16) (hq : q = i / 8) (hr : r = i % 8) : ∃ cw : UInt64, (vals x)[q]? = some (.int .u64 (cw.toNat : Int)) ∧ ((cw.toNat : Int) / 2 ^ (56 - 8 * r)) % 256 = ((txF x i).toNat : Int) := by
  refine ⟨if i < 8 then x.a else x.b, ?_, ?_⟩
  · by_cases h : i < 8
    · rw [if_pos h, hq, show i / 8 = 0 by omega]; rfl
    · rw [if_neg h, hq, show i / 8 = 1 by omega]; rfl
  · unfold txF
    rw [hr]
    simp
set_option maxRecDepth 20000 in
set_option maxHeartbeats 2000000 in
theorem text_calls (x : W2) (w : World) : Calls Try.prog 91 #[.agg (vals x)] w fun e w' => e = .returned (.string (str (textL x))) ∧ Fr (fun _ => False) w w' := by
  obtain ⟨h0, h1, hf⟩ := two_alloc w (vals x) (bcells (List.replicate 16 0)).toArray 127 99
  obtain ⟨X, hX⟩ : ∃ X, X = w.heap.size := ⟨_, rfl⟩
  obtain ⟨B, hB⟩ : ∃ X, X = w.heap.size + 1 := ⟨_, rfl⟩
  have HNE := Lib.hid (show w.heap.size ≤ X ∧ w.heap.size ≤ B ∧ X ≠ B by omega)
  rw [← hX] at h0
  rw [← hB] at h1
  go_enter Try.func91, Try.ntmps91
  unfold vals
  go_wp2
  change Code.wp _ _ _ _ ((w.alloc (.cells (vals x) 127)).alloc (.cells (bcells (List.replicate 16 0)).toArray 99))
  rw [← hB, ← hX]
  generalize (w.alloc (.cells (vals x) 127)).alloc (.cells (bcells (List.replicate 16 0)).toArray 99) = w2 at h0 h1 hf ⊢
  have H0 := Lib.hid h0
  have H1 := Lib.hid h1
  have HF := Lib.hid hf
  clear h0 h1 hf hX hB
  go_loopw [5] (fun v5 wr => ∃ i : Nat, i ≤ 16 ∧ v5 = .int .i64 i ∧ wr.heap[X]? = some (.cells (vals x) 127 (0, 0)) ∧ wr.heap[B]? = some (.cells (bcells (upd (txF x) (List.replicate 16 0) i)).toArray 99 (0, 0)) ∧ Fr (fun _ => False) w wr) (fun v _ => 16 - (intOf v).toNat)
  case atStart => exact ⟨0, Nat.zero_le _, rfl, H0.out, by rw [upd_zero]; exact H1.out, HF.out⟩
  case round =>
    obtain ⟨i, hi, rfl, hx, hb, hf⟩ := hrel
    have HXr := Lib.hid hx
    have HBr := Lib.hid hb
    have HFr := Lib.hid hf
    clear hx hb hf H0 H1 HF
    by_cases hlt : i < 16
    · have hx16 : (i : Int) < 16 := by omega
      obtain ⟨q, r, hq1, hq2, hq3, hq4, hr1, hr2, hr3, hr8, hqd, hrd⟩ := idx8 i hlt
      obtain ⟨cw, hcw, hby⟩ := tx_word x i q r hlt hqd hrd
      obtain ⟨z, hz⟩ : ∃ z, z = txF x i := ⟨_, rfl⟩
      obtain ⟨r8, hr8d⟩ : ∃ k, k = 8 * r := ⟨_, rfl⟩
      obtain ⟨m, hm⟩ : ∃ m, m = 56 - 8 * r := ⟨_, rfl⟩
      have hw1 : IntKind.i64.wrap (8 * (r : Int)) = (r8 : Int) := by rw [IntWalk.i64_in _ (by omega)]; omega
      have hw2 : IntKind.i64.wrap (56 - (r8 : Int)) = (m : Int) := by rw [IntWalk.i64_in _ (by omega)]; omega
      have hm0 : (0 : Int) ≤ (m : Int) := by omega
      have hm1 : m ≤ 56 := by omega
      have hm2 : (m : Int) ≤ 64 := by omega
      rw [← hm, ← hz] at hby
      have hbw : IntKind.u8.wrap ((cw.toNat : Int) / 2 ^ m) = (z.toNat : Int) := by rw [IntKind.wrap_u8', hby]
      have c1 : wr.cell? ⟨X, q, none⟩ = some (.int .u64 (cw.toNat : Int)) := (cell_of_row wr X q _ _ _ HXr.out).trans hcw
      have cB : wr.cell? ⟨B, i, none⟩ = some (.int .u8 ((0 : UInt8).toNat : Int)) := bcells_cell HBr.out i 0 (by rw [upd_get _ _ _ _ (by simp; omega), if_neg (by omega), List.getD_eq_getElem?_getD, List.getElem?_replicate, if_pos hlt]; rfl)
      have fB : wr.frozen? ⟨B, i, none⟩ = false := frozen_of_row wr _ _ _ _ HBr.out
      have HB2 := Lib.hid (show (wr.setCell ⟨B, i, none⟩ (.int .u8 (z.toNat : Int))).heap[B]? = some (.cells (bcells (upd (txF x) (List.replicate 16 0) (i + 1))).toArray 99 (0, 0)) by
        rw [← upd_set _ _ _ (by simp; omega), ← hz]; exact bcells_set HBr.out i z)
      have hfs : Fr (fun j => j = B) wr (wr.setCell ⟨B, i, none⟩ (.int .u8 (z.toNat : Int))) := (Fr.refl _ _).setCell _ _ (.inl rfl)
      have HX2 := Lib.hid (hfs.heap HXr.out HNE.out.2.2)
      have HF2 := Lib.hid (HFr.out.setCell ⟨B, i, none⟩ (.int .u8 (z.toNat : Int)) (.inr HNE.out.2.1))
      have bc := cw.toNat_lt
      have bz := z.toNat_lt
      clear hz hm hr8d hcw hfs hqd hrd
      go_wp2
      go_roundw
      case rel => exact ⟨i + 1, by omega, by go_num, HX2.out, HB2.out, HF2.out⟩
      case measure => simp [intOf]; omega
    · have h16 : i = 16 := by omega
      subst h16
      have HBz := Lib.hid (show wr.heap[B]? = some (.cells (bcells (textL x)).toArray 99 (0, 0)) by have := HBr.out; rwa [upd_all _ _ 16 (by simp)] at this)
      have hcv := run_convert_str (P := Try.prog) wr 27 5 Try.underlying27 Try.underlying5 B 0 16 16 (textL x) (full_length _ _) (fun j v hj => by
        rw [Nat.zero_add, cell_of_row wr B j _ _ _ HBz.out]; simpa using hj) 9 Try.underlying9
      go_wp2
      go_ret
      exact ⟨rfl, HFr.out⟩
end Go.Proofs.Ytcchhfkmhbjdmaa
/-! Pg3 -/
set_option linter.unusedVariables false
set_option linter.unusedSimpArgs false
set_option pp.deepTerms true
set_option pp.maxSteps 100000
namespace Go.Proofs.Ytcchhfkmhbjdmaa
open Go.RowKit
def prodL (a b : List UInt8) : List UInt8 := textL (W2.times (loadL a) (loadL b))
set_option maxRecDepth 20000 in
set_option maxHeartbeats 1000000 in
theorem product_yes (a b : List UInt8) (ha : a.length = 16) (hb : b.length = 16) (w : World) : Calls Try.prog 45 #[.string (str a), .string (str b)] w fun e w' => e = .returned (.tuple #[.string (str (prodL a b)), .int .i64 0]) ∧ Fr (fun _ => False) w w' := by
  obtain ⟨A, hA⟩ : ∃ s, s = str a := ⟨_, rfl⟩
  obtain ⟨B, hB⟩ : ∃ s, s = str b := ⟨_, rfl⟩
  have h1 : ((A.size : Int) != 16) = false := by rw [hA, str_size, ha]; rfl
  have h2 : ((B.size : Int) != 16) = false := by rw [hB, str_size, hb]; rfl
  have HLA := Lib.hid (show ∀ w, Calls Try.prog 89 #[.string A] w fun e w' => e = .returned (.agg (vals (loadL a))) ∧ Fr (fun _ => False) w w' from fun w => by rw [hA]; exact load_calls a ha w)
  have HLB := Lib.hid (show ∀ w, Calls Try.prog 89 #[.string B] w fun e w' => e = .returned (.agg (vals (loadL b))) ∧ Fr (fun _ => False) w w' from fun w => by rw [hB]; exact load_calls b hb w)
  rw [← hA, ← hB]
  clear hA hB ha hb
  go_enter Try.func45, Try.ntmps45
  go_wp2_with fail
  refine (HLA.out w).mono ?_
  rintro e w1 ⟨rfl, f1⟩
  have F1 := Lib.hid f1
  clear f1
  go_wp2_with fail
  refine (HLB.out w1).mono ?_
  rintro e w2 ⟨rfl, f2⟩
  have F2 := Lib.hid (F1.out.trans f2 (fun i hi => hi.elim))
  clear f2
  go_wp2_with fail
  refine (times_calls (loadL a) (loadL b) w2).mono ?_
  rintro e w3 ⟨rfl, f3⟩
  have F3 := Lib.hid (F2.out.trans f3 (fun i hi => hi.elim))
  clear f3
  go_wp2_with fail
  refine (text_calls (W2.times (loadL a) (loadL b)) w3).mono ?_
  rintro e w4 ⟨rfl, f4⟩
  have F4 := Lib.hid (F3.out.trans f4 (fun i hi => hi.elim))
  clear f4
  go_wp2_with fail
  go_ret2
  exact ⟨rfl, F4.out⟩
set_option maxRecDepth 20000 in
set_option maxHeartbeats 1000000 in
theorem product_no (A B : ByteArray) (h : A.size ≠ 16 ∨ B.size ≠ 16) (w : World) : Calls Try.prog 45 #[.string A, .string B] w fun e w' => e = .returned (.tuple #[.string ⟨#[]⟩, .int .i64 2]) ∧ w = w' := by
  by_cases h0 : A.size = 16
  · have h1 : ((A.size : Int) != 16) = false := by rw [h0]; rfl
    have h2 : ((B.size : Int) != 16) = true := by simp; omega
    clear h h0
    go_enter Try.func45, Try.ntmps45
    go_wp2_with fail
    go_ret2
    exact ⟨rfl, rfl⟩
  · have h1 : ((A.size : Int) != 16) = true := by simp; omega
    clear h h0
    go_enter Try.func45, Try.ntmps45
    go_wp2_with fail
    go_ret2
    exact ⟨rfl, rfl⟩
def turnG (a b : List UInt8) (i : Nat) : UInt8 := a.getD i 0 ^^^ b.getD i 0
def turnL (a b : List UInt8) : List UInt8 := full (turnG a b) (min a.length b.length)
set_option maxRecDepth 20000 in
set_option maxHeartbeats 1000000 in
theorem gturn_calls (a b : List UInt8) (ha : a.length ≤ 100000) (hb : b.length ≤ 100000) (w : World) : Calls Try.prog 117 #[.string (str a), .string (str b)] w fun e w' => e = .returned (.string (str (turnL a b))) ∧ Fr (fun _ => False) w w' := by
  obtain ⟨A, hA⟩ : ∃ s, s = str a := ⟨_, rfl⟩
  obtain ⟨B, hB⟩ : ∃ s, s = str b := ⟨_, rfl⟩
  obtain ⟨la, hla⟩ : ∃ n, n = a.length := ⟨_, rfl⟩
  obtain ⟨lb, hlb⟩ : ∃ n, n = b.length := ⟨_, rfl⟩
  obtain ⟨m, hm⟩ : ∃ m, m = min a.length b.length := ⟨_, rfl⟩
  have hsa : A.size = la := by rw [hA, str_size, hla]
  have hsb : B.size = lb := by rw [hB, str_size, hlb]
  have hmin : min (la : Int) (lb : Int) = (m : Int) := by omega
  have hmk := make_zeros m (by omega) w
  have HA := Lib.hid hA
  have HB := Lib.hid hB
  have HM := Lib.hid (show m = min a.length b.length ∧ m ≤ la ∧ m ≤ lb ∧ m ≤ 100000 by omega)
  have hm1 : m ≤ la := HM.out.2.1
  have hm2 : m ≤ lb := HM.out.2.2.1
  have hm3 : m ≤ 100000 := HM.out.2.2.2
  rw [← hA, ← hB]
  clear hA hB hla hlb hm ha hb
  go_enter Try.func117, Try.ntmps117
  go_wp2_with fail
  have hR := heap_alloc_new w (.cells (bcells (List.replicate m 0)).toArray 5)
  have hf : Fr (fun _ => False) w (w.alloc (.cells (bcells (List.replicate m 0)).toArray 5)) := (Fr.refl _ _).alloc _
  obtain ⟨R, hRd⟩ : ∃ R, R = w.heap.size := ⟨_, rfl⟩
  rw [← hRd] at hR ⊢
  generalize w.alloc (.cells (bcells (List.replicate m 0)).toArray 5) = w1 at hR hf ⊢
  have HR := Lib.hid hR
  have HF := Lib.hid hf
  have HRW := Lib.hid (show w.heap.size ≤ R by omega)
  clear hR hf hRd hmk hmin
  go_loopw [15] (fun v wr => ∃ i : Nat, i ≤ m ∧ v = .int .i64 i ∧ wr.heap[R]? = some (.cells (bcells (upd (turnG a b) (List.replicate m 0) i)).toArray 5 (0, 0)) ∧ Fr (fun _ => False) w wr) (fun v _ => m - (intOf v).toNat)
  case atStart => exact ⟨0, Nat.zero_le _, rfl, by rw [upd_zero]; exact HR.out, HF.out⟩
  case round =>
    obtain ⟨i, hi, rfl, hr, hf⟩ := hrel
    have HRr := Lib.hid hr
    have HFr := Lib.hid hf
    clear hr hf HR HF
    by_cases hlt : i < m
    · have hx : (i : Int) < (m : Int) := by omega
      have hxa : (i : Int) < (la : Int) := by omega
      have hxb : (i : Int) < (lb : Int) := by omega
      obtain ⟨x, hxd⟩ : ∃ x, x = a.getD i 0 := ⟨_, rfl⟩
      obtain ⟨y, hyd⟩ : ∃ x, x = b.getD i 0 := ⟨_, rfl⟩
      obtain ⟨z, hz⟩ : ∃ z, z = x ^^^ y := ⟨_, rfl⟩
      have e1 := xor_u8 x y
      rw [← hz] at e1
      have hAs : ∀ h, A[i]'h = x := by
        intro h
        have hk := HA.out
        subst hk
        rw [str_at32, hxd]
      have hBs : ∀ h, B[i]'h = y := by
        intro h
        have hk := HB.out
        subst hk
        rw [str_at32, hyd]
      have cR : wr.drew.cell? ⟨R, i, none⟩ = some (.int .u8 ((0 : UInt8).toNat : Int)) := bcells_cell (w := wr.drew) HRr.out i 0 (by rw [upd_get _ _ _ _ (by simp; omega), if_neg (by omega), List.getD_eq_getElem?_getD, List.getElem?_replicate, if_pos hlt]; rfl)
      have fR : wr.drew.frozen? ⟨R, i, none⟩ = false := frozen_of_row wr.drew _ _ _ _ HRr.out
      have HR2 := Lib.hid (show (wr.drew.setCell ⟨R, i, none⟩ (.int .u8 (z.toNat : Int))).heap[R]? = some (.cells (bcells (upd (turnG a b) (List.replicate m 0) (i + 1))).toArray 5 (0, 0)) by
        rw [← upd_set _ _ _ (by simp; omega), show turnG a b i = z by rw [hz, hxd, hyd]; rfl]
        exact bcells_set (w := wr.drew) HRr.out i z)
      have HF2 := Lib.hid (HFr.out.drew.setCell ⟨R, i, none⟩ (.int .u8 (z.toNat : Int)) (.inr HRW.out))
      have bx := x.toNat_lt
      have by' := y.toNat_lt
      have bz := z.toNat_lt
      clear hxd hyd hz
      go_wp2
      refine wp_region_still_tail 10 (by kernel_rfl) (by kernel_rfl) ?_
      simp only [List.take_succ_cons, List.take_zero, List.drop_succ_cons, List.drop_zero]
      change wpStill _ _ wr.drew (fun a' => wpList _ _ _ _ a' wr.drew) _ _
      repeat still_step
      refine wpStill_nil ?_
      go_wp2
      go_roundw
      case rel => exact ⟨i + 1, by omega, by go_num, HR2.out, HF2.out⟩
      case measure => simp [intOf]; omega
    · have him : i = m := by omega
      have HRz := Lib.hid (show wr.heap[R]? = some (.cells (bcells (turnL a b)).toArray 5 (0, 0)) by
        have := HRr.out
        rw [him, upd_all _ _ m (by simp), HM.out.1] at this
        exact this)
      have hcv := run_convert_str (P := Try.prog) wr 27 5 Try.underlying27 Try.underlying5 R 0 m m (turnL a b) (by rw [HM.out.1]; exact full_length _ _) (fun j v hj => by
        rw [Nat.zero_add, cell_of_row wr R j _ _ _ HRz.out]; simpa using hj) 9 Try.underlying9
      clear him
      go_wp2
      go_ret
      exact ⟨rfl, HFr.out⟩
def fillL (s : List UInt8) : List UInt8 := s ++ List.replicate ((16 - s.length % 16) % 16) 0
theorem fill_idx (n : Nat) (hn : n ≤ 1000000) : ∃ q r p : Nat, (n : Int).tmod 16 = (q : Int) ∧ (n : Int) % 16 = (q : Int) ∧ IntKind.i64.wrap (q : Int) = (q : Int) ∧ IntKind.i64.wrap (16 - (q : Int)) = (r : Int) ∧ IntKind.i64.wrap (r : Int) = (r : Int) ∧ (r : Int).tmod 16 = (p : Int) ∧ (r : Int) % 16 = (p : Int) ∧ IntKind.i64.wrap (p : Int) = (p : Int) ∧ p < 16 ∧ p = (16 - n % 16) % 16 := by
  refine ⟨n % 16, 16 - n % 16, (16 - n % 16) % 16, ?_, by omega, IntWalk.i64_in _ (by omega), ?_, IntWalk.i64_in _ (by omega), ?_, by omega, IntWalk.i64_in _ (by omega), by omega, rfl⟩
  · rw [Int.tmod_eq_emod_of_nonneg (by omega)]; omega
  · rw [IntWalk.i64_in _ (by omega)]; omega
  · rw [Int.tmod_eq_emod_of_nonneg (by omega)]; omega
set_option maxRecDepth 20000 in
set_option maxHeartbeats 1000000 in
theorem fill_calls (s : List UInt8) (hs : s.length ≤ 1000000) (w : World) : Calls Try.prog 118 #[.string (str s)] w fun e w' => e = .returned (.string (str (fillL s))) ∧ Fr (fun _ => False) w w' := by
  obtain ⟨S, hS⟩ : ∃ t, t = str s := ⟨_, rfl⟩
  obtain ⟨n, hn⟩ : ∃ n, n = s.length := ⟨_, rfl⟩
  have hsz : S.size = n := by rw [hS, str_size, hn]
  obtain ⟨q, r, p, hq1, hq2, hq3, hr1, hr2, hp1, hp2, hp3, hp16, hpd⟩ := fill_idx n (by omega)
  obtain ⟨Z, hZ⟩ : ∃ t, t = str (List.replicate p 0) := ⟨_, rfl⟩
  obtain ⟨O, hO⟩ : ∃ t, t = str (fillL s) := ⟨_, rfl⟩
  have hap : S ++ Z = O := by rw [hS, hZ, hO, jstr_append, hpd, hn]; rfl
  have hzs : Z.size = p := by rw [hZ, str_size, List.length_replicate]
  have hb1 : ¬ 9223372036854775807 < S.size + Z.size := by omega
  have hb2 : S.size + Z.size ≤ 9223372036854775807 := by omega
  have hb3 : n + Z.size ≤ 9223372036854775807 := by omega
  have HRep := Lib.hid (show ∀ w, Calls Try.prog 80 #[.string ⟨#[0]⟩, .int .i64 (p : Int)] w fun e w' => e = .returned (.string Z) ∧ Fr (fun _ => False) w w' from fun w => by rw [hZ]; exact repeat_zeros p (by omega) w)
  rw [← hS, ← hO]
  clear hS hn hZ hO hpd hs
  go_enter Try.func118, Try.ntmps118
  go_wp2_with fail
  refine (HRep.out w).mono ?_
  rintro e w1 ⟨rfl, f1⟩
  have F1 := Lib.hid f1
  clear f1
  go_wp2_with fail
  go_ret
  exact ⟨rfl, F1.out⟩
end Go.Proofs.Ytcchhfkmhbjdmaa
