/- The document's digest: the blocks. -/
import Derived.Test.YtcchhfkmhbjdmaaJl4
import Derived.Test.YtcchhfkmhbjdmaaJl5
import Derived.Test.YtcchhfkmhbjdmaaJl6
set_option linter.unusedVariables false
set_option linter.unusedSimpArgs false
set_option pp.deepTerms true
set_option pp.maxSteps 100000
namespace Go.Proofs.Ytcchhfkmhbjdmaa
open Go.RowKit
theorem blk_step (msg : List UInt8) (a : Nat) (h : List UInt32) (ha : a + 64 ≤ msg.length) : eatAll h (msg.drop a) = eatAll (comp h (blk msg a)) (msg.drop (a + 64)) := by
  rw [eatAll_step h (msg.drop a) (by rw [List.length_drop]; omega), List.drop_drop]
  rfl
set_option maxRecDepth 100000 in
set_option maxHeartbeats 4000000 in
theorem ref_l3 (s0 s1 s2 s4 s5 s9 s10 s11 s12 s13 s14 s15 s16 s17 s18 s19 s20 s21 s22 s23 s24 s25 s26 s27 s28 s29 s30 s31 s32 s33 s34 s35 s36 s37 s38 s39 s40 s41 s42 s43 s44 s45 s46 s47 s48 s49 s50 s51 s52 s53 s54 s55 s56 s57 s58 s59 s60 s61 s62 s63 s64 s65 s66 s67 s68 s69 s70 s71 s72 s73 s74 s75 s76 s77 s78 s79 s80 s81 s82 s83 s84 s85 s86 s87 s88 s89 s90 s91 s92 s93 s94 s95 s96 s97 s98 s99 s100 s101 s102 s103 s104 s105 s106 s107 s108 s109 s110 s111 s112 s113 s114 s115 s116 s117 s118 s119 s120 s121 s122 s123 s124 s125 s126 s127 s128 s129 s130 s131 s132 s133 s134 s135 s136 s137 s138 s139 s140 s141 s142 s143 s144 s145 s146 s147 s148 s149 s150 s151 s152 s153 s154 s155 s156 s157 s158 s159 s160 s161 s162 s163 s164 s165 s166 s167 s168 s169 s170 s171 s172 s173 s174 s175 s176 s177 s178 s179 s180 s181 s182 s183 s184 s185 s186 s187 s188 s189 s190 s191 s192 s193 s194 s195 s196 s197 s198 s199 s200 s201 s202 s203 s204 s205 s206 s207 s208 s209 s210 s211 s212 s213 s214 s215 s216 s217 s218 s219 s220 s221 s222 s223 s224 s225 s226 s227 s228 s229 s230 s231 s232 s233 s234 s235 s236 s237 s238 s239 s240 s241 s242 s243 s244 s245 s246 s247 s248 s249 s250 s251 s252 s253 s254 s255 s256 s257 s258 s259 s260 s261 s262 s263 s264 s265 s266 s267 s268 s269 s270 s271 s272 s273 s274 s275 s276 s277 s278 s279 : Value) (g L cap KB H : Nat) (msg : List UInt8) (hL : L = msg.length) (hLb : L ≤ 1000000) (hLm : L % 64 = 0) (w : World) (hm : ∀ k x, msg[k]? = some x → w.cell? ⟨g, k, none⟩ = some (.int .u8 (x.toNat : Int)))
    (hgl : g < w.heap.size) (hgH : g ≠ H) (hKH : KB ≠ H) (hK : w.heap[KB]? = some (.cells (wcells kT ++ []).toArray 115 (0, 0))) (hH : w.heap[H]? = some (.cells (wcells hT ++ []).toArray 107 (0, 0))) (Q0 : Exit → Act → World → Prop)
    (hexit : ∀ (u9 u10 u11 u12 u13 u14 u15 u48 u49 u50 u51 u52 u53 u54 u55 u56 u57 u58 u59 u60 u61 u62 u63 u64 u65 u66 u67 u68 u69 u70 u71 u72 u73 u74 u75 u76 u77 u78 u79 u80 u81 u82 u83 u84 u85 u86 u87 u88 u89 u90 u91 u92 u93 u94 u95 u96 u97 u98 u99 u100 u101 u102 u103 u104 u105 u106 u107 u108 u109 u110 u111 u112 u113 u114 u115 u116 u117 u118 u119 u120 u121 u122 u123 u124 u125 u126 u127 u128 u129 u130 u131 u132 u133 u134 u135 u136 u137 u138 u139 u140 u141 u142 u143 u144 u145 u146 u147 u148 u149 u150 u151 u152 u153 u154 u155 u156 u157 u158 u159 u160 u161 u162 u163 u164 u165 u166 u167 u168 u169 u170 u171 u172 u173 u174 u175 u176 u177 u178 u179 u180 u181 u182 u183 u184 u185 u186 u187 u188 u189 u190 u191 u192 u193 u194 u195 u196 u197 u198 u199 u200 u201 u202 u203 u204 u205 u206 u207 u208 u209 u210 u211 u212 u213 u214 u215 u216 u217 u218 u219 u220 u221 u222 u223 u224 u225 u226 u227 u228 u229 u230 u231 u232 u233 u234 u235 u236 u237 u238 u239 u240 u241 u242 u243 u244 u245 u246 u247 u248 u249 u250 u251 : Value) (w' : World), w'.heap[H]? = some (.cells (wcells (eatAll hT msg).1 ++ []).toArray 107 (0, 0)) → Fr (fun i => i = H) w w' → Q0 (.exit 4) ⟨(s0 :: s1 :: s2 :: .slice (some ⟨g, 0, none⟩) L cap :: s4 :: s5 :: .pointer (some ⟨KB, 0, none⟩) :: .pointer (some ⟨H, 0, none⟩) :: .int .i64 (L : Int) :: u9 :: u10 :: u11 :: u12 :: u13 :: u14 :: u15 :: s16 :: s17 :: s18 :: s19 :: s20 :: s21 :: s22 :: s23 :: s24 :: s25 :: s26 :: s27 :: s28 :: s29 :: s30 :: s31 :: s32 :: s33 :: s34 :: s35 :: s36 :: s37 :: s38 :: s39 :: s40 :: s41 :: s42 :: s43 :: s44 :: s45 :: s46 :: s47 :: u48 :: u49 :: u50 :: u51 :: u52 :: u53 :: u54 :: u55 :: u56 :: u57 :: u58 :: u59 :: u60 :: u61 :: u62 :: u63 :: u64 :: u65 :: u66 :: u67 :: u68 :: u69 :: u70 :: u71 :: u72 :: u73 :: u74 :: u75 :: u76 :: u77 :: u78 :: u79 :: u80 :: u81 :: u82 :: u83 :: u84 :: u85 :: u86 :: u87 :: u88 :: u89 :: u90 :: u91 :: u92 :: u93 :: u94 :: u95 :: u96 :: u97 :: u98 :: u99 :: u100 :: u101 :: u102 :: u103 :: u104 :: u105 :: u106 :: u107 :: u108 :: u109 :: u110 :: u111 :: u112 :: u113 :: u114 :: u115 :: u116 :: u117 :: u118 :: u119 :: u120 :: u121 :: u122 :: u123 :: u124 :: u125 :: u126 :: u127 :: u128 :: u129 :: u130 :: u131 :: u132 :: u133 :: u134 :: u135 :: u136 :: u137 :: u138 :: u139 :: u140 :: u141 :: u142 :: u143 :: u144 :: u145 :: u146 :: u147 :: u148 :: u149 :: u150 :: u151 :: u152 :: u153 :: u154 :: u155 :: u156 :: u157 :: u158 :: u159 :: u160 :: u161 :: u162 :: u163 :: u164 :: u165 :: u166 :: u167 :: u168 :: u169 :: u170 :: u171 :: u172 :: u173 :: u174 :: u175 :: u176 :: u177 :: u178 :: u179 :: u180 :: u181 :: u182 :: u183 :: u184 :: u185 :: u186 :: u187 :: u188 :: u189 :: u190 :: u191 :: u192 :: u193 :: u194 :: u195 :: u196 :: u197 :: u198 :: u199 :: u200 :: u201 :: u202 :: u203 :: u204 :: u205 :: u206 :: u207 :: u208 :: u209 :: u210 :: u211 :: u212 :: u213 :: u214 :: u215 :: u216 :: u217 :: u218 :: u219 :: u220 :: u221 :: u222 :: u223 :: u224 :: u225 :: u226 :: u227 :: u228 :: u229 :: u230 :: u231 :: u232 :: u233 :: u234 :: u235 :: u236 :: u237 :: u238 :: u239 :: u240 :: u241 :: u242 :: u243 :: u244 :: u245 :: u246 :: u247 :: u248 :: u249 :: u250 :: u251 :: s252 :: s253 :: s254 :: s255 :: s256 :: s257 :: s258 :: s259 :: s260 :: s261 :: s262 :: s263 :: s264 :: s265 :: s266 :: s267 :: s268 :: s269 :: s270 :: s271 :: s272 :: s273 :: s274 :: s275 :: s276 :: s277 :: s278 :: s279 :: []).toArray, []⟩ w') :
    Code.wp Try.prog (Code.loop (ps 2)) Q0 ⟨(s0 :: s1 :: s2 :: .slice (some ⟨g, 0, none⟩) L cap :: s4 :: s5 :: .pointer (some ⟨KB, 0, none⟩) :: .pointer (some ⟨H, 0, none⟩) :: .int .i64 (0) :: s9 :: s10 :: s11 :: s12 :: s13 :: s14 :: s15 :: s16 :: s17 :: s18 :: s19 :: s20 :: s21 :: s22 :: s23 :: s24 :: s25 :: s26 :: s27 :: s28 :: s29 :: s30 :: s31 :: s32 :: s33 :: s34 :: s35 :: s36 :: s37 :: s38 :: s39 :: s40 :: s41 :: s42 :: s43 :: s44 :: s45 :: s46 :: s47 :: s48 :: s49 :: s50 :: s51 :: s52 :: s53 :: s54 :: s55 :: s56 :: s57 :: s58 :: s59 :: s60 :: s61 :: s62 :: s63 :: s64 :: s65 :: s66 :: s67 :: s68 :: s69 :: s70 :: s71 :: s72 :: s73 :: s74 :: s75 :: s76 :: s77 :: s78 :: s79 :: s80 :: s81 :: s82 :: s83 :: s84 :: s85 :: s86 :: s87 :: s88 :: s89 :: s90 :: s91 :: s92 :: s93 :: s94 :: s95 :: s96 :: s97 :: s98 :: s99 :: s100 :: s101 :: s102 :: s103 :: s104 :: s105 :: s106 :: s107 :: s108 :: s109 :: s110 :: s111 :: s112 :: s113 :: s114 :: s115 :: s116 :: s117 :: s118 :: s119 :: s120 :: s121 :: s122 :: s123 :: s124 :: s125 :: s126 :: s127 :: s128 :: s129 :: s130 :: s131 :: s132 :: s133 :: s134 :: s135 :: s136 :: s137 :: s138 :: s139 :: s140 :: s141 :: s142 :: s143 :: s144 :: s145 :: s146 :: s147 :: s148 :: s149 :: s150 :: s151 :: s152 :: s153 :: s154 :: s155 :: s156 :: s157 :: s158 :: s159 :: s160 :: s161 :: s162 :: s163 :: s164 :: s165 :: s166 :: s167 :: s168 :: s169 :: s170 :: s171 :: s172 :: s173 :: s174 :: s175 :: s176 :: s177 :: s178 :: s179 :: s180 :: s181 :: s182 :: s183 :: s184 :: s185 :: s186 :: s187 :: s188 :: s189 :: s190 :: s191 :: s192 :: s193 :: s194 :: s195 :: s196 :: s197 :: s198 :: s199 :: s200 :: s201 :: s202 :: s203 :: s204 :: s205 :: s206 :: s207 :: s208 :: s209 :: s210 :: s211 :: s212 :: s213 :: s214 :: s215 :: s216 :: s217 :: s218 :: s219 :: s220 :: s221 :: s222 :: s223 :: s224 :: s225 :: s226 :: s227 :: s228 :: s229 :: s230 :: s231 :: s232 :: s233 :: s234 :: s235 :: s236 :: s237 :: s238 :: s239 :: s240 :: s241 :: s242 :: s243 :: s244 :: s245 :: s246 :: s247 :: s248 :: s249 :: s250 :: s251 :: s252 :: s253 :: s254 :: s255 :: s256 :: s257 :: s258 :: s259 :: s260 :: s261 :: s262 :: s263 :: s264 :: s265 :: s266 :: s267 :: s268 :: s269 :: s270 :: s271 :: s272 :: s273 :: s274 :: s275 :: s276 :: s277 :: s278 :: s279 :: []).toArray, []⟩ w := by
  have HH0 := Lib.hid hH
  have HX := Lib.hid hexit
  have HM := Lib.hid hm
  have HK := Lib.hid hK
  have HL := Lib.hid hL
  have HLM := Lib.hid hLm
  have HNE := Lib.hid (show g < w.heap.size ∧ g ≠ H ∧ KB ≠ H ∧ KB < w.heap.size ∧ H < w.heap.size from ⟨hgl, hgH, hKH, lt_of_heap hK, lt_of_heap hH⟩)
  clear hH hexit hm hK hL hLm hgl hgH hKH
  conv => arg 2; arg 1; whnf
  go_loopw [8] (fun v wr => ∃ (a : Nat) (hl : List UInt32), v = .int .i64 a ∧ a ≤ L ∧ a % 64 = 0 ∧ hl.length = 8 ∧ wr.heap[H]? = some (.cells (wcells hl ++ []).toArray 107 (0, 0)) ∧ eatAll hl (msg.drop a) = eatAll hT msg ∧ Fr (fun i => i = H) w wr) (fun v _ => L - (intOf v).toNat)
  case atStart => exact ⟨0, hT, rfl, Nat.zero_le _, rfl, rfl, HH0.out, by rw [List.drop_zero], Fr.refl _ _⟩
  case round =>
    obtain ⟨a, hl, rfl, ha, ham, hh, hHl, he, hf⟩ := hrel
    have HHr := Lib.hid hHl
    have HE := Lib.hid he
    have HF := Lib.hid hf
    have HHL := Lib.hid hh
    have HAM := Lib.hid ham
    clear hHl he hf hh ham HH0
    by_cases hlt : a < L
    · have hdl : (a : Int) < (L : Int) := by omega
      have HA := Lib.hid (show a + 64 ≤ L by have := HAM.out; have := HLM.out; omega)
      have hB0 := heap_alloc_new wr (.cells (wcells (List.replicate 64 0)).toArray 115)
      have hf0 : Fr (fun _ => False) wr (wr.alloc (.cells (wcells (List.replicate 64 0)).toArray 115)) := (Fr.refl _ _).alloc _
      have HSW := Lib.hid HF.out.size
      go_wp2
      change Code.wp _ _ _ _ (wr.alloc (.cells (wcells (List.replicate 64 0)).toArray 115))
      obtain ⟨B, hB⟩ : ∃ B, B = wr.heap.size := ⟨_, rfl⟩
      rw [← hB] at hB0 ⊢
      generalize wr.alloc (.cells (wcells (List.replicate 64 0)).toArray 115) = w1 at hB0 hf0 ⊢
      have HB0 := Lib.hid (show w1.heap[B]? = some (.cells (wcells (List.replicate 64 0) ++ []).toArray 115 (0, 0)) by simpa using hB0)
      have HF1 := Lib.hid (HF.out.trans hf0 (fun i hi => hi.elim))
      have HH1 := Lib.hid (hf0.heap HHr.out id)
      have HBW := Lib.hid (show w.heap.size ≤ B ∧ B ≠ g ∧ B ≠ H ∧ B ≠ KB by have := HSW.out; have := HNE.out; omega)
      clear hB0 hf0 hB hdl
      refine ref_l4 _ _ _ _ _ _ _ _ _ _ _ _ _ _ _ _ _ _ _ _ _ _ _ _ _ _ _ _ _ _ _ _ _ _ _ _ _ _ _ _ _ _ _ _ _ _ _ _ _ _ _ _ _ _ _ _ _ _ _ _ _ _ _ _ _ _ _ _ _ _ _ _ _ _ _ _ _ _ _ _ _ _ _ _ _ _ _ _ _ _ _ _ _ _ _ _ _ _ _ _ _ _ _ _ _ _ _ _ _ _ _ _ _ _ _ _ _ _ _ _ _ _ _ _ _ _ _ _ _ _ _ _ _ _ _ _ _ _ _ _ _ _ _ _ _ _ _ _ _ _ _ _ _ _ _ _ _ _ _ _ _ _ _ _ _ _ _ _ _ _ _ _ _ _ _ _ _ _ _ _ _ _ _ _ _ _ _ _ _ _ _ _ _ _ _ _ _ _ _ _ _ _ _ _ _ _ _ _ _ _ _ _ _ _ _ _ _ _ _ _ _ _ _ _ _ _ _ _ _ _ _ _ _ _ _ _ _ _ _ _ _ _ _ _ _ _ _ _ _ _ _ _ _ _ _ _ _ _ _ _ _ _ _ _ _ _ _ _ _ _ _ _ _ _ _ _ g L cap a B msg HL.out hLb HA.out w1 (fun k x hk => HF1.out.cell (HM.out k x hk) HNE.out.2.1) (Ne.symm HBW.out.2.1) HB0.out _ ?_
      intro p54 p55 p56 p57 p58 p59 p60 p61 p62 p63 p64 p65 p66 p67 p68 p69 p70 p71 p72 p73 p74 p75 p76 p77 p78 p79 p80 p81 p82 p83 p84 p85 p86 p87 p88 p89 p90 p91 p92 p93 p94 p95 p96 p97 p98 p99 p100 p101 p102 p103 p104 p105 p106 p107 p108 p109 p110 p111 p112 p113 p114 p115 p116 p117 p118 p119 p120 p121 p122 p123 p124 p125 p126 p127 p128 p129 p130 p131 p132 p133 p134 p135 p136 p137 p138 p139 p140 p141 p142 p143 p144 p145 p146 p147 p148 p149 w2 hB2 hf2
      have HB2 := Lib.hid hB2
      have HF2 := Lib.hid (HF1.out.trans hf2 (fun i hi => .inr (by rw [hi]; exact HBW.out.1)))
      have HH2 := Lib.hid (hf2.heap HH1.out (Ne.symm HBW.out.2.2.1))
      clear hB2 hf2 HB0 HH1 HF1
      have HZ := Lib.hid (show (#[.int .u32 0, .int .u32 0, .int .u32 0, .int .u32 0, .int .u32 0, .int .u32 0, .int .u32 0, .int .u32 0] : Array Value).size = (wcells hl).toArray.size by rw [show (wcells hl).toArray.size = 8 by rw [List.size_toArray, wcells_length, HHL.out]]; rfl)
      have HI := Lib.hid (show (Try.prog.info? 107).map (·.size) = some (wcells hl).toArray.size by rw [List.size_toArray, wcells_length, HHL.out]; kernel_rfl)
      have H1 := Lib.hid (show ∀ v ∈ (wcells hl).toArray.toList, v.oneCell' = true by simpa using wcells_one hl)
      go_wp2_with (first
        | (with_reducible refine wpList_load_w (op := ⟨some 150, _, _, _, _, _⟩) rfl 107 _ rfl H rfl 107 hl _ 8 106 HH2.out Try.underlying107 HHL.out (by kernel_rfl) ?_)
        | (with_reducible refine wpList_store_fresh (op := ⟨none, .store 107 _ _, _, _, _, _⟩) rfl 107 _ _ rfl w2 #[.int .u32 0, .int .u32 0, .int .u32 0, .int .u32 0, .int .u32 0, .int .u32 0, .int .u32 0, .int .u32 0] (wcells hl).toArray rfl rfl rfl HZ.out HI.out H1.out ?_))
      have hV0 := heap_alloc_new w2 (.cells (wcells hl).toArray 107)
      have hf3 : Fr (fun _ => False) w2 (w2.alloc (.cells (wcells hl).toArray 107)) := (Fr.refl _ _).alloc _
      have HSV := Lib.hid HF2.out.size
      have HHs := Lib.hid (lt_of_heap HH2.out)
      have HBs := Lib.hid (lt_of_heap HB2.out)
      obtain ⟨V, hV⟩ : ∃ V, V = w2.heap.size := ⟨_, rfl⟩
      rw [← hV] at hV0 ⊢
      generalize w2.alloc (.cells (wcells hl).toArray 107) = w3 at hV0 hf3 ⊢
      have HV0 := Lib.hid (show w3.heap[V]? = some (.cells (wcells (R8.of hl).list).toArray 107 (0, 0)) by rw [r8_list hl HHL.out]; exact hV0)
      have HVW := Lib.hid (show w.heap.size ≤ V ∧ V ≠ H ∧ B ≠ V ∧ KB ≠ V by have := HSV.out; have := HNE.out; have := HHs.out; have := HBs.out; omega)
      have HF3 := Lib.hid (HF2.out.trans hf3 (fun i hi => hi.elim))
      have HB3 := Lib.hid (hf3.heap HB2.out id)
      have HH3 := Lib.hid (hf3.heap HH2.out id)
      clear hV0 hf3 hV HZ HI H1 HSV HHs HBs HB2 HH2 HF2
      refine ref_l5 _ _ _ _ _ _ _ _ _ _ _ _ _ _ _ _ _ _ _ _ _ _ _ _ _ _ _ _ _ _ _ _ _ _ _ _ _ _ _ _ _ _ _ _ _ _ _ _ _ _ _ _ _ _ _ _ _ _ _ _ _ _ _ _ _ _ _ _ _ _ _ _ _ _ _ _ _ _ _ _ _ _ _ _ _ _ _ _ _ _ _ _ _ _ _ _ _ _ _ _ _ _ _ _ _ _ _ _ _ _ _ _ _ _ _ _ _ _ _ _ _ _ _ _ _ _ _ _ _ _ _ _ _ _ _ _ _ _ _ _ _ _ _ _ _ _ _ _ _ _ _ _ _ _ _ _ _ _ _ _ _ _ _ _ _ _ _ _ _ _ _ _ _ _ _ _ _ _ _ _ _ _ _ _ _ _ _ _ _ _ _ _ _ _ _ _ _ _ _ _ _ _ _ _ _ _ _ _ _ _ _ _ _ _ _ _ _ _ _ _ _ _ _ _ _ _ _ _ _ _ _ _ _ _ _ _ _ _ _ _ _ _ _ _ _ _ _ _ _ _ _ _ _ _ _ _ _ _ _ _ _ _ _ _ _ _ _ _ _ _ _ _ _ _ _ _ KB B V (sws (blk msg a) 64) (sws_length _ _) (R8.of hl) w3 (HF3.out.heap HK.out HNE.out.2.2.1) HB3.out HVW.out.2.2.2 HVW.out.2.2.1 HV0.out _ ?_
      intro q13 q14 q151 q152 q153 q154 q155 q156 q157 q158 q159 q160 q161 q162 q163 q164 q165 q166 q167 q168 q169 q170 q171 q172 q173 q174 q175 q176 q177 q178 q179 q180 q181 q182 q183 q184 q185 q186 q187 q188 q189 q190 q191 q192 q193 q194 q195 q196 q197 q198 q199 q200 q201 q202 q203 q204 q205 q206 q207 q208 q209 q210 q211 q212 q213 q214 q215 q216 q217 q218 q219 q220 q221 q222 q223 q224 q225 q226 q227 q228 q229 q230 q231 q232 q233 q234 q235 q236 q237 q238 w4 hV4 hf4
      have HV4 := Lib.hid (show w4.heap[V]? = some (.cells (wcells (rounds (sws (blk msg a) 64) (R8.of hl) 64).list ++ []).toArray 107 (0, 0)) by rw [List.append_nil]; exact hV4)
      have HF4 := Lib.hid (HF3.out.trans hf4 (fun i hi => .inr (by rw [hi]; exact HVW.out.1)))
      have HH4 := Lib.hid (hf4.heap HH3.out (Ne.symm HVW.out.2.1))
      clear hV4 hf4 HV0 HB3 HH3 HF3
      go_wp2
      refine ref_l6 _ _ _ _ _ _ _ _ _ _ _ _ _ _ _ _ _ _ _ _ _ _ _ _ _ _ _ _ _ _ _ _ _ _ _ _ _ _ _ _ _ _ _ _ _ _ _ _ _ _ _ _ _ _ _ _ _ _ _ _ _ _ _ _ _ _ _ _ _ _ _ _ _ _ _ _ _ _ _ _ _ _ _ _ _ _ _ _ _ _ _ _ _ _ _ _ _ _ _ _ _ _ _ _ _ _ _ _ _ _ _ _ _ _ _ _ _ _ _ _ _ _ _ _ _ _ _ _ _ _ _ _ _ _ _ _ _ _ _ _ _ _ _ _ _ _ _ _ _ _ _ _ _ _ _ _ _ _ _ _ _ _ _ _ _ _ _ _ _ _ _ _ _ _ _ _ _ _ _ _ _ _ _ _ _ _ _ _ _ _ _ _ _ _ _ _ _ _ _ _ _ _ _ _ _ _ _ _ _ _ _ _ _ _ _ _ _ _ _ _ _ _ _ _ _ _ _ _ _ _ _ _ _ _ _ _ _ _ _ _ _ _ _ _ _ _ _ _ _ _ _ _ _ _ _ _ _ _ _ _ _ _ _ _ _ _ _ _ _ _ _ _ _ _ _ _ _ H V hl (rounds (sws (blk msg a) 64) (R8.of hl) 64).list HHL.out rfl w4 HVW.out.2.1 HV4.out HH4.out _ ?_
      intro r239 r240 r241 r242 r243 r244 r245 r246 r247 r248 r249 r250 r251 w5 hH5 hf5
      have HH5 := Lib.hid (show w5.heap[H]? = some (.cells (wcells (comp hl (blk msg a)) ++ []).toArray 107 (0, 0)) from hH5)
      have HF5 := Lib.hid (HF4.out.trans hf5 (fun i hi => .inl hi))
      have HE5 := Lib.hid (show eatAll (comp hl (blk msg a)) (msg.drop (a + 64)) = eatAll hT msg by rw [← HE.out]; exact (blk_step msg a hl (by rw [← HL.out]; exact HA.out)).symm)
      clear hH5 hf5
      have hwa : IntKind.i64.wrap ((a : Int) + 64) = (a : Int) + 64 := IntWalk.i64_in _ (by omega)
      go_wp2
      go_roundw
      case rel => exact ⟨a + 64, comp hl (blk msg a), by go_num, HA.out, by have := HAM.out; omega, comp_length _ _, HH5.out, HE5.out, HF5.out⟩
      case measure => have := HA.out; simp [intOf]; omega
    · have hae : a = L := by omega
      subst hae
      have HHz := Lib.hid (show wr.heap[H]? = some (.cells (wcells (eatAll hT msg).1 ++ []).toArray 107 (0, 0)) by
        have := HE.out
        rw [List.drop_of_length_le (by rw [← HL.out]; omega), eatAll_done _ _ (by simp)] at this
        rw [← this]; exact HHr.out)
      go_wp2
      exact HX.out _ _ _ _ _ _ _ _ _ _ _ _ _ _ _ _ _ _ _ _ _ _ _ _ _ _ _ _ _ _ _ _ _ _ _ _ _ _ _ _ _ _ _ _ _ _ _ _ _ _ _ _ _ _ _ _ _ _ _ _ _ _ _ _ _ _ _ _ _ _ _ _ _ _ _ _ _ _ _ _ _ _ _ _ _ _ _ _ _ _ _ _ _ _ _ _ _ _ _ _ _ _ _ _ _ _ _ _ _ _ _ _ _ _ _ _ _ _ _ _ _ _ _ _ _ _ _ _ _ _ _ _ _ _ _ _ _ _ _ _ _ _ _ _ _ _ _ _ _ _ _ _ _ _ _ _ _ _ _ _ _ _ _ _ _ _ _ _ _ _ _ _ _ _ _ _ _ _ _ _ _ _ _ _ _ _ _ _ _ _ _ _ _ _ _ _ _ _ _ _ _ _ _ _ _ _ _ _ _ _ _ _ HHz.out HF.out
end Go.Proofs.Ytcchhfkmhbjdmaa
