/- Values: the walk of ValueNests. -/
import Derived.Test.YthmpmpepokeedaaNzd
set_option linter.unusedVariables false
set_option linter.unusedSimpArgs false
set_option pp.deepTerms true
set_option pp.maxSteps 100000
namespace Go.Proofs.Ythmpmpepokeedaa
open Go.RowKit
set_option maxRecDepth 20000 in
set_option maxHeartbeats 8000000 in
theorem vnests_walk (t u : VT) (cs cs2 : List Value) (D E : Nat → Prop) (w : World) (hv : VR w D t cs) (hv2 : VR w E u cs2) (hwf : WfA (ofV t)) (hwf2 : WfA (ofV u)) :
    Calls Try.prog 7 #[.agg cs.toArray, .agg cs2.toArray] w fun e w' => e = .returned (.bool true) ∧ Fr (fun _ => False) w w' := by
  obtain ⟨k, rest, rfl, _⟩ := hv.kind
  have h5 := hv.five
  obtain ⟨c1, c2, c3, c4, rfl⟩ : ∃ c1 c2 c3 c4, rest = [c1, c2, c3, c4] := by
    match rest, h5 with
    | [c1, c2, c3, c4], _ => exact ⟨_, _, _, _, rfl⟩
  have h6 := hv2.five
  obtain ⟨d0, d1, d2, d3, d4, rfl⟩ : ∃ d0 d1 d2 d3 d4, cs2 = [d0, d1, d2, d3, d4] := by
    match cs2, h6 with
    | [d0, d1, d2, d3, d4], _ => exact ⟨_, _, _, _, _, rfl⟩
  obtain ⟨w1, hw1⟩ : ∃ w1, w1 = (w.alloc (.cells #[.int .i64 k, c1, c2, c3, c4] 36)).alloc (.cells #[d0, d1, d2, d3, d4] 36) := ⟨_, rfl⟩
  obtain ⟨g, hg⟩ : ∃ g, g = w.heap.size := ⟨_, rfl⟩
  have hb : w1.heap[g]? = some (.cells #[.int .i64 k, c1, c2, c3, c4] 36 (0, 0)) := by rw [hw1, hg]; exact ((Fr.refl (fun _ => False) _).alloc _).heap (heap_alloc_new w _) id
  have hb2 : w1.heap[g + 1]? = some (.cells #[d0, d1, d2, d3, d4] 36 (0, 0)) := by
    have h := heap_alloc_new (w.alloc (.cells #[.int .i64 k, c1, c2, c3, c4] 36)) (.cells #[d0, d1, d2, d3, d4] 36)
    rw [World.size_alloc] at h
    rw [hw1, hg]; exact h
  have HF1 := Lib.hid (show Fr (fun _ => False) w w1 by rw [hw1]; exact ((Fr.refl _ _).alloc _).alloc _)
  have HX := Lib.hid (show ∀ W', Fr (fun _ => False) w1 W' → W'.rangeAt g 0 [.int .i64 k, c1, c2, c3, c4] from fun W' hf => rangeAt_all (hf.heap hb id))
  have HX2 := Lib.hid (show ∀ W', Fr (fun _ => False) w1 W' → W'.rangeAt (g + 1) 0 [d0, d1, d2, d3, d4] from fun W' hf => rangeAt_all (hf.heap hb2 id))
  have HK := Lib.hid (show ∀ W', Fr (fun _ => False) w1 W' → W'.cell? ⟨g, 0, none⟩ = some (.int .i64 k) from fun W' hf => (cell_of_row W' g 0 _ _ _ (hf.heap hb id)).trans rfl)
  have HV := Lib.hid (show ∀ W', Fr (fun _ => False) w1 W' → VR W' D t [.int .i64 k, c1, c2, c3, c4] from fun W' hf => hv.frF (HF1.out.trans hf (fun i hi => hi.elim)))
  have HV2 := Lib.hid (show ∀ W', Fr (fun _ => False) w1 W' → VR W' E u [d0, d1, d2, d3, d4] from fun W' hf => hv2.frF (HF1.out.trans hf (fun i hi => hi.elim)))
  have HW1 := Lib.hid hw1
  have HG := Lib.hid hg
  have HLi := Lib.hid (show (Try.prog.info? 36).map (·.size) = some ([.int .i64 k, c1, c2, c3, c4] : List Value).length from info36)
  have HLi2 := Lib.hid (show (Try.prog.info? 36).map (·.size) = some ([d0, d1, d2, d3, d4] : List Value).length from info36)
  show Calls Try.prog 7 #[.agg #[.int .i64 k, c1, c2, c3, c4], .agg #[d0, d1, d2, d3, d4]] w _
  obtain ⟨fa, hfa⟩ : ∃ b, b = fewK 10 t := ⟨_, rfl⟩
  obtain ⟨fb, hfb⟩ : ∃ b, b = fewK 10 u := ⟨_, rfl⟩
  have HFew := Lib.hid (show ∀ W', Fr (fun _ => False) w1 W' → Calls Try.prog 16 #[.agg #[.int .i64 k, c1, c2, c3, c4], .int .i64 1] W' fun e w'' => e = .returned (.bool fa) ∧ Fr (fun _ => False) W' w'' from fun W' hf => by rw [hfa]; exact few_calls 10 1 rfl t _ D W' (HV.out W' hf))
  have HFew2 := Lib.hid (show ∀ W', Fr (fun _ => False) w1 W' → Calls Try.prog 16 #[.agg #[d0, d1, d2, d3, d4], .int .i64 1] W' fun e w'' => e = .returned (.bool fb) ∧ Fr (fun _ => False) W' w'' from fun W' hf => by rw [hfb]; exact few_calls 10 1 rfl u _ E W' (HV2.out W' hf))
  have HWf := Lib.hid (And.intro hwf hwf2)
  have HFA := Lib.hid hfa
  have HFB := Lib.hid hfb
  clear hv hv2 h5 h6 hw1 hg hb hb2 hfa hfb hwf hwf2
  cases fa with
  | false =>
    go_enter Try.func7, Try.ntmps7
    go_wp2_with fail
    rw [← HG.out, ← HW1.out]
    refine (value_awake w1).mono ?_
    rintro e w2 ⟨rfl, f2⟩
    have G2 := Lib.hid f2
    clear f2
    go_wp2_with (first | (with_reducible refine wpList_load_mid (op := ⟨some 17, _, _, _, _, _⟩) rfl 36 _ rfl g 0 rfl [.int .i64 k, c1, c2, c3, c4] _ (HX.out _ G2.out) Try.underlying36 rfl HLi.out ?_))
    refine (HFew.out w2 G2.out).mono ?_
    rintro e w3 ⟨rfl, f3⟩
    have G3 := Lib.hid (G2.out.trans f3 (fun i hi => hi.elim))
    clear f3
    go_wp2_with fail
    go_ret
    exact ⟨rfl, HF1.out.trans G3.out (fun i hi => hi.elim)⟩
  | true =>
    cases fb with
    | false =>
      go_enter Try.func7, Try.ntmps7
      go_wp2_with fail
      rw [← HG.out, ← HW1.out]
      refine (value_awake w1).mono ?_
      rintro e w2 ⟨rfl, f2⟩
      have G2 := Lib.hid f2
      clear f2
      go_wp2_with (first | (with_reducible refine wpList_load_mid (op := ⟨some 17, _, _, _, _, _⟩) rfl 36 _ rfl g 0 rfl [.int .i64 k, c1, c2, c3, c4] _ (HX.out _ G2.out) Try.underlying36 rfl HLi.out ?_))
      refine (HFew.out w2 G2.out).mono ?_
      rintro e w3 ⟨rfl, f3⟩
      have G3 := Lib.hid (G2.out.trans f3 (fun i hi => hi.elim))
      clear f3
      go_wp2_with (first | (refine wpList_load_midG (op := ⟨some 21, _, _, _, _, _⟩) rfl 36 _ rfl (g + 1) 0 rfl [d0, d1, d2, d3, d4] _ (HX2.out _ G3.out) Try.underlying36 rfl HLi2.out ?_))
      refine (HFew2.out w3 G3.out).mono ?_
      rintro e w4 ⟨rfl, f4⟩
      have G4 := Lib.hid (G3.out.trans f4 (fun i hi => hi.elim))
      clear f4
      go_wp2_with fail
      go_ret
      exact ⟨rfl, HF1.out.trans G4.out (fun i hi => hi.elim)⟩
    | true =>
      obtain ⟨X, hX⟩ : ∃ X, X = ofV t := ⟨_, rfl⟩
      obtain ⟨Y, hY⟩ : ∃ Y, Y = ofV u := ⟨_, rfl⟩
      have HOfV := Lib.hid (show ∀ W', Fr (fun _ => False) w1 W' → Calls Try.prog 18 #[.agg #[.int .i64 k, c1, c2, c3, c4]] W' fun e w'' => ∃ v, e = .returned v ∧ AR w'' (fun i => W'.heap.size ≤ i) X v ∧ Fr (fun _ => False) W' w'' from fun W' hf' => by rw [hX]; exact of_calls 10 t _ D W' (HV.out W' hf') HFA.out.symm)
      have HOfV2 := Lib.hid (show ∀ W', Fr (fun _ => False) w1 W' → Calls Try.prog 18 #[.agg #[d0, d1, d2, d3, d4]] W' fun e w'' => ∃ v, e = .returned v ∧ AR w'' (fun i => W'.heap.size ≤ i) Y v ∧ Fr (fun _ => False) W' w'' from fun W' hf' => by rw [hY]; exact of_calls 10 u _ E W' (HV2.out W' hf') HFB.out.symm)
      have HLen := Lib.hid (show lenK 7 X ≤ 261129960812 ∧ lenK 7 Y ≤ 261129960812 by rw [hX, hY]; exact ⟨nest_len HFA.out.symm, nest_len HFB.out.symm⟩)
      rw [← hX, ← hY] at HWf
      clear hX hY
      obtain ⟨T1, hT1⟩ : ∃ x, x = str (encA 8 (.row [X])).1 := ⟨_, rfl⟩
      obtain ⟨T2, hT2⟩ : ∃ x, x = str (encA 8 (.row [Y])).1 := ⟨_, rfl⟩
      obtain ⟨U, hU⟩ : ∃ x, x = str (encA 8 (.row [X, Y])).1 := ⟨_, rfl⟩
      obtain ⟨e1, he1⟩ : ∃ x, x = (encA 8 (.row [X])).2 := ⟨_, rfl⟩
      obtain ⟨e2, he2⟩ : ∃ x, x = (encA 8 (.row [Y])).2 := ⟨_, rfl⟩
      obtain ⟨e3, he3⟩ : ∃ x, x = (encA 8 (.row [X, Y])).2 := ⟨_, rfl⟩
      have HE5 := Lib.hid (And.intro hT1 he1)
      have HE8 := Lib.hid (And.intro hT2 he2)
      have HEu := Lib.hid (And.intro hU he3)
      clear hT1 hT2 hU he1 he2 he3
      go_enter Try.func7, Try.ntmps7
      go_wp2_with fail
      rw [← HG.out, ← HW1.out]
      refine (value_awake w1).mono ?_
      rintro e w2 ⟨rfl, f2⟩
      have G2 := Lib.hid f2
      clear f2
      go_wp2_with (first | (with_reducible refine wpList_load_mid (op := ⟨some 17, _, _, _, _, _⟩) rfl 36 _ rfl g 0 rfl [.int .i64 k, c1, c2, c3, c4] _ (HX.out _ G2.out) Try.underlying36 rfl HLi.out ?_))
      refine (HFew.out w2 G2.out).mono ?_
      rintro e w3 ⟨rfl, f3⟩
      have G3 := Lib.hid (G2.out.trans f3 (fun i hi => hi.elim))
      clear f3
      go_wp2_with (first | (refine wpList_load_midG (op := ⟨some 21, _, _, _, _, _⟩) rfl 36 _ rfl (g + 1) 0 rfl [d0, d1, d2, d3, d4] _ (HX2.out _ G3.out) Try.underlying36 rfl HLi2.out ?_))
      refine (HFew2.out w3 G3.out).mono ?_
      rintro e w4 ⟨rfl, f4⟩
      have G4 := Lib.hid (G3.out.trans f4 (fun i hi => hi.elim))
      clear f4
      go_wp2_with (first | (with_reducible refine wpList_load_mid (op := ⟨some 26, _, _, _, _, _⟩) rfl 36 _ rfl g 0 rfl [.int .i64 k, c1, c2, c3, c4] _ (HX.out _ G4.out) Try.underlying36 rfl HLi.out ?_))
      refine (HOfV.out _ G4.out).mono ?_
      rintro e w5 ⟨v1, rfl, har, fa⟩
      have H15 := Lib.hid har.one
      have A5 := Lib.hid (ar_one har)
      have G5a := Lib.hid (G4.out.trans fa (fun i hi => hi.elim))
      clear har fa
      go_wp2_with (first | (refine wpList_buildA1 rfl _ rfl v1 rfl H15.out ?_))
      refine (print_calls (.row [X]) _ _ _ A5.out (nest_len1 HLen.out.1)).mono ?_
      rintro e w6 ⟨rfl, fc⟩
      have G5 := Lib.hid (G5a.out.trans (((Fr.refl (fun _ => False) w5).alloc (.cells #[v1] 20)).trans fc (fun i hi => hi.elim)) (fun i hi => hi.elim))
      clear fc
      rw [← HE5.out.1, ← HE5.out.2]
      go_wp2_with (first | (with_reducible refine wpList_load_mid (op := ⟨some 34, _, _, _, _, _⟩) rfl 36 _ rfl (g + 1) 0 rfl [d0, d1, d2, d3, d4] _ (HX2.out _ G5.out) Try.underlying36 rfl HLi2.out ?_))
      refine (HOfV2.out _ G5.out).mono ?_
      rintro e w7 ⟨v2, rfl, har, fa⟩
      have H18 := Lib.hid har.one
      have A8 := Lib.hid (ar_one har)
      have G8a := Lib.hid (G5.out.trans fa (fun i hi => hi.elim))
      clear har fa
      go_wp2_with (first | (refine wpList_buildA1 rfl _ rfl v2 rfl H18.out ?_))
      refine (print_calls (.row [Y]) _ _ _ A8.out (nest_len1 HLen.out.2)).mono ?_
      rintro e w8 ⟨rfl, fc⟩
      have G8 := Lib.hid (G8a.out.trans (((Fr.refl (fun _ => False) w7).alloc (.cells #[v2] 20)).trans fc (fun i hi => hi.elim)) (fun i hi => hi.elim))
      clear fc
      rw [← HE8.out.1, ← HE8.out.2]
      go_wp2_with fail
      refine wp_region_till (fun w' => Fr (fun _ => False) w8.drew w') 6 rfl ?_
      generalize hW0 : w8.drew = W0
      have G0 := Lib.hid (show Fr (fun _ => False) w1 W0 by rw [← hW0]; exact G8.out.drew)
      have HS0 := Lib.hid (Fr.refl (fun _ => False) W0)
      clear hW0
      refine wpAnyT_path (i := 0) (p := [3, 1]) (v := .agg #[.int .i64 k, c1, c2, c3, c4]) rfl (by kernel_rfl) (by kernel_rfl) (fun _ _ _ h => h) HS0.out (yieldsIf_load rfl 36 (.tmp 2) rfl g 0 rfl [.int .i64 k, c1, c2, c3, c4] _ (fun W' hW => HX.out W' (G0.out.trans hW (fun i hi => hi.elim))) Try.underlying36 rfl HLi.out) ?_
      try simp only [Act.put, List.setIfInBounds_toArray]
      try dsimp only [List.getElem_toArray, List.getElem_cons_succ, List.getElem_cons_zero, List.set_cons_zero, List.set_cons_succ]
      refine wpAnyT_path (i := 2) (p := [3]) (v := .agg #[d0, d1, d2, d3, d4]) rfl (by kernel_rfl) (by kernel_rfl) (fun _ _ _ h => h) HS0.out (yieldsIf_load rfl 36 (.tmp 3) rfl (g + 1) 0 rfl [d0, d1, d2, d3, d4] _ (fun W' hW => HX2.out W' (G0.out.trans hW (fun i hi => hi.elim))) Try.underlying36 rfl HLi2.out) ?_
      try simp only [Act.put, List.setIfInBounds_toArray]
      try dsimp only [List.getElem_toArray, List.getElem_cons_succ, List.getElem_cons_zero, List.set_cons_zero, List.set_cons_succ]
      refine wpAnyT_one (i := 1) rfl (by kernel_rfl) ?_
      refine wpOp_plain rfl rfl (fun K hK => ?_)
      try simp only [Act.put, List.setIfInBounds_toArray]
      try dsimp only [List.getElem_toArray, List.getElem_cons_succ, List.getElem_cons_zero, List.set_cons_zero, List.set_cons_succ]
      have HKK2 := Lib.hid hK
      clear hK
      go_wp2_with fail
      refine (HOfV.out W0 G0.out).mono ?_
      rintro e w9 ⟨va, rfl, har, f9⟩
      have HS9 := Lib.hid f9
      have HAR := Lib.hid har
      clear f9 har
      go_wp2_with fail
      refine HKK2.out _ _ ⟨fun _ => HS9.out, ?_⟩
      clear HKK2 K
      try simp only [Act.put, List.setIfInBounds_toArray]
      try dsimp only [List.getElem_toArray, List.getElem_cons_succ, List.getElem_cons_zero, List.set_cons_zero, List.set_cons_succ]
      refine wpAnyT_one (i := 3) rfl (by kernel_rfl) ?_
      refine wpOp_plain rfl rfl (fun K hK => ?_)
      try simp only [Act.put, List.setIfInBounds_toArray]
      try dsimp only [List.getElem_toArray, List.getElem_cons_succ, List.getElem_cons_zero, List.set_cons_zero, List.set_cons_succ]
      have HKK2 := Lib.hid hK
      clear hK
      go_wp2_with fail
      refine (HOfV2.out w9 (G0.out.trans HS9.out (fun i hi => hi.elim))).mono ?_
      rintro e w10 ⟨vb, rfl, har2, f10⟩
      have HA2 := Lib.hid (ar_two (HAR.out.frF f10) har2)
      have HOne2 := Lib.hid (And.intro HAR.out.one har2.one)
      have HS10 := Lib.hid (HS9.out.trans f10 (fun i hi => hi.elim))
      clear f10 har2
      go_wp2_with fail
      refine HKK2.out _ _ ⟨fun _ => HS10.out, ?_⟩
      clear HKK2 K
      try simp only [Act.put, List.setIfInBounds_toArray]
      try dsimp only [List.getElem_toArray, List.getElem_cons_succ, List.getElem_cons_zero, List.set_cons_zero, List.set_cons_succ]
      refine wpAnyT_one (i := 4) rfl (by kernel_rfl) ?_
      refine wpOp_plain rfl rfl (fun K hK => ?_)
      try simp only [Act.put, List.setIfInBounds_toArray]
      try dsimp only [List.getElem_toArray, List.getElem_cons_succ, List.getElem_cons_zero, List.set_cons_zero, List.set_cons_succ]
      have HKK2 := Lib.hid hK
      clear hK
      refine op_buildA2 (.tmp 43) (.tmp 45) rfl va vb rfl rfl HOne2.out.1 HOne2.out.2 ?_
      have HS11 := Lib.hid (HS10.out.alloc (.cells #[va, vb] 20))
      refine HKK2.out _ _ ⟨fun _ => HS11.out, ?_⟩
      clear HKK2 K
      try simp only [Act.put, List.setIfInBounds_toArray]
      try dsimp only [List.getElem_toArray, List.getElem_cons_succ, List.getElem_cons_zero, List.set_cons_zero, List.set_cons_succ]
      refine wpAnyT_path (i := 5) (p := []) (v := .iface 58 (.slice (some ⟨w10.heap.size, 0, none⟩) 2 2)) rfl (by kernel_rfl) (by kernel_rfl) (fun _ _ _ h => h) HS11.out (.inl ⟨by rfl, fun W' hW => by clear hW; go_simp⟩) ?_
      try simp only [Act.put, List.setIfInBounds_toArray]
      try dsimp only [List.getElem_toArray, List.getElem_cons_succ, List.getElem_cons_zero, List.set_cons_zero, List.set_cons_succ]
      refine wpAnyT_one (i := 6) rfl (by kernel_rfl) ?_
      refine wpOp_plain rfl rfl (fun K hK => ?_)
      try simp only [Act.put, List.setIfInBounds_toArray]
      try dsimp only [List.getElem_toArray, List.getElem_cons_succ, List.getElem_cons_zero, List.set_cons_zero, List.set_cons_succ]
      have HKK2 := Lib.hid hK
      clear hK
      go_wp2_with fail
      refine (print_calls (.row [X, Y]) _ _ _ HA2.out (nest_len2 HLen.out.1 HLen.out.2)).mono ?_
      rintro e w12 ⟨rfl, f12⟩
      rw [← HEu.out.1, ← HEu.out.2]
      have HS12 := Lib.hid (HS11.out.trans f12 (fun i hi => hi.elim))
      clear f12
      go_wp2_with fail
      refine HKK2.out _ _ ⟨fun _ => HS12.out, ?_⟩
      clear HKK2 K
      try simp only [Act.put, List.setIfInBounds_toArray]
      try dsimp only [List.getElem_toArray, List.getElem_cons_succ, List.getElem_cons_zero, List.set_cons_zero, List.set_cons_succ]
      refine wpAnyT_done (by first | rfl | kernel_rfl) _ _ _ ?_
      refine wpAny_take (i := 7) (v := .tuple #[.string U, .int .i64 (e3 : Int)]) rfl (by kernel_rfl) (by kernel_rfl) (by kernel_rfl) (fun _ _ _ h => h) (.inl ⟨by rfl, fun W' => by go_simp⟩) ?_
      try simp only [Act.put, List.setIfInBounds_toArray]
      try dsimp only [List.getElem_toArray, List.getElem_cons_succ, List.getElem_cons_zero, List.set_cons_zero, List.set_cons_succ]
      refine wpAny_take (i := 8) (v := .string U) rfl (by kernel_rfl) (by kernel_rfl) (by kernel_rfl) (fun _ _ _ h => h) (.inl ⟨by rfl, fun W' => by go_simp⟩) ?_
      try simp only [Act.put, List.setIfInBounds_toArray]
      try dsimp only [List.getElem_toArray, List.getElem_cons_succ, List.getElem_cons_zero, List.set_cons_zero, List.set_cons_succ]
      refine wpAny_take (i := 9) (v := .int .i64 (e3 : Int)) rfl (by kernel_rfl) (by kernel_rfl) (by kernel_rfl) (fun _ _ _ h => h) (.inl ⟨by rfl, fun W' => by go_simp⟩) ?_
      try simp only [Act.put, List.setIfInBounds_toArray]
      try dsimp only [List.getElem_toArray, List.getElem_cons_succ, List.getElem_cons_zero, List.set_cons_zero, List.set_cons_succ]
      refine wpAny_take (i := 10) (v := .string U) rfl (by kernel_rfl) (by kernel_rfl) (by kernel_rfl) (fun _ _ _ h => h) (.inl ⟨by rfl, fun W' => by go_simp⟩) ?_
      try simp only [Act.put, List.setIfInBounds_toArray]
      try dsimp only [List.getElem_toArray, List.getElem_cons_succ, List.getElem_cons_zero, List.set_cons_zero, List.set_cons_succ]
      refine wpAny_take (i := 11) (v := .int .i64 (e3 : Int)) rfl (by kernel_rfl) (by kernel_rfl) (by kernel_rfl) (fun _ _ _ h => h) (.inl ⟨by rfl, fun W' => by go_simp⟩) ?_
      try simp only [Act.put, List.setIfInBounds_toArray]
      try dsimp only [List.getElem_toArray, List.getElem_cons_succ, List.getElem_cons_zero, List.set_cons_zero, List.set_cons_succ]
      refine wpAny_done (by kernel_rfl) ?_ _
      have G12 := Lib.hid (G0.out.trans HS12.out (fun i hi => hi.elim))
      have HFin := Lib.hid (HF1.out.trans G12.out (fun i hi => hi.elim))
      have hn1 := nest1 X
      have hn2 := nest1 Y
      have hn3 := nest2 X Y
      by_cases o1 : (encA 7 X).2 = 0
      · rw [if_pos o1] at hn1 hn3
        by_cases o2 : (encA 7 Y).2 = 0
        · rw [if_pos o2] at hn2 hn3
          obtain rfl : e1 = 0 := by rw [HE5.out.2, hn1]
          obtain rfl : e2 = 0 := by rw [HE8.out.2, hn2]
          obtain rfl : e3 = 0 := by rw [HEu.out.2, hn3]
          have HUl := Lib.hid (show (encA 8 (.row [X, Y])).1.length ≤ 4611686018427387904 by have := encA_len 8 (.row [X, Y]); have := nest_len2 HLen.out.1 HLen.out.2; omega)
          have hdec : decA 8 (encA 8 (.row [X, Y])).1 = some (.row [X, Y], []) := by
            have := dec_enc 8 (.row [X, Y]) (encA 8 (.row [X, Y])).1 [] (.row _ (fun a ha => by simp at ha; rcases ha with rfl | rfl; exact HWf.out.1; exact HWf.out.2)) (Prod.ext rfl HEu.out.2.symm)
            rwa [List.append_nil] at this
          have HO := Lib.hid (And.intro o1 o2)
          have HT := Lib.hid (show T1 = str (108 :: 1 :: (encA 7 X).1) ∧ T2 = str (108 :: 1 :: (encA 7 Y).1) ∧ U = str (108 :: 2 :: ((encA 7 X).1 ++ (encA 7 Y).1)) by rw [HE5.out.1, HE8.out.1, HEu.out.1, hn1, hn2, hn3]; exact ⟨rfl, rfl, rfl⟩)
          clear hn1 hn2 hn3 o1 o2
          have HRe := Lib.hid (show ∀ W', Calls Try.prog 20 #[.string U] W' fun e w'' => ∃ vz, e = .returned (.tuple #[vz, .int .i64 0]) ∧ AR w'' (fun i => W'.heap.size ≤ i) (.row [X, Y]) vz ∧ Fr (fun _ => False) W' w'' from fun W' => by
            rw [HEu.out.1]
            refine (vparse_calls _ HUl.out W').mono ?_
            rintro e w' ⟨v, c, rfl, _, hm, hf⟩
            rw [hdec] at hm
            exact ⟨v, by rw [hm.1], hm.2, hf⟩)
          clear hdec
          go_wp2_with fail
          refine (HRe.out w12).mono ?_
          rintro e w13 ⟨vz, rfl, harz, f13⟩
          have HLs := Lib.hid (list_calls (.row [X, Y]) _ vz none 0 [] w13 harz (fun i x hx => by simp at hx) (Nat.le_refl _) (by decide) (show 2 ≤ _ from by decide))
          have G13 := Lib.hid (G12.out.trans f13 (fun i hi => hi.elim))
          clear f13 harz
          go_wp2_with fail
          refine HLs.out.mono ?_
          rintro e w14 ⟨ls, rfl, ⟨gl, capl, vs, rfl, hcl, hcl2, hels⟩, f14⟩
          have G14 := Lib.hid (G13.out.trans f14 (fun i hi => hi.elim))
          have HE0 := Lib.hid (hels 0 X rfl)
          have HE1 := Lib.hid (hels 1 Y rfl)
          clear f14 hels HLs
          have HC0 := Lib.hid (show ∀ W', Fr (fun _ => False) w14 W' → W'.cell? ⟨gl, 0, none⟩ = some (vs 0) from fun W' hf => hf.cell HE0.out.1 id)
          have HC1 := Lib.hid (show ∀ W', Fr (fun _ => False) w14 W' → W'.cell? ⟨gl, 1, none⟩ = some (vs 1) from fun W' hf => hf.cell HE1.out.1 id)
          obtain ⟨SP, hSP⟩ : ∃ x, x = str (encA 7 X).1 := ⟨_, rfl⟩
          obtain ⟨SQ, hSQ⟩ : ∃ x, x = str (encA 7 Y).1 := ⟨_, rfl⟩
          obtain ⟨C1, hC1⟩ : ∃ x, x = str (108 :: 2 :: (encA 7 X).1) := ⟨_, rfl⟩
          have x1 : T1.extract 2 T1.size = SP := by rw [HT.out.1, str_size, str_drop2, hSP]
          have x2 : T2.extract 2 T2.size = SQ := by rw [HT.out.2.1, str_size, str_drop2, hSQ]
          have x3 : T1.extract 0 2 = ⟨#[108, 1]⟩ := by rw [HT.out.1, str_take2]; rfl
          have b1 : (2 : Int) ≤ (T1.size : Int) := by rw [HT.out.1, str_size]; simp; omega
          have b2 : (2 : Int) ≤ (T2.size : Int) := by rw [HT.out.2.1, str_size]; simp; omega
          have b1' : 2 ≤ T1.size := by omega
          have b2' : 2 ≤ T2.size := by omega
          have y1 : (⟨#[108, 2]⟩ : ByteArray) ++ SP = C1 := by
            rw [hSP, hC1]
            apply ByteArray.ext
            simp [str]
          have y2 : C1 ++ SQ = U := by
            rw [hSQ, hC1, HT.out.2.2]
            apply ByteArray.ext
            simp [str]
          have uu : (U.toList == U.toList) = true := beq_self_eq_true _
          have l1 : (encA 7 X).1.length ≤ 261129960812 := by rw [← lenK_eq 7 X HO.out.1]; exact HLen.out.1
          have l2 : (encA 7 Y).1.length ≤ 261129960812 := by rw [← lenK_eq 7 Y HO.out.2]; exact HLen.out.2
          have z1 : 2 + SP.size ≤ 9223372036854775807 := by rw [hSP, str_size]; omega
          have z2 : C1.size + SQ.size ≤ 9223372036854775807 := by rw [hC1, hSQ, str_size, str_size]; simp; omega
          have tc : toldC (okL (withinA (AV.row [X, Y]) []).fst) (withinA (AV.row [X, Y]) []).snd = 0 := rfl
          clear hSP hSQ hC1 l1 l2
          go_wp2_with fail
          refine wp_region_till (fun w' => Fr (fun _ => False) w14.drew w') 44 rfl ?_
          generalize hWa : w14.drew = Wa
          have HWa := Lib.hid (show Fr (fun _ => False) w14 Wa by rw [← hWa]; exact (Fr.refl _ _).drew)
          have Ga := Lib.hid (G14.out.trans HWa.out (fun i hi => hi.elim))
          have HSa := Lib.hid (Fr.refl (fun _ => False) Wa)
          clear hWa
          refine wpAnyT_path (i := 0) (p := [38, 36, 30, 25, 21, 17, 12, 2, 1]) (v := .int .i64 0) rfl (by kernel_rfl) (by kernel_rfl) (fun _ _ _ h => h) HSa.out (.inl ⟨by rfl, fun W' hW => by clear hW; go_simp⟩) ?_
          try simp only [Act.put, List.setIfInBounds_toArray]
          try dsimp only [List.getElem_toArray, List.getElem_cons_succ, List.getElem_cons_zero, List.set_cons_zero, List.set_cons_succ]
          refine wpAnyT_path (i := 1) (p := [38, 36, 30, 25, 21, 17, 12, 2]) (v := .bool true) rfl (by kernel_rfl) (by kernel_rfl) (fun _ _ _ h => h) HSa.out (.inl ⟨by rfl, fun W' hW => by clear hW; go_simp⟩) ?_
          try simp only [Act.put, List.setIfInBounds_toArray]
          try dsimp only [List.getElem_toArray, List.getElem_cons_succ, List.getElem_cons_zero, List.set_cons_zero, List.set_cons_succ]
          refine wpAnyT_path (i := 2) (p := [38, 36, 30, 25, 21, 17, 12]) (v := .bool true) rfl (by kernel_rfl) (by kernel_rfl) (fun _ _ _ h => h) HSa.out (.inl ⟨by rfl, fun W' hW => by clear hW; go_simp⟩) ?_
          try simp only [Act.put, List.setIfInBounds_toArray]
          try dsimp only [List.getElem_toArray, List.getElem_cons_succ, List.getElem_cons_zero, List.set_cons_zero, List.set_cons_succ]
          refine wpAnyT_path (i := 3) (p := [38, 36, 30, 25, 21, 17, 12, 11, 10]) (v := .string U) rfl (by kernel_rfl) (by kernel_rfl) (fun _ _ _ h => h) HSa.out (.inl ⟨by rfl, fun W' hW => by clear hW; go_simp⟩) ?_
          try simp only [Act.put, List.setIfInBounds_toArray]
          try dsimp only [List.getElem_toArray, List.getElem_cons_succ, List.getElem_cons_zero, List.set_cons_zero, List.set_cons_succ]
          refine wpAnyT_path (i := 4) (p := [38, 36, 30, 25, 21, 17, 12, 11, 10, 9, 6, 5]) (v := .string T1) rfl (by kernel_rfl) (by kernel_rfl) (fun _ _ _ h => h) HSa.out (.inl ⟨by rfl, fun W' hW => by clear hW; go_simp⟩) ?_
          try simp only [Act.put, List.setIfInBounds_toArray]
          try dsimp only [List.getElem_toArray, List.getElem_cons_succ, List.getElem_cons_zero, List.set_cons_zero, List.set_cons_succ]
          refine wpAnyT_path (i := 5) (p := [38, 36, 30, 25, 21, 17, 12, 11, 10, 9, 6]) (v := .string SP) rfl (by kernel_rfl) (by kernel_rfl) (fun _ _ _ h => h) HSa.out (.inl ⟨by rfl, fun W' hW => by clear hW; go_simp⟩) ?_
          try simp only [Act.put, List.setIfInBounds_toArray]
          try dsimp only [List.getElem_toArray, List.getElem_cons_succ, List.getElem_cons_zero, List.set_cons_zero, List.set_cons_succ]
          refine wpAnyT_path (i := 6) (p := [38, 36, 30, 25, 21, 17, 12, 11, 10, 9]) (v := .string C1) rfl (by kernel_rfl) (by kernel_rfl) (fun _ _ _ h => h) HSa.out (.inl ⟨by rfl, fun W' hW => by clear hW; go_simp⟩) ?_
          try simp only [Act.put, List.setIfInBounds_toArray]
          try dsimp only [List.getElem_toArray, List.getElem_cons_succ, List.getElem_cons_zero, List.set_cons_zero, List.set_cons_succ]
          refine wpAnyT_path (i := 7) (p := [38, 36, 30, 25, 21, 17, 12, 11, 10, 9, 8]) (v := .string T2) rfl (by kernel_rfl) (by kernel_rfl) (fun _ _ _ h => h) HSa.out (.inl ⟨by rfl, fun W' hW => by clear hW; go_simp⟩) ?_
          try simp only [Act.put, List.setIfInBounds_toArray]
          try dsimp only [List.getElem_toArray, List.getElem_cons_succ, List.getElem_cons_zero, List.set_cons_zero, List.set_cons_succ]
          refine wpAnyT_path (i := 8) (p := [38, 36, 30, 25, 21, 17, 12, 11, 10, 9]) (v := .string SQ) rfl (by kernel_rfl) (by kernel_rfl) (fun _ _ _ h => h) HSa.out (.inl ⟨by rfl, fun W' hW => by clear hW; go_simp⟩) ?_
          try simp only [Act.put, List.setIfInBounds_toArray]
          try dsimp only [List.getElem_toArray, List.getElem_cons_succ, List.getElem_cons_zero, List.set_cons_zero, List.set_cons_succ]
          refine wpAnyT_path (i := 9) (p := [38, 36, 30, 25, 21, 17, 12, 11, 10]) (v := .string U) rfl (by kernel_rfl) (by kernel_rfl) (fun _ _ _ h => h) HSa.out (.inl ⟨by rfl, fun W' hW => by clear hW; go_simp⟩) ?_
          try simp only [Act.put, List.setIfInBounds_toArray]
          try dsimp only [List.getElem_toArray, List.getElem_cons_succ, List.getElem_cons_zero, List.set_cons_zero, List.set_cons_succ]
          refine wpAnyT_path (i := 10) (p := [38, 36, 30, 25, 21, 17, 12, 11]) (v := .bool true) rfl (by kernel_rfl) (by kernel_rfl) (fun _ _ _ h => h) HSa.out (.inl ⟨by rfl, fun W' hW => by clear hW; go_simp⟩) ?_
          try simp only [Act.put, List.setIfInBounds_toArray]
          try dsimp only [List.getElem_toArray, List.getElem_cons_succ, List.getElem_cons_zero, List.set_cons_zero, List.set_cons_succ]
          refine wpAnyT_path (i := 11) (p := [38, 36, 30, 25, 21, 17, 12]) (v := .bool true) rfl (by kernel_rfl) (by kernel_rfl) (fun _ _ _ h => h) HSa.out (.inl ⟨by rfl, fun W' hW => by clear hW; go_simp⟩) ?_
          try simp only [Act.put, List.setIfInBounds_toArray]
          try dsimp only [List.getElem_toArray, List.getElem_cons_succ, List.getElem_cons_zero, List.set_cons_zero, List.set_cons_succ]
          refine wpAnyT_path (i := 12) (p := [38, 36, 30, 25, 21, 17]) (v := .bool true) rfl (by kernel_rfl) (by kernel_rfl) (fun _ _ _ h => h) HSa.out (.inl ⟨by rfl, fun W' hW => by clear hW; go_simp⟩) ?_
          try simp only [Act.put, List.setIfInBounds_toArray]
          try dsimp only [List.getElem_toArray, List.getElem_cons_succ, List.getElem_cons_zero, List.set_cons_zero, List.set_cons_succ]
          refine wpAnyT_path (i := 13) (p := [38, 36, 30, 25, 21, 17, 16, 15, 14]) (v := .string T1) rfl (by kernel_rfl) (by kernel_rfl) (fun _ _ _ h => h) HSa.out (.inl ⟨by rfl, fun W' hW => by clear hW; go_simp⟩) ?_
          try simp only [Act.put, List.setIfInBounds_toArray]
          try dsimp only [List.getElem_toArray, List.getElem_cons_succ, List.getElem_cons_zero, List.set_cons_zero, List.set_cons_succ]
          refine wpAnyT_path (i := 14) (p := [38, 36, 30, 25, 21, 17, 16, 15]) (v := .string ⟨#[108, 1]⟩) rfl (by kernel_rfl) (by kernel_rfl) (fun _ _ _ h => h) HSa.out (.inl ⟨by rfl, fun W' hW => by clear hW; go_simp⟩) ?_
          try simp only [Act.put, List.setIfInBounds_toArray]
          try dsimp only [List.getElem_toArray, List.getElem_cons_succ, List.getElem_cons_zero, List.set_cons_zero, List.set_cons_succ]
          refine wpAnyT_path (i := 15) (p := [38, 36, 30, 25, 21, 17, 16]) (v := .bool true) rfl (by kernel_rfl) (by kernel_rfl) (fun _ _ _ h => h) HSa.out (.inl ⟨by rfl, fun W' hW => by clear hW; go_simp⟩) ?_
          try simp only [Act.put, List.setIfInBounds_toArray]
          try dsimp only [List.getElem_toArray, List.getElem_cons_succ, List.getElem_cons_zero, List.set_cons_zero, List.set_cons_succ]
          refine wpAnyT_path (i := 16) (p := [38, 36, 30, 25, 21, 17]) (v := .bool true) rfl (by kernel_rfl) (by kernel_rfl) (fun _ _ _ h => h) HSa.out (.inl ⟨by rfl, fun W' hW => by clear hW; go_simp⟩) ?_
          try simp only [Act.put, List.setIfInBounds_toArray]
          try dsimp only [List.getElem_toArray, List.getElem_cons_succ, List.getElem_cons_zero, List.set_cons_zero, List.set_cons_succ]
          refine wpAnyT_path (i := 17) (p := [38, 36, 30, 25, 21]) (v := .bool true) rfl (by kernel_rfl) (by kernel_rfl) (fun _ _ _ h => h) HSa.out (.inl ⟨by rfl, fun W' hW => by clear hW; go_simp⟩) ?_
          try simp only [Act.put, List.setIfInBounds_toArray]
          try dsimp only [List.getElem_toArray, List.getElem_cons_succ, List.getElem_cons_zero, List.set_cons_zero, List.set_cons_succ]
          refine wpAnyT_path (i := 18) (p := [38, 36, 30, 25, 21, 20, 19]) (v := .int .i64 0) rfl (by kernel_rfl) (by kernel_rfl) (fun _ _ _ h => h) HSa.out (.inl ⟨by rfl, fun W' hW => by clear hW; go_simp⟩) ?_
          try simp only [Act.put, List.setIfInBounds_toArray]
          try dsimp only [List.getElem_toArray, List.getElem_cons_succ, List.getElem_cons_zero, List.set_cons_zero, List.set_cons_succ]
          refine wpAnyT_path (i := 19) (p := [38, 36, 30, 25, 21, 20]) (v := .bool true) rfl (by kernel_rfl) (by kernel_rfl) (fun _ _ _ h => h) HSa.out (.inl ⟨by rfl, fun W' hW => by clear hW; go_simp⟩) ?_
          try simp only [Act.put, List.setIfInBounds_toArray]
          try dsimp only [List.getElem_toArray, List.getElem_cons_succ, List.getElem_cons_zero, List.set_cons_zero, List.set_cons_succ]
          refine wpAnyT_path (i := 20) (p := [38, 36, 30, 25, 21]) (v := .bool true) rfl (by kernel_rfl) (by kernel_rfl) (fun _ _ _ h => h) HSa.out (.inl ⟨by rfl, fun W' hW => by clear hW; go_simp⟩) ?_
          try simp only [Act.put, List.setIfInBounds_toArray]
          try dsimp only [List.getElem_toArray, List.getElem_cons_succ, List.getElem_cons_zero, List.set_cons_zero, List.set_cons_succ]
          refine wpAnyT_path (i := 21) (p := [38, 36, 30, 25]) (v := .bool true) rfl (by kernel_rfl) (by kernel_rfl) (fun _ _ _ h => h) HSa.out (.inl ⟨by rfl, fun W' hW => by clear hW; go_simp⟩) ?_
          try simp only [Act.put, List.setIfInBounds_toArray]
          try dsimp only [List.getElem_toArray, List.getElem_cons_succ, List.getElem_cons_zero, List.set_cons_zero, List.set_cons_succ]
          refine wpAnyT_path (i := 22) (p := [38, 36, 30, 25, 24, 23]) (v := .int .i64 0) rfl (by kernel_rfl) (by kernel_rfl) (fun _ _ _ h => h) HSa.out (.inl ⟨by rfl, fun W' hW => by clear hW; go_simp⟩) ?_
          try simp only [Act.put, List.setIfInBounds_toArray]
          try dsimp only [List.getElem_toArray, List.getElem_cons_succ, List.getElem_cons_zero, List.set_cons_zero, List.set_cons_succ]
          refine wpAnyT_path (i := 23) (p := [38, 36, 30, 25, 24]) (v := .bool true) rfl (by kernel_rfl) (by kernel_rfl) (fun _ _ _ h => h) HSa.out (.inl ⟨by rfl, fun W' hW => by clear hW; go_simp⟩) ?_
          try simp only [Act.put, List.setIfInBounds_toArray]
          try dsimp only [List.getElem_toArray, List.getElem_cons_succ, List.getElem_cons_zero, List.set_cons_zero, List.set_cons_succ]
          refine wpAnyT_path (i := 24) (p := [38, 36, 30, 25]) (v := .bool true) rfl (by kernel_rfl) (by kernel_rfl) (fun _ _ _ h => h) HSa.out (.inl ⟨by rfl, fun W' hW => by clear hW; go_simp⟩) ?_
          try simp only [Act.put, List.setIfInBounds_toArray]
          try dsimp only [List.getElem_toArray, List.getElem_cons_succ, List.getElem_cons_zero, List.set_cons_zero, List.set_cons_succ]
          refine wpAnyT_path (i := 25) (p := [38, 36, 30]) (v := .bool true) rfl (by kernel_rfl) (by kernel_rfl) (fun _ _ _ h => h) HSa.out (.inl ⟨by rfl, fun W' hW => by clear hW; go_simp⟩) ?_
          try simp only [Act.put, List.setIfInBounds_toArray]
          try dsimp only [List.getElem_toArray, List.getElem_cons_succ, List.getElem_cons_zero, List.set_cons_zero, List.set_cons_succ]
          refine wpAnyT_path (i := 26) (p := [38, 36, 30, 29, 28, 27]) (v := .slice (some ⟨gl, 0, none⟩) 2 capl) rfl (by kernel_rfl) (by kernel_rfl) (fun _ _ _ h => h) HSa.out (.inl ⟨by rfl, fun W' hW => by clear hW; go_simp⟩) ?_
          try simp only [Act.put, List.setIfInBounds_toArray]
          try dsimp only [List.getElem_toArray, List.getElem_cons_succ, List.getElem_cons_zero, List.set_cons_zero, List.set_cons_succ]
          refine wpAnyT_path (i := 27) (p := [38, 36, 30, 29, 28]) (v := .int .i64 2) rfl (by kernel_rfl) (by kernel_rfl) (fun _ _ _ h => h) HSa.out (.inl ⟨by rfl, fun W' hW => by clear hW; go_simp⟩) ?_
          try simp only [Act.put, List.setIfInBounds_toArray]
          try dsimp only [List.getElem_toArray, List.getElem_cons_succ, List.getElem_cons_zero, List.set_cons_zero, List.set_cons_succ]
          refine wpAnyT_path (i := 28) (p := [38, 36, 30, 29]) (v := .bool true) rfl (by kernel_rfl) (by kernel_rfl) (fun _ _ _ h => h) HSa.out (.inl ⟨by rfl, fun W' hW => by clear hW; go_simp⟩) ?_
          try simp only [Act.put, List.setIfInBounds_toArray]
          try dsimp only [List.getElem_toArray, List.getElem_cons_succ, List.getElem_cons_zero, List.set_cons_zero, List.set_cons_succ]
          refine wpAnyT_path (i := 29) (p := [38, 36, 30]) (v := .bool true) rfl (by kernel_rfl) (by kernel_rfl) (fun _ _ _ h => h) HSa.out (.inl ⟨by rfl, fun W' hW => by clear hW; go_simp⟩) ?_
          try simp only [Act.put, List.setIfInBounds_toArray]
          try dsimp only [List.getElem_toArray, List.getElem_cons_succ, List.getElem_cons_zero, List.set_cons_zero, List.set_cons_succ]
          refine wpAnyT_path (i := 30) (p := [38, 36]) (v := .bool true) rfl (by kernel_rfl) (by kernel_rfl) (fun _ _ _ h => h) HSa.out (.inl ⟨by rfl, fun W' hW => by clear hW; go_simp⟩) ?_
          try simp only [Act.put, List.setIfInBounds_toArray]
          try dsimp only [List.getElem_toArray, List.getElem_cons_succ, List.getElem_cons_zero, List.set_cons_zero, List.set_cons_succ]
          refine wpAnyT_path (i := 31) (p := [38, 36, 33, 32]) (v := .slice (some ⟨gl, 0, none⟩) 2 capl) rfl (by kernel_rfl) (by kernel_rfl) (fun _ _ _ h => h) HSa.out (.inl ⟨by rfl, fun W' hW => by clear hW; go_simp⟩) ?_
          try simp only [Act.put, List.setIfInBounds_toArray]
          try dsimp only [List.getElem_toArray, List.getElem_cons_succ, List.getElem_cons_zero, List.set_cons_zero, List.set_cons_succ]
          refine wpAnyT_path (i := 32) (p := [38, 36, 33]) (v := .pointer (some ⟨gl, 0, none⟩)) rfl (by kernel_rfl) (by kernel_rfl) (fun _ _ _ h => h) HSa.out (.inl ⟨by rfl, fun W' hW => by clear hW; go_simp⟩) ?_
          try simp only [Act.put, List.setIfInBounds_toArray]
          try dsimp only [List.getElem_toArray, List.getElem_cons_succ, List.getElem_cons_zero, List.set_cons_zero, List.set_cons_succ]
          refine wpAnyT_path (i := 33) (p := [38, 36]) (v := vs 0) rfl (by kernel_rfl) (by kernel_rfl) (fun _ _ _ h => h) HSa.out (.inl ⟨by rfl, fun W' hW => by have hc := HC0.out W' (HWa.out.trans hW (fun i hi => hi.elim)); clear hW; go_simp⟩) ?_
          try simp only [Act.put, List.setIfInBounds_toArray]
          try dsimp only [List.getElem_toArray, List.getElem_cons_succ, List.getElem_cons_zero, List.set_cons_zero, List.set_cons_succ]
          refine wpAnyT_path (i := 34) (p := [38, 36, 35]) (v := .agg #[.int .i64 k, c1, c2, c3, c4]) rfl (by kernel_rfl) (by kernel_rfl) (fun _ _ _ h => h) HSa.out (yieldsIf_load_mid (by rfl) 36 (.tmp 2) rfl g 0 rfl [.int .i64 k, c1, c2, c3, c4] _ (fun W' hW => HX.out W' (Ga.out.trans hW (fun i hi => hi.elim))) Try.underlying36 rfl HLi.out) ?_
          try simp only [Act.put, List.setIfInBounds_toArray]
          try dsimp only [List.getElem_toArray, List.getElem_cons_succ, List.getElem_cons_zero, List.set_cons_zero, List.set_cons_succ]
          refine wpAnyT_one (i := 35) rfl (by kernel_rfl) ?_
          refine wpOp_guarded rfl (by rfl) (fun K hK => ?_)
          try simp only [Act.put, List.setIfInBounds_toArray]
          try dsimp only [List.getElem_toArray, List.getElem_cons_succ, List.getElem_cons_zero, List.set_cons_zero, List.set_cons_succ]
          have HKK2 := Lib.hid hK
          clear hK
          go_wp2_with fail
          refine (HOfV.out Wa Ga.out).mono ?_
          rintro e wb ⟨v0, rfl, har0, fb⟩
          have HSb := Lib.hid fb
          have HA0 := Lib.hid har0
          clear fb har0
          go_wp2_with fail
          refine HKK2.out _ _ ⟨fun _ => HSb.out, ?_⟩
          clear HKK2 K
          try simp only [Act.put, List.setIfInBounds_toArray]
          try dsimp only [List.getElem_toArray, List.getElem_cons_succ, List.getElem_cons_zero, List.set_cons_zero, List.set_cons_succ]
          refine wpAnyT_one (i := 36) rfl (by kernel_rfl) ?_
          refine wpOp_guarded rfl (by rfl) (fun K hK => ?_)
          try simp only [Act.put, List.setIfInBounds_toArray]
          try dsimp only [List.getElem_toArray, List.getElem_cons_succ, List.getElem_cons_zero, List.set_cons_zero, List.set_cons_succ]
          have HKK2 := Lib.hid hK
          clear hK
          go_wp2_with fail
          refine (vsame_calls X X _ _ (vs 0) v0 wb (HE0.out.2.frF (HWa.out.trans HSb.out (fun i hi => hi.elim))) HA0.out (nest_len0 HLen.out.1 HO.out.1) (nest_len0 HLen.out.1 HO.out.1)).mono ?_
          rintro e wc ⟨rfl, fc⟩
          rw [nest_same HO.out.1]
          have HSc := Lib.hid (HSb.out.trans fc (fun i hi => hi.elim))
          clear fc
          go_wp2_with fail
          refine HKK2.out _ _ ⟨fun _ => HSc.out, ?_⟩
          clear HKK2 K
          try simp only [Act.put, List.setIfInBounds_toArray]
          try dsimp only [List.getElem_toArray, List.getElem_cons_succ, List.getElem_cons_zero, List.set_cons_zero, List.set_cons_succ]
          refine wpAnyT_path (i := 37) (p := [38]) (v := .bool true) rfl (by kernel_rfl) (by kernel_rfl) (fun _ _ _ h => h) HSc.out (.inl ⟨by rfl, fun W' hW => by clear hW; go_simp⟩) ?_
          try simp only [Act.put, List.setIfInBounds_toArray]
          try dsimp only [List.getElem_toArray, List.getElem_cons_succ, List.getElem_cons_zero, List.set_cons_zero, List.set_cons_succ]
          refine wpAnyT_path (i := 38) (p := []) (v := .bool true) rfl (by kernel_rfl) (by kernel_rfl) (fun _ _ _ h => h) HSc.out (.inl ⟨by rfl, fun W' hW => by clear hW; go_simp⟩) ?_
          try simp only [Act.put, List.setIfInBounds_toArray]
          try dsimp only [List.getElem_toArray, List.getElem_cons_succ, List.getElem_cons_zero, List.set_cons_zero, List.set_cons_succ]
          refine wpAnyT_path (i := 39) (p := [41, 40]) (v := .slice (some ⟨gl, 0, none⟩) 2 capl) rfl (by kernel_rfl) (by kernel_rfl) (fun _ _ _ h => h) HSc.out (.inl ⟨by rfl, fun W' hW => by clear hW; go_simp⟩) ?_
          try simp only [Act.put, List.setIfInBounds_toArray]
          try dsimp only [List.getElem_toArray, List.getElem_cons_succ, List.getElem_cons_zero, List.set_cons_zero, List.set_cons_succ]
          refine wpAnyT_path (i := 40) (p := [41]) (v := .pointer (some ⟨gl, 1, none⟩)) rfl (by kernel_rfl) (by kernel_rfl) (fun _ _ _ h => h) HSc.out (.inl ⟨by rfl, fun W' hW => by clear hW; go_simp⟩) ?_
          try simp only [Act.put, List.setIfInBounds_toArray]
          try dsimp only [List.getElem_toArray, List.getElem_cons_succ, List.getElem_cons_zero, List.set_cons_zero, List.set_cons_succ]
          refine wpAnyT_path (i := 41) (p := []) (v := vs 1) rfl (by kernel_rfl) (by kernel_rfl) (fun _ _ _ h => h) HSc.out (.inl ⟨by rfl, fun W' hW => by have hc := HC1.out W' (HWa.out.trans hW (fun i hi => hi.elim)); clear hW; go_simp⟩) ?_
          try simp only [Act.put, List.setIfInBounds_toArray]
          try dsimp only [List.getElem_toArray, List.getElem_cons_succ, List.getElem_cons_zero, List.set_cons_zero, List.set_cons_succ]
          refine wpAnyT_path (i := 42) (p := [43]) (v := .agg #[d0, d1, d2, d3, d4]) rfl (by kernel_rfl) (by kernel_rfl) (fun _ _ _ h => h) HSc.out (yieldsIf_load_mid (by rfl) 36 (.tmp 3) rfl (g + 1) 0 rfl [d0, d1, d2, d3, d4] _ (fun W' hW => HX2.out W' (Ga.out.trans hW (fun i hi => hi.elim))) Try.underlying36 rfl HLi2.out) ?_
          try simp only [Act.put, List.setIfInBounds_toArray]
          try dsimp only [List.getElem_toArray, List.getElem_cons_succ, List.getElem_cons_zero, List.set_cons_zero, List.set_cons_succ]
          refine wpAnyT_one (i := 43) rfl (by kernel_rfl) ?_
          refine wpOp_guarded rfl (by rfl) (fun K hK => ?_)
          try simp only [Act.put, List.setIfInBounds_toArray]
          try dsimp only [List.getElem_toArray, List.getElem_cons_succ, List.getElem_cons_zero, List.set_cons_zero, List.set_cons_succ]
          have HKK2 := Lib.hid hK
          clear hK
          go_wp2_with fail
          refine (HOfV2.out wc (Ga.out.trans HSc.out (fun i hi => hi.elim))).mono ?_
          rintro e wd ⟨v1', rfl, har1, fd⟩
          have HSd := Lib.hid (HSc.out.trans fd (fun i hi => hi.elim))
          have HA1 := Lib.hid har1
          clear fd har1
          go_wp2_with fail
          refine HKK2.out _ _ ⟨fun _ => HSd.out, ?_⟩
          clear HKK2 K
          try simp only [Act.put, List.setIfInBounds_toArray]
          try dsimp only [List.getElem_toArray, List.getElem_cons_succ, List.getElem_cons_zero, List.set_cons_zero, List.set_cons_succ]
          refine wpAnyT_one (i := 44) rfl (by kernel_rfl) ?_
          refine wpOp_guarded rfl (by rfl) (fun K hK => ?_)
          try simp only [Act.put, List.setIfInBounds_toArray]
          try dsimp only [List.getElem_toArray, List.getElem_cons_succ, List.getElem_cons_zero, List.set_cons_zero, List.set_cons_succ]
          have HKK2 := Lib.hid hK
          clear hK
          go_wp2_with fail
          refine (vsame_calls Y Y _ _ (vs 1) v1' wd (HE1.out.2.frF (HWa.out.trans HSd.out (fun i hi => hi.elim))) HA1.out (nest_len0 HLen.out.2 HO.out.2) (nest_len0 HLen.out.2 HO.out.2)).mono ?_
          rintro e we ⟨rfl, fe⟩
          rw [nest_same HO.out.2]
          have HSe := Lib.hid (HSd.out.trans fe (fun i hi => hi.elim))
          clear fe
          go_wp2_with fail
          refine HKK2.out _ _ ⟨fun _ => HSe.out, ?_⟩
          clear HKK2 K
          try simp only [Act.put, List.setIfInBounds_toArray]
          try dsimp only [List.getElem_toArray, List.getElem_cons_succ, List.getElem_cons_zero, List.set_cons_zero, List.set_cons_succ]
          refine wpAnyT_done (by first | rfl | kernel_rfl) _ _ _ ?_
          refine wpAny_take (i := 45) (v := .bool true) rfl (by kernel_rfl) (by kernel_rfl) (by kernel_rfl) (fun _ _ _ h => h) (.inl ⟨by rfl, fun W' => by go_simp⟩) ?_
          try simp only [Act.put, List.setIfInBounds_toArray]
          try dsimp only [List.getElem_toArray, List.getElem_cons_succ, List.getElem_cons_zero, List.set_cons_zero, List.set_cons_succ]
          refine wpAny_take (i := 46) (v := .bool true) rfl (by kernel_rfl) (by kernel_rfl) (by kernel_rfl) (fun _ _ _ h => h) (.inl ⟨by rfl, fun W' => by go_simp⟩) ?_
          try simp only [Act.put, List.setIfInBounds_toArray]
          try dsimp only [List.getElem_toArray, List.getElem_cons_succ, List.getElem_cons_zero, List.set_cons_zero, List.set_cons_succ]
          refine wpAny_done (by kernel_rfl) ?_ _
          have HFin2 := Lib.hid (HF1.out.trans (Ga.out.trans HSe.out (fun i hi => hi.elim)) (fun i hi => hi.elim))
          go_wp2_with fail
          go_ret
          exact ⟨rfl, HFin2.out⟩
        · rw [if_neg o2] at hn2 hn3
          obtain rfl : e1 = 0 := by rw [HE5.out.2, hn1]
          have h2 : e2 ≠ 0 := by rw [HE8.out.2, hn2]; exact o2
          have h3 : e3 ≠ 0 := by rw [HEu.out.2, hn3]; exact o2
          have hu : U = ⟨#[]⟩ := by rw [HEu.out.1, hn3]; rfl
          have t1 : ((e2 : Int) == 0) = false := beq_eq_false_iff_ne.2 (by omega)
          have t2 : ((e2 : Int) != 0) = true := bne_iff_ne.2 (by omega)
          have t3 : ((e3 : Int) == 0) = false := beq_eq_false_iff_ne.2 (by omega)
          have t4 : ((e3 : Int) != 0) = true := bne_iff_ne.2 (by omega)
          clear hn1 hn2 hn3 o1 o2 h2 h3
          subst hu
          go_wp2_with fail
          go_ret
          exact ⟨rfl, HFin.out⟩
      · rw [if_neg o1] at hn1 hn3
        have h1 : e1 ≠ 0 := by rw [HE5.out.2, hn1]; exact o1
        have h3 : e3 ≠ 0 := by rw [HEu.out.2, hn3]; exact o1
        have hu : U = ⟨#[]⟩ := by rw [HEu.out.1, hn3]; rfl
        have t1 : ((e1 : Int) == 0) = false := beq_eq_false_iff_ne.2 (by omega)
        have t2 : ((e1 : Int) != 0) = true := bne_iff_ne.2 (by omega)
        have t3 : ((e3 : Int) == 0) = false := beq_eq_false_iff_ne.2 (by omega)
        have t4 : ((e3 : Int) != 0) = true := bne_iff_ne.2 (by omega)
        clear hn1 hn2 hn3 o1 h1 h3
        subst hu
        go_wp2_with fail
        go_ret
        exact ⟨rfl, HFin.out⟩
end Go.Proofs.Ythmpmpepokeedaa
