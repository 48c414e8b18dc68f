/- Values: the walk of ValueBack. -/
import Derived.Test.YthmpmpepokeedaaNw
import Derived.Test.YthmpmpepokeedaaNl
set_option linter.unusedVariables false
set_option linter.unusedSimpArgs false
set_option pp.deepTerms true
set_option pp.maxSteps 100000
namespace Go.Proofs.Ythmpmpepokeedaa
open Go.RowKit
theorem wpList_load_midG {P : Program} {ops : Array Oper} {rest : List Oper} {op : Oper} {a : Act} {w : World} {Q : Exit → Act → World → Prop} (hgw : Region.wanted op (yielded ops a.tmps) = true) (ty : TypeId) (x : Operand) (ho : op.op = .load ty x)
    (b o : Nat) (hx : a.eval x = .pointer (some ⟨b, o, none⟩)) (cs : List Value) (d : TypeDesc) (hc : w.rangeAt b o cs)
    (hu : P.underlying ty = some d) (hd : d.isRow = true) (hi : (P.info? ty).map (·.size) = some cs.length)
    (h : wpList P ops Q rest (a.put op.dst (.agg cs.toArray)) w) : wpList P ops Q (op :: rest) a w :=
  wpList_step fun K hK => by rw [if_pos hgw]; exact wp_load_mid ty x ho b o hx cs d hc hu hd hi (hK _ _ h)
theorem VR.kind {w : World} {D : Nat → Prop} {t : VT} {cs : List Value} (h : VR w D t cs) : ∃ k r, cs = .int .i64 k :: r ∧ isText (ofV t) = (k == 2) := by
  cases h with
  | mk k n s b l a cap csf hlc hcap hs ha hh =>
    refine ⟨k, _, rfl, ?_⟩
    rw [ofV]
    by_cases h1 : k = 1
    · subst h1; rfl
    by_cases h2 : k = 2
    · subst h2; rfl
    rw [if_neg h1, if_neg h2, show (k == 2) = false from beq_eq_false_iff_ne.2 h2]
    by_cases h3 : k = 3
    · rw [if_pos h3]; rfl
    by_cases h4 : k = 4
    · rw [if_neg h3, if_pos h4]; rfl
    · rw [if_neg h3, if_neg h4]; rfl
theorem panics_calls (a : AV) (D : Nat → Prop) (v : Value) (w : World) (hr : AR w D a v) (W' : World) (hf : Fr (fun _ => False) w W') : Calls Try.prog 30 #[v] W' fun e w'' => e = .returned (.bool (!isText a)) ∧ Fr (fun _ => False) W' w'' := by
  cases ht : isText a with
  | false =>
    refine panics_yes v W' fun W => ?_
    cases hr with
    | non => exact must_nil W
    | int n => exact must_int n W
    | text s hs => cases ht
    | yes b => exact must_bool b W
    | row l g cap vs _ _ _ _ _ _ => exact must_list _ _ _ W
  | true =>
    cases hr with
    | non => cases ht
    | int n => cases ht
    | text s hs => exact panics_no _ W'
    | yes b => cases ht
    | row l g cap vs _ _ _ _ _ _ => cases ht
set_option maxRecDepth 20000 in
set_option maxHeartbeats 8000000 in
theorem vback_walk (t u : VT) (cs cs2 : List Value) (D E : Nat → Prop) (w : World) (hv : VR w D t cs) (hv2 : VR w E u cs2) (hwf : WfA (ofV t)) :
    Calls Try.prog 6 #[.agg cs.toArray, .agg cs2.toArray] w fun e w' => e = .returned (.bool true) ∧ Fr (fun _ => False) w w' := by
  obtain ⟨k, rest, rfl, htx⟩ := hv.kind
  have h5 := hv.five
  obtain ⟨c1, c2, c3, c4, rfl⟩ : ∃ c1 c2 c3 c4, rest = [c1, c2, c3, c4] := by
    match rest, h5 with
    | [c1, c2, c3, c4], _ => exact ⟨_, _, _, _, rfl⟩
  have h6 := hv2.five
  obtain ⟨d0, d1, d2, d3, d4, rfl⟩ : ∃ d0 d1 d2 d3 d4, cs2 = [d0, d1, d2, d3, d4] := by
    match cs2, h6 with
    | [d0, d1, d2, d3, d4], _ => exact ⟨_, _, _, _, _, rfl⟩
  obtain ⟨w1, hw1⟩ : ∃ w1, w1 = (w.alloc (.cells #[.int .i64 k, c1, c2, c3, c4] 36)).alloc (.cells #[d0, d1, d2, d3, d4] 36) := ⟨_, rfl⟩
  obtain ⟨g, hg⟩ : ∃ g, g = w.heap.size := ⟨_, rfl⟩
  have hb : w1.heap[g]? = some (.cells #[.int .i64 k, c1, c2, c3, c4] 36 (0, 0)) := by rw [hw1, hg]; exact ((Fr.refl (fun _ => False) _).alloc _).heap (heap_alloc_new w _) id
  have hb2 : w1.heap[g + 1]? = some (.cells #[d0, d1, d2, d3, d4] 36 (0, 0)) := by
    have h := heap_alloc_new (w.alloc (.cells #[.int .i64 k, c1, c2, c3, c4] 36)) (.cells #[d0, d1, d2, d3, d4] 36)
    rw [World.size_alloc] at h
    rw [hw1, hg]; exact h
  have HF1 := Lib.hid (show Fr (fun _ => False) w w1 by rw [hw1]; exact ((Fr.refl _ _).alloc _).alloc _)
  have HX := Lib.hid (show ∀ W', Fr (fun _ => False) w1 W' → W'.rangeAt g 0 [.int .i64 k, c1, c2, c3, c4] from fun W' hf => rangeAt_all (hf.heap hb id))
  have HX2 := Lib.hid (show ∀ W', Fr (fun _ => False) w1 W' → W'.rangeAt (g + 1) 0 [d0, d1, d2, d3, d4] from fun W' hf => rangeAt_all (hf.heap hb2 id))
  have HK := Lib.hid (show ∀ W', Fr (fun _ => False) w1 W' → W'.cell? ⟨g, 0, none⟩ = some (.int .i64 k) from fun W' hf => (cell_of_row W' g 0 _ _ _ (hf.heap hb id)).trans rfl)
  have HV := Lib.hid (show ∀ W', Fr (fun _ => False) w1 W' → VR W' D t [.int .i64 k, c1, c2, c3, c4] from fun W' hf => hv.frF (HF1.out.trans hf (fun i hi => hi.elim)))
  have HV2 := Lib.hid (show ∀ W', Fr (fun _ => False) w1 W' → VR W' E u [d0, d1, d2, d3, d4] from fun W' hf => hv2.frF (HF1.out.trans hf (fun i hi => hi.elim)))
  have HW1 := Lib.hid hw1
  have HG := Lib.hid hg
  have HTx := Lib.hid htx
  have HLi := Lib.hid (show (Try.prog.info? 36).map (·.size) = some ([.int .i64 k, c1, c2, c3, c4] : List Value).length from info36)
  have HLi2 := Lib.hid (show (Try.prog.info? 36).map (·.size) = some ([d0, d1, d2, d3, d4] : List Value).length from info36)
  show Calls Try.prog 6 #[.agg #[.int .i64 k, c1, c2, c3, c4], .agg #[d0, d1, d2, d3, d4]] w _
  obtain ⟨fa, hfa⟩ : ∃ b, b = fewK 11 t := ⟨_, rfl⟩
  obtain ⟨fb, hfb⟩ : ∃ b, b = fewK 11 u := ⟨_, rfl⟩
  have HFew := Lib.hid (show ∀ W', Fr (fun _ => False) w1 W' → Calls Try.prog 16 #[.agg #[.int .i64 k, c1, c2, c3, c4], .int .i64 0] W' fun e w'' => e = .returned (.bool fa) ∧ Fr (fun _ => False) W' w'' from fun W' hf => by rw [hfa]; exact few_calls 11 0 rfl t _ D W' (HV.out W' hf))
  have HFew2 := Lib.hid (show ∀ W', Fr (fun _ => False) w1 W' → Calls Try.prog 16 #[.agg #[d0, d1, d2, d3, d4], .int .i64 0] W' fun e w'' => e = .returned (.bool fb) ∧ Fr (fun _ => False) W' w'' from fun W' hf => by rw [hfb]; exact few_calls 11 0 rfl u _ E W' (HV2.out W' hf))
  have HWf := Lib.hid hwf
  have HFA := Lib.hid hfa
  have HFB := Lib.hid hfb
  clear hv hv2 h5 h6 hw1 hg hb hb2 hfa hfb hwf htx
  cases fa with
  | false =>
    go_enter Try.func6, Try.ntmps6
    go_wp2_with fail
    rw [← HG.out, ← HW1.out]
    refine (value_awake w1).mono ?_
    rintro e w2 ⟨rfl, f2⟩
    have G2 := Lib.hid f2
    clear f2
    go_wp2_with (first | (with_reducible refine wpList_load_mid (op := ⟨some 15, _, _, _, _, _⟩) rfl 36 _ rfl g 0 rfl [.int .i64 k, c1, c2, c3, c4] _ (HX.out _ G2.out) Try.underlying36 rfl HLi.out ?_))
    refine (HFew.out w2 G2.out).mono ?_
    rintro e w3 ⟨rfl, f3⟩
    have G3 := Lib.hid (G2.out.trans f3 (fun i hi => hi.elim))
    clear f3
    go_wp2_with fail
    go_ret
    exact ⟨rfl, HF1.out.trans G3.out (fun i hi => hi.elim)⟩
  | true =>
    cases fb with
    | false =>
      go_enter Try.func6, Try.ntmps6
      go_wp2_with fail
      rw [← HG.out, ← HW1.out]
      refine (value_awake w1).mono ?_
      rintro e w2 ⟨rfl, f2⟩
      have G2 := Lib.hid f2
      clear f2
      go_wp2_with (first | (with_reducible refine wpList_load_mid (op := ⟨some 15, _, _, _, _, _⟩) rfl 36 _ rfl g 0 rfl [.int .i64 k, c1, c2, c3, c4] _ (HX.out _ G2.out) Try.underlying36 rfl HLi.out ?_))
      refine (HFew.out w2 G2.out).mono ?_
      rintro e w3 ⟨rfl, f3⟩
      have G3 := Lib.hid (G2.out.trans f3 (fun i hi => hi.elim))
      clear f3
      go_wp2_with (first | (refine wpList_load_midG (op := ⟨some 19, _, _, _, _, _⟩) rfl 36 _ rfl (g + 1) 0 rfl [d0, d1, d2, d3, d4] _ (HX2.out _ G3.out) Try.underlying36 rfl HLi2.out ?_))
      refine (HFew2.out w3 G3.out).mono ?_
      rintro e w4 ⟨rfl, f4⟩
      have G4 := Lib.hid (G3.out.trans f4 (fun i hi => hi.elim))
      clear f4
      go_wp2_with fail
      go_ret
      exact ⟨rfl, HF1.out.trans G4.out (fun i hi => hi.elim)⟩
    | true =>
      obtain ⟨X, hX⟩ : ∃ X, X = ofV t := ⟨_, rfl⟩
      obtain ⟨Y, hY⟩ : ∃ Y, Y = ofV u := ⟨_, rfl⟩
      have HOfV := Lib.hid (show ∀ W', Fr (fun _ => False) w1 W' → Calls Try.prog 18 #[.agg #[.int .i64 k, c1, c2, c3, c4]] W' fun e w'' => ∃ v, e = .returned v ∧ AR w'' (fun i => W'.heap.size ≤ i) X v ∧ Fr (fun _ => False) W' w'' from fun W' hf' => by rw [hX]; exact of_calls 11 t _ D W' (HV.out W' hf') HFA.out.symm)
      have HOfV2 := Lib.hid (show ∀ W', Fr (fun _ => False) w1 W' → Calls Try.prog 18 #[.agg #[d0, d1, d2, d3, d4]] W' fun e w'' => ∃ v, e = .returned v ∧ AR w'' (fun i => W'.heap.size ≤ i) Y v ∧ Fr (fun _ => False) W' w'' from fun W' hf' => by rw [hY]; exact of_calls 11 u _ E W' (HV2.out W' hf') HFB.out.symm)
      have HLen := Lib.hid (show lenK 8 X ≤ 140737488355328 ∧ lenK 8 Y ≤ 140737488355328 by rw [hX, hY]; exact ⟨few_len HFA.out.symm, few_len HFB.out.symm⟩)
      rw [← hX] at HWf HTx
      clear hX hY
      obtain ⟨T1, hT1⟩ : ∃ x, x = str (encA 8 X).1 := ⟨_, rfl⟩
      obtain ⟨T2, hT2⟩ : ∃ x, x = str (encA 8 Y).1 := ⟨_, rfl⟩
      obtain ⟨e1, he1⟩ : ∃ x, x = (encA 8 X).2 := ⟨_, rfl⟩
      obtain ⟨e2, he2⟩ : ∃ x, x = (encA 8 Y).2 := ⟨_, rfl⟩
      have HE := Lib.hid (And.intro hT1 (And.intro he1 (And.intro hT2 he2)))
      have HEl := Lib.hid (show (encA 8 X).1.length ≤ 4611686018427387904 by have := encA_len 8 X; have := HLen.out.1; omega)
      obtain ⟨p, hp⟩ : ∃ p, p = (k == 2) := ⟨_, rfl⟩
      obtain ⟨q, hq⟩ : ∃ q, q = !p := ⟨_, rfl⟩
      have hkp : (k == 2) = p := hp.symm
      have hqp : (q == p) = false := by rw [hq]; cases p <;> rfl
      have HQ := Lib.hid (show q = !isText X by rw [HTx.out, hq, hp])
      clear hp hq hT1 hT2 he1 he2
      go_enter Try.func6, Try.ntmps6
      go_wp2_with fail
      rw [← HG.out, ← HW1.out]
      refine (value_awake w1).mono ?_
      rintro e w2 ⟨rfl, f2⟩
      have G2 := Lib.hid f2
      clear f2
      go_wp2_with (first | (with_reducible refine wpList_load_mid (op := ⟨some 15, _, _, _, _, _⟩) rfl 36 _ rfl g 0 rfl [.int .i64 k, c1, c2, c3, c4] _ (HX.out _ G2.out) Try.underlying36 rfl HLi.out ?_))
      refine (HFew.out w2 G2.out).mono ?_
      rintro e w3 ⟨rfl, f3⟩
      have G3 := Lib.hid (G2.out.trans f3 (fun i hi => hi.elim))
      clear f3
      go_wp2_with (first | (refine wpList_load_midG (op := ⟨some 19, _, _, _, _, _⟩) rfl 36 _ rfl (g + 1) 0 rfl [d0, d1, d2, d3, d4] _ (HX2.out _ G3.out) Try.underlying36 rfl HLi2.out ?_))
      refine (HFew2.out w3 G3.out).mono ?_
      rintro e w4 ⟨rfl, f4⟩
      have G4 := Lib.hid (G3.out.trans f4 (fun i hi => hi.elim))
      clear f4
      go_wp2_with fail
      refine wp_region_till (fun w' => Fr (fun _ => False) w4.drew w') 3 rfl ?_
      generalize hW0 : w4.drew = W0
      have G0 := Lib.hid (show Fr (fun _ => False) w1 W0 by rw [← hW0]; exact G4.out.drew)
      have HS0 := Lib.hid (Fr.refl (fun _ => False) W0)
      clear hW0
      refine wpAnyT_path (i := 0) (p := [1]) (v := .agg #[.int .i64 k, c1, c2, c3, c4]) rfl (by kernel_rfl) (by kernel_rfl) (fun _ _ _ h => h) HS0.out (yieldsIf_load rfl 36 (.tmp 2) rfl g 0 rfl [.int .i64 k, c1, c2, c3, c4] _ (fun W' hW => HX.out W' (G0.out.trans hW (fun i hi => hi.elim))) Try.underlying36 rfl HLi.out) ?_
      try simp only [Act.put, List.setIfInBounds_toArray]
      try dsimp only [List.getElem_toArray, List.getElem_cons_succ, List.getElem_cons_zero, List.set_cons_zero, List.set_cons_succ]
      refine wpAnyT_path (i := 2) (p := []) (v := .agg #[d0, d1, d2, d3, d4]) rfl (by kernel_rfl) (by kernel_rfl) (fun _ _ _ h => h) HS0.out (yieldsIf_load rfl 36 (.tmp 3) rfl (g + 1) 0 rfl [d0, d1, d2, d3, d4] _ (fun W' hW => HX2.out W' (G0.out.trans hW (fun i hi => hi.elim))) Try.underlying36 rfl HLi2.out) ?_
      try simp only [Act.put, List.setIfInBounds_toArray]
      try dsimp only [List.getElem_toArray, List.getElem_cons_succ, List.getElem_cons_zero, List.set_cons_zero, List.set_cons_succ]
      refine wpAnyT_one (i := 1) rfl (by kernel_rfl) ?_
      refine wpOp_plain rfl rfl (fun K hK => ?_)
      try simp only [Act.put, List.setIfInBounds_toArray]
      try dsimp only [List.getElem_toArray, List.getElem_cons_succ, List.getElem_cons_zero, List.set_cons_zero, List.set_cons_succ]
      have HKK2 := Lib.hid hK
      clear hK
      go_wp2_with fail
      refine (HOfV.out W0 G0.out).mono ?_
      rintro e w5 ⟨va, rfl, har, f5⟩
      have HS5 := Lib.hid f5
      have HAR := Lib.hid har
      clear f5 har
      go_wp2_with fail
      refine HKK2.out _ _ ⟨fun _ => HS5.out, ?_⟩
      clear HKK2 K
      try simp only [Act.put, List.setIfInBounds_toArray]
      try dsimp only [List.getElem_toArray, List.getElem_cons_succ, List.getElem_cons_zero, List.set_cons_zero, List.set_cons_succ]
      refine wpAnyT_one (i := 3) rfl (by kernel_rfl) ?_
      refine wpOp_plain rfl rfl (fun K hK => ?_)
      try simp only [Act.put, List.setIfInBounds_toArray]
      try dsimp only [List.getElem_toArray, List.getElem_cons_succ, List.getElem_cons_zero, List.set_cons_zero, List.set_cons_succ]
      have HKK2 := Lib.hid hK
      clear hK
      go_wp2_with fail
      refine (HOfV2.out w5 (G0.out.trans HS5.out (fun i hi => hi.elim))).mono ?_
      rintro e w6 ⟨vb, rfl, har2, f6⟩
      have F6 := Lib.hid f6
      have HS6 := Lib.hid (HS5.out.trans f6 (fun i hi => hi.elim))
      have HAR2 := Lib.hid har2
      clear f6 har2
      go_wp2_with fail
      refine HKK2.out _ _ ⟨fun _ => HS6.out, ?_⟩
      clear HKK2 K
      try simp only [Act.put, List.setIfInBounds_toArray]
      try dsimp only [List.getElem_toArray, List.getElem_cons_succ, List.getElem_cons_zero, List.set_cons_zero, List.set_cons_succ]
      refine wpAnyT_done (by first | rfl | kernel_rfl) _ _ _ ?_
      refine wpAny_take (i := 4) (v := va) rfl (by kernel_rfl) (by kernel_rfl) (by kernel_rfl) (fun _ _ _ h => h) (.inl ⟨by rfl, fun W' => by go_simp⟩) ?_
      try simp only [Act.put, List.setIfInBounds_toArray]
      try dsimp only [List.getElem_toArray, List.getElem_cons_succ, List.getElem_cons_zero, List.set_cons_zero, List.set_cons_succ]
      refine wpAny_take (i := 5) (v := vb) rfl (by kernel_rfl) (by kernel_rfl) (by kernel_rfl) (fun _ _ _ h => h) (.inl ⟨by rfl, fun W' => by go_simp⟩) ?_
      try simp only [Act.put, List.setIfInBounds_toArray]
      try dsimp only [List.getElem_toArray, List.getElem_cons_succ, List.getElem_cons_zero, List.set_cons_zero, List.set_cons_succ]
      refine wpAny_done (by kernel_rfl) ?_ _
      have G6 := Lib.hid (G0.out.trans HS6.out (fun i hi => hi.elim))
      have HA := Lib.hid (show ∀ W', Fr (fun _ => False) w6 W' → AR W' (fun i => W0.heap.size ≤ i) X va from fun W' hf => HAR.out.frF (F6.out.trans hf (fun i hi => hi.elim)))
      have HB := Lib.hid (show ∀ W', Fr (fun _ => False) w6 W' → AR W' (fun i => w5.heap.size ≤ i) Y vb from fun W' hf => HAR2.out.frF hf)
      have HPa := Lib.hid (show ∀ W', Fr (fun _ => False) w6 W' → Calls Try.prog 17 #[va] W' fun e w'' => e = .returned (.tuple #[.string T1, .int .i64 (e1 : Int)]) ∧ Fr (fun _ => False) W' w'' from fun W' hf => by rw [HE.out.1, HE.out.2.1]; exact print_calls X _ va W' (HA.out W' hf) HLen.out.1)
      have HPb := Lib.hid (show ∀ W', Fr (fun _ => False) w6 W' → Calls Try.prog 17 #[vb] W' fun e w'' => e = .returned (.tuple #[.string T2, .int .i64 (e2 : Int)]) ∧ Fr (fun _ => False) W' w'' from fun W' hf => by rw [HE.out.2.2.1, HE.out.2.2.2]; exact print_calls Y _ vb W' (HB.out W' hf) HLen.out.2)
      have HSm := Lib.hid (show ∀ W', Fr (fun _ => False) w6 W' → Calls Try.prog 31 #[va, vb] W' fun e w'' => e = .returned (.bool (sameB X Y)) ∧ Fr (fun _ => False) W' w'' from fun W' hf => vsame_calls X Y _ _ va vb W' (HA.out W' hf) (HB.out W' hf) HLen.out.1 HLen.out.2)
      have HPan := Lib.hid (show ∀ W', Fr (fun _ => False) w6 W' → Calls Try.prog 30 #[va] W' fun e w'' => e = .returned (.bool q) ∧ Fr (fun _ => False) W' w'' from fun W' hf => by rw [HQ.out]; exact panics_calls X _ va w6 (HA.out w6 (Fr.refl _ _)) W' hf)
      go_wp2_with fail
      refine (HPa.out w6 (Fr.refl _ _)).mono ?_
      rintro e w7 ⟨rfl, f7⟩
      have G7 := Lib.hid f7
      clear f7
      go_wp2_with fail
      refine (HPb.out w7 G7.out).mono ?_
      rintro e w8 ⟨rfl, f8⟩
      have G8 := Lib.hid (G7.out.trans f8 (fun i hi => hi.elim))
      clear f8
      go_wp2_with fail
      refine wp_region_till (fun w' => Fr (fun _ => False) w8.drew w') 5 rfl ?_
      generalize hW1 : w8.drew = W1
      have G9 := Lib.hid (show Fr (fun _ => False) w6 W1 by rw [← hW1]; exact G8.out.drew)
      have HS1 := Lib.hid (Fr.refl (fun _ => False) W1)
      clear hW1
      refine wpAnyT_path (i := 0) (p := [1]) (v := va) rfl (by kernel_rfl) (by kernel_rfl) (fun _ _ _ h => h) HS1.out (.inl ⟨by rfl, fun W' hW => by clear hW; go_simp⟩) ?_
      try simp only [Act.put, List.setIfInBounds_toArray]
      try dsimp only [List.getElem_toArray, List.getElem_cons_succ, List.getElem_cons_zero, List.set_cons_zero, List.set_cons_succ]
      refine wpAnyT_path (i := 2) (p := [4, 3]) (v := .pointer (some ⟨g, 0, none⟩)) rfl (by kernel_rfl) (by kernel_rfl) (fun _ _ _ h => h) HS1.out (.inl ⟨by rfl, fun W' hW => by clear hW; go_simp⟩) ?_
      try simp only [Act.put, List.setIfInBounds_toArray]
      try dsimp only [List.getElem_toArray, List.getElem_cons_succ, List.getElem_cons_zero, List.set_cons_zero, List.set_cons_succ]
      refine wpAnyT_path (i := 3) (p := [4]) (v := .int .i64 k) rfl (by kernel_rfl) (by kernel_rfl) (fun _ _ _ h => h) HS1.out (.inl ⟨by rfl, fun W' hW => by have hc := HK.out W' (G6.out.trans (G9.out.trans hW (fun i hi => hi.elim)) (fun i hi => hi.elim)); clear hW; go_simp⟩) ?_
      try simp only [Act.put, List.setIfInBounds_toArray]
      try dsimp only [List.getElem_toArray, List.getElem_cons_succ, List.getElem_cons_zero, List.set_cons_zero, List.set_cons_succ]
      refine wpAnyT_path (i := 4) (p := []) (v := .bool p) rfl (by kernel_rfl) (by kernel_rfl) (fun _ _ _ h => h) HS1.out (.inl ⟨by rfl, fun W' hW => by clear hW; go_simp⟩) ?_
      try simp only [Act.put, List.setIfInBounds_toArray]
      try dsimp only [List.getElem_toArray, List.getElem_cons_succ, List.getElem_cons_zero, List.set_cons_zero, List.set_cons_succ]
      refine wpAnyT_one (i := 1) rfl (by kernel_rfl) ?_
      refine wpOp_plain rfl rfl (fun K hK => ?_)
      try simp only [Act.put, List.setIfInBounds_toArray]
      try dsimp only [List.getElem_toArray, List.getElem_cons_succ, List.getElem_cons_zero, List.set_cons_zero, List.set_cons_succ]
      have HKK2 := Lib.hid hK
      clear hK
      go_wp2_with fail
      refine (HPan.out W1 G9.out).mono ?_
      rintro e w10 ⟨rfl, f10⟩
      have HS10 := Lib.hid f10
      have G10 := Lib.hid (G9.out.trans f10 (fun i hi => hi.elim))
      clear f10
      go_wp2_with fail
      refine HKK2.out _ _ ⟨fun _ => HS10.out, ?_⟩
      clear HKK2 K
      try simp only [Act.put, List.setIfInBounds_toArray]
      try dsimp only [List.getElem_toArray, List.getElem_cons_succ, List.getElem_cons_zero, List.set_cons_zero, List.set_cons_succ]
      refine wpAnyT_one (i := 5) rfl (by kernel_rfl) ?_
      refine wpOp_plain rfl rfl (fun K hK => ?_)
      try simp only [Act.put, List.setIfInBounds_toArray]
      try dsimp only [List.getElem_toArray, List.getElem_cons_succ, List.getElem_cons_zero, List.set_cons_zero, List.set_cons_succ]
      have HKK2 := Lib.hid hK
      clear hK
      go_wp2_with fail
      refine HKK2.out _ _ ⟨fun hl => absurd (show (true : Bool) = false from hl) (by decide), ?_⟩
      clear HKK2 K
      try simp only [Act.put, List.setIfInBounds_toArray]
      try dsimp only [List.getElem_toArray, List.getElem_cons_succ, List.getElem_cons_zero, List.set_cons_zero, List.set_cons_succ]
      refine wpAnyT_done (by first | rfl | kernel_rfl) _ _ _ ?_
      refine wpAny_done (by kernel_rfl) ?_ _
      have HFin0 := Lib.hid (HF1.out.trans (G6.out.trans G10.out (fun i hi => hi.elim)) (fun i hi => hi.elim))
      by_cases h1 : e1 = 0
      · subst h1
        by_cases h2 : e2 = 0
        · subst h2
          have hdec : decA 8 (encA 8 X).1 = some (X, []) := by
            have := dec_enc 8 X (encA 8 X).1 [] HWf.out (Prod.ext rfl HE.out.2.1.symm)
            rwa [List.append_nil] at this
          have HST := Lib.hid (show (T1.toList == T2.toList) = sameB X Y by
            unfold sameB
            rw [← HE.out.2.1, ← HE.out.2.2.2, HE.out.1, HE.out.2.2.1, str_toList, str_toList]
            by_cases h : (encA 8 X).1 = (encA 8 Y).1
            · rw [h]; simp
            · rw [decide_eq_false h, beq_eq_false_iff_ne.2 h]; simp)
          have HRe := Lib.hid (show ∀ W', Calls Try.prog 20 #[.string T1] W' fun e w'' => ∃ vz, e = .returned (.tuple #[vz, .int .i64 0]) ∧ AR w'' (fun i => W'.heap.size ≤ i) X vz ∧ Fr (fun _ => False) W' w'' from fun W' => by
            rw [HE.out.1]
            refine (vparse_calls _ HEl.out W').mono ?_
            rintro e w' ⟨v, c, rfl, _, hm, hf⟩
            rw [hdec] at hm
            exact ⟨v, by rw [hm.1], hm.2, hf⟩)
          have HXX := Lib.hid (show sameB X X = true by unfold sameB; rw [← HE.out.2.1]; simp)
          have hst : (T1.toList == T2.toList) = sameB X Y := HST.out
          have HLX := Lib.hid HLen.out.1
          obtain ⟨sm, hsm⟩ : ∃ b, b = sameB X Y := ⟨_, rfl⟩
          rw [← hsm] at HSm hst
          clear hsm hdec
          go_wp2_with fail
          refine (HRe.out w10).mono ?_
          rintro e w11 ⟨vz, rfl, harz, f11⟩
          have HSz := Lib.hid (show Calls Try.prog 31 #[va, vz] w11 fun e w'' => e = .returned (.bool true) ∧ Fr (fun _ => False) w11 w'' from by
            have h := vsame_calls X X _ _ va vz w11 (HA.out w11 (G10.out.trans f11 (fun i hi => hi.elim))) harz HLX.out HLX.out
            rw [HXX.out] at h
            exact h)
          have G11 := Lib.hid (G10.out.trans f11 (fun i hi => hi.elim))
          have HFin1 := Lib.hid (HFin0.out.trans f11 (fun i hi => hi.elim))
          clear f11 harz
          go_wp2_with fail
          refine HSz.out.mono ?_
          rintro e w12 ⟨rfl, f12⟩
          have G12 := Lib.hid (G11.out.trans f12 (fun i hi => hi.elim))
          have HFin2 := Lib.hid (HFin1.out.trans f12 (fun i hi => hi.elim))
          clear f12
          go_wp2_with fail
          refine (HSm.out w12 G12.out).mono ?_
          rintro e w13 ⟨rfl, f13⟩
          have HFin := Lib.hid (HFin2.out.trans f13 (fun i hi => hi.elim))
          clear f13
          go_wp2_with fail
          go_ret
          exact ⟨rfl, HFin.out⟩
        · have t1 : ((e2 : Int) == 0) = false := beq_eq_false_iff_ne.2 (by omega)
          have t2 : ((e2 : Int) != 0) = true := bne_iff_ne.2 (by omega)
          have HSF := Lib.hid (show sameB X Y = false by unfold sameB; rw [← HE.out.2.2.2, decide_eq_false h2]; simp)
          clear h2
          go_wp2_with fail
          refine (HSm.out w10 G10.out).mono ?_
          rintro e w11 ⟨rfl, f11⟩
          have HSX := HSF.out
          have HFin := Lib.hid (HFin0.out.trans f11 (fun i hi => hi.elim))
          clear f11
          rw [HSX]
          go_wp2_with fail
          go_ret
          exact ⟨rfl, HFin.out⟩
      · have t1 : ((e1 : Int) == 0) = false := beq_eq_false_iff_ne.2 (by omega)
        have t2 : ((e1 : Int) != 0) = true := bne_iff_ne.2 (by omega)
        have HSF := Lib.hid (show sameB X Y = false by unfold sameB; rw [← HE.out.2.1, decide_eq_false h1]; simp)
        clear h1
        go_wp2_with fail
        refine (HSm.out w10 G10.out).mono ?_
        rintro e w11 ⟨rfl, f11⟩
        have HSX := HSF.out
        have HFin := Lib.hid (HFin0.out.trans f11 (fun i hi => hi.elim))
        clear f11
        rw [HSX]
        go_wp2_with fail
        go_ret
        exact ⟨rfl, HFin.out⟩
end Go.Proofs.Ythmpmpepokeedaa
