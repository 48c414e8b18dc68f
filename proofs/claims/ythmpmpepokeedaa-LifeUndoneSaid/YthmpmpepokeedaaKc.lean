/- The document's answers: awake. -/
import Derived.Test.YthmpmpepokeedaaKb
set_option linter.unusedVariables false
set_option linter.unusedSimpArgs false
set_option pp.deepTerms true
set_option pp.maxSteps 100000
namespace Go.Proofs.Ythmpmpepokeedaa
open Go.RowKit PLifeUndone Go.Proofs.YthmpmpepokeedaaW.PrintWords
theorem new_calls (w : World) : Calls Try.prog 45 #[] w fun e w' => e = .returned (.agg #[.int .i64 1, .int .i64 0, .int .i64 0, .int .i64 1]) ∧ Fr (fun _ => False) w w' :=
  (life_New.calls 1 0 0 1 w rfl).mono fun e w' ⟨he, hb⟩ => ⟨he, Fr.of_below hb⟩
theorem use_calls (k : Nat) (st dl ex vs now r : Int) (h : life_Use.f k st dl ex vs now = some r) (w : World) :
    Calls Try.prog 48 #[.agg #[.int .i64 st, .int .i64 dl, .int .i64 ex, .int .i64 vs], .int .i64 now] w fun e w' => e = .returned (.int .i64 r) ∧ Fr (fun _ => False) w w' :=
  (life_Use.calls k st dl ex vs now r w h).mono fun e w' ⟨he, hb⟩ => ⟨he, Fr.of_below hb⟩
set_option maxRecDepth 20000 in
set_option maxHeartbeats 8000000 in
theorem awake_true (w : World) : Calls Try.prog 12 #[] w fun e w' => e = .returned (.bool true) ∧ Fr (fun _ => False) w w' := by
  go_enter Try.func12, Try.ntmps12
  go_wp2_with fail
  refine (new_calls w).mono ?_
  rintro e w1 ⟨rfl, h1⟩
  have Lbl1 := Lib.hid (show Lf (w1.alloc (.cells #[.int .i64 1, .int .i64 0, .int .i64 0, .int .i64 1] 23)) w1.heap.size 1 0 0 1 from heap_alloc_new _ _)
  have HF1 := Lib.hid (show Fr (fun _ => False) w (w1.alloc (.cells #[.int .i64 1, .int .i64 0, .int .i64 0, .int .i64 1] 23)) from h1.alloc _)
  clear h1
  go_wp2_with fail
  generalize w1.alloc (.cells #[.int .i64 1, .int .i64 0, .int .i64 0, .int .i64 1] 23) = v1 at Lbl1 HF1 ⊢
  obtain ⟨bl, hbl⟩ : ∃ x, x = w1.heap.size := ⟨_, rfl⟩
  rw [← hbl] at Lbl1 ⊢
  clear hbl
  refine (step_calls 10 1 0 0 1 3 7 5 3 12 0 1 0 ⟨by decide +kernel, by omega, by omega, by simp⟩ _).mono ?_
  rintro e w2 ⟨rfl, h2⟩
  have Lbl2 := Lib.hid (show Lf (w2.alloc (.cells #[.int .i64 3, .int .i64 12, .int .i64 0, .int .i64 1] 23)) bl 1 0 0 1 from ((Fr.refl (fun _ => False) _).alloc _).heap (Lbl1.out.fr h2 id) id)
  have Lbp2 := Lib.hid (show Lf (w2.alloc (.cells #[.int .i64 3, .int .i64 12, .int .i64 0, .int .i64 1] 23)) w2.heap.size 3 12 0 1 from heap_alloc_new _ _)
  have HF2 := Lib.hid (show Fr (fun _ => False) w (w2.alloc (.cells #[.int .i64 3, .int .i64 12, .int .i64 0, .int .i64 1] 23)) from (HF1.out.trans h2 (fun i hi => hi.elim)).alloc _)
  clear Lbl1
  clear HF1
  clear h2
  go_wp2_with fail
  generalize w2.alloc (.cells #[.int .i64 3, .int .i64 12, .int .i64 0, .int .i64 1] 23) = v2 at Lbl2 Lbp2 HF2 ⊢
  obtain ⟨bp, hbp⟩ : ∃ x, x = w2.heap.size := ⟨_, rfl⟩
  rw [← hbp] at Lbp2 ⊢
  clear hbp
  refine (step_calls 10 3 12 0 1 7 0 11 3 12 0 1 0 ⟨by decide +kernel, by omega, by omega, by simp⟩ _).mono ?_
  rintro e w3 ⟨rfl, h3⟩
  have Lbl3 := Lib.hid (show Lf (w3.alloc (.cells #[.int .i64 3, .int .i64 12, .int .i64 0, .int .i64 1] 23)) bl 1 0 0 1 from ((Fr.refl (fun _ => False) _).alloc _).heap (Lbl2.out.fr h3 id) id)
  have Lbp3 := Lib.hid (show Lf (w3.alloc (.cells #[.int .i64 3, .int .i64 12, .int .i64 0, .int .i64 1] 23)) bp 3 12 0 1 from ((Fr.refl (fun _ => False) _).alloc _).heap (Lbp2.out.fr h3 id) id)
  have Lbq3 := Lib.hid (show Lf (w3.alloc (.cells #[.int .i64 3, .int .i64 12, .int .i64 0, .int .i64 1] 23)) w3.heap.size 3 12 0 1 from heap_alloc_new _ _)
  have HF3 := Lib.hid (show Fr (fun _ => False) w (w3.alloc (.cells #[.int .i64 3, .int .i64 12, .int .i64 0, .int .i64 1] 23)) from (HF2.out.trans h3 (fun i hi => hi.elim)).alloc _)
  clear Lbl2 Lbp2
  clear HF2
  clear h3
  have cbp0 := Lbp3.out.c0
  have cbp1 := Lbp3.out.c1
  have cbp2 := Lbp3.out.c2
  have cbp3 := Lbp3.out.c3
  go_wp2_with fail
  clear cbp0 cbp1 cbp2 cbp3
  generalize w3.alloc (.cells #[.int .i64 3, .int .i64 12, .int .i64 0, .int .i64 1] 23) = v3 at Lbl3 Lbp3 Lbq3 HF3 ⊢
  obtain ⟨bq, hbq⟩ : ∃ x, x = w3.heap.size := ⟨_, rfl⟩
  rw [← hbq] at Lbq3 ⊢
  clear hbq
  refine (step_calls 10 3 12 0 1 7 0 12 4 0 0 1 0 ⟨by decide +kernel, by omega, by omega, by simp⟩ _).mono ?_
  rintro e w4 ⟨rfl, h4⟩
  have Lbl4 := Lib.hid (show Lf (w4.alloc (.cells #[.int .i64 4, .int .i64 0, .int .i64 0, .int .i64 1] 23)) bl 1 0 0 1 from ((Fr.refl (fun _ => False) _).alloc _).heap (Lbl3.out.fr h4 id) id)
  have Lbp4 := Lib.hid (show Lf (w4.alloc (.cells #[.int .i64 4, .int .i64 0, .int .i64 0, .int .i64 1] 23)) bp 3 12 0 1 from ((Fr.refl (fun _ => False) _).alloc _).heap (Lbp3.out.fr h4 id) id)
  have Lbq4 := Lib.hid (show Lf (w4.alloc (.cells #[.int .i64 4, .int .i64 0, .int .i64 0, .int .i64 1] 23)) bq 3 12 0 1 from ((Fr.refl (fun _ => False) _).alloc _).heap (Lbq3.out.fr h4 id) id)
  have Lbg4 := Lib.hid (show Lf (w4.alloc (.cells #[.int .i64 4, .int .i64 0, .int .i64 0, .int .i64 1] 23)) w4.heap.size 4 0 0 1 from heap_alloc_new _ _)
  have HF4 := Lib.hid (show Fr (fun _ => False) w (w4.alloc (.cells #[.int .i64 4, .int .i64 0, .int .i64 0, .int .i64 1] 23)) from (HF3.out.trans h4 (fun i hi => hi.elim)).alloc _)
  clear Lbl3 Lbp3 Lbq3
  clear HF3
  clear h4
  go_wp2_with fail
  generalize w4.alloc (.cells #[.int .i64 4, .int .i64 0, .int .i64 0, .int .i64 1] 23) = v4 at Lbl4 Lbp4 Lbq4 Lbg4 HF4 ⊢
  obtain ⟨bg, hbg⟩ : ∃ x, x = w4.heap.size := ⟨_, rfl⟩
  rw [← hbg] at Lbg4 ⊢
  clear hbg
  refine (step_calls 10 4 0 0 1 1 0 13 0 0 0 0 4 ⟨by decide +kernel, by omega, by omega, by simp⟩ _).mono ?_
  rintro e w5 ⟨rfl, h5⟩
  have Lbl5 := Lib.hid (show Lf (w5.alloc (.cells #[.int .i64 0, .int .i64 0, .int .i64 0, .int .i64 0] 23)) bl 1 0 0 1 from ((Fr.refl (fun _ => False) _).alloc _).heap (Lbl4.out.fr h5 id) id)
  have Lbp5 := Lib.hid (show Lf (w5.alloc (.cells #[.int .i64 0, .int .i64 0, .int .i64 0, .int .i64 0] 23)) bp 3 12 0 1 from ((Fr.refl (fun _ => False) _).alloc _).heap (Lbp4.out.fr h5 id) id)
  have Lbq5 := Lib.hid (show Lf (w5.alloc (.cells #[.int .i64 0, .int .i64 0, .int .i64 0, .int .i64 0] 23)) bq 3 12 0 1 from ((Fr.refl (fun _ => False) _).alloc _).heap (Lbq4.out.fr h5 id) id)
  have Lbg5 := Lib.hid (show Lf (w5.alloc (.cells #[.int .i64 0, .int .i64 0, .int .i64 0, .int .i64 0] 23)) bg 4 0 0 1 from ((Fr.refl (fun _ => False) _).alloc _).heap (Lbg4.out.fr h5 id) id)
  have Lbz5 := Lib.hid (show Lf (w5.alloc (.cells #[.int .i64 0, .int .i64 0, .int .i64 0, .int .i64 0] 23)) w5.heap.size 0 0 0 0 from heap_alloc_new _ _)
  have HF5 := Lib.hid (show Fr (fun _ => False) w (w5.alloc (.cells #[.int .i64 0, .int .i64 0, .int .i64 0, .int .i64 0] 23)) from (HF4.out.trans h5 (fun i hi => hi.elim)).alloc _)
  clear Lbl4 Lbp4 Lbq4 Lbg4
  clear HF4
  clear h5
  have cbp0 := Lbp5.out.c0
  have cbp1 := Lbp5.out.c1
  have cbp2 := Lbp5.out.c2
  have cbp3 := Lbp5.out.c3
  go_wp2_with fail
  clear cbp0 cbp1 cbp2 cbp3
  generalize w5.alloc (.cells #[.int .i64 0, .int .i64 0, .int .i64 0, .int .i64 0] 23) = v5 at Lbl5 Lbp5 Lbq5 Lbg5 Lbz5 HF5 ⊢
  obtain ⟨bz, hbz⟩ : ∃ x, x = w5.heap.size := ⟨_, rfl⟩
  rw [← hbz] at Lbz5 ⊢
  clear hbz
  refine (print_calls 3 12 0 1 (by decide +kernel) _).mono ?_
  rintro e w6 ⟨B, rfl, hB, h6⟩
  have Lbl6 := Lib.hid (show Lf w6 bl 1 0 0 1 from Lbl5.out.fr h6 id)
  have Lbp6 := Lib.hid (show Lf w6 bp 3 12 0 1 from Lbp5.out.fr h6 id)
  have Lbq6 := Lib.hid (show Lf w6 bq 3 12 0 1 from Lbq5.out.fr h6 id)
  have Lbg6 := Lib.hid (show Lf w6 bg 4 0 0 1 from Lbg5.out.fr h6 id)
  have Lbz6 := Lib.hid (show Lf w6 bz 0 0 0 0 from Lbz5.out.fr h6 id)
  have HF6 := Lib.hid (HF5.out.trans h6 (fun i hi => hi.elim))
  clear Lbl5 Lbp5 Lbq5 Lbg5 Lbz5 HF5 h6
  have HBB := Lib.hid hB
  clear hB
  go_wp2_with fail
  refine (parse_calls B 3 12 0 1 (by decide +kernel) _ HBB.out).mono ?_
  rintro e w7 ⟨rfl, h7⟩
  have Lbl7 := Lib.hid (show Lf (w7.alloc (.cells #[.int .i64 3, .int .i64 12, .int .i64 0, .int .i64 1] 23)) bl 1 0 0 1 from ((Fr.refl (fun _ => False) _).alloc _).heap (Lbl6.out.fr h7 id) id)
  have Lbp7 := Lib.hid (show Lf (w7.alloc (.cells #[.int .i64 3, .int .i64 12, .int .i64 0, .int .i64 1] 23)) bp 3 12 0 1 from ((Fr.refl (fun _ => False) _).alloc _).heap (Lbp6.out.fr h7 id) id)
  have Lbq7 := Lib.hid (show Lf (w7.alloc (.cells #[.int .i64 3, .int .i64 12, .int .i64 0, .int .i64 1] 23)) bq 3 12 0 1 from ((Fr.refl (fun _ => False) _).alloc _).heap (Lbq6.out.fr h7 id) id)
  have Lbg7 := Lib.hid (show Lf (w7.alloc (.cells #[.int .i64 3, .int .i64 12, .int .i64 0, .int .i64 1] 23)) bg 4 0 0 1 from ((Fr.refl (fun _ => False) _).alloc _).heap (Lbg6.out.fr h7 id) id)
  have Lbz7 := Lib.hid (show Lf (w7.alloc (.cells #[.int .i64 3, .int .i64 12, .int .i64 0, .int .i64 1] 23)) bz 0 0 0 0 from ((Fr.refl (fun _ => False) _).alloc _).heap (Lbz6.out.fr h7 id) id)
  have Lbr7 := Lib.hid (show Lf (w7.alloc (.cells #[.int .i64 3, .int .i64 12, .int .i64 0, .int .i64 1] 23)) w7.heap.size 3 12 0 1 from heap_alloc_new _ _)
  have HF7 := Lib.hid (show Fr (fun _ => False) w (w7.alloc (.cells #[.int .i64 3, .int .i64 12, .int .i64 0, .int .i64 1] 23)) from (HF6.out.trans h7 (fun i hi => hi.elim)).alloc _)
  clear Lbl6 Lbp6 Lbq6 Lbg6 Lbz6
  clear HF6
  clear h7
  have cbl0 := Lbl7.out.c0
  have cbl1 := Lbl7.out.c1
  have cbl2 := Lbl7.out.c2
  have cbl3 := Lbl7.out.c3
  go_wp2_with fail
  clear cbl0 cbl1 cbl2 cbl3
  generalize w7.alloc (.cells #[.int .i64 3, .int .i64 12, .int .i64 0, .int .i64 1] 23) = v7 at Lbl7 Lbp7 Lbq7 Lbg7 Lbz7 Lbr7 HF7 ⊢
  obtain ⟨br, hbr⟩ : ∃ x, x = w7.heap.size := ⟨_, rfl⟩
  rw [← hbr] at Lbr7 ⊢
  clear hbr
  refine (step_calls 10 1 0 0 1 0 0 0 0 0 0 0 15 ⟨by decide +kernel, by omega, by omega, by simp⟩ _).mono ?_
  rintro e w8 ⟨rfl, h8⟩
  have Lbl8 := Lib.hid (show Lf (w8.alloc (.cells #[.int .i64 0, .int .i64 0, .int .i64 0, .int .i64 0] 23)) bl 1 0 0 1 from ((Fr.refl (fun _ => False) _).alloc _).heap (Lbl7.out.fr h8 id) id)
  have Lbp8 := Lib.hid (show Lf (w8.alloc (.cells #[.int .i64 0, .int .i64 0, .int .i64 0, .int .i64 0] 23)) bp 3 12 0 1 from ((Fr.refl (fun _ => False) _).alloc _).heap (Lbp7.out.fr h8 id) id)
  have Lbq8 := Lib.hid (show Lf (w8.alloc (.cells #[.int .i64 0, .int .i64 0, .int .i64 0, .int .i64 0] 23)) bq 3 12 0 1 from ((Fr.refl (fun _ => False) _).alloc _).heap (Lbq7.out.fr h8 id) id)
  have Lbg8 := Lib.hid (show Lf (w8.alloc (.cells #[.int .i64 0, .int .i64 0, .int .i64 0, .int .i64 0] 23)) bg 4 0 0 1 from ((Fr.refl (fun _ => False) _).alloc _).heap (Lbg7.out.fr h8 id) id)
  have Lbz8 := Lib.hid (show Lf (w8.alloc (.cells #[.int .i64 0, .int .i64 0, .int .i64 0, .int .i64 0] 23)) bz 0 0 0 0 from ((Fr.refl (fun _ => False) _).alloc _).heap (Lbz7.out.fr h8 id) id)
  have Lbr8 := Lib.hid (show Lf (w8.alloc (.cells #[.int .i64 0, .int .i64 0, .int .i64 0, .int .i64 0] 23)) br 3 12 0 1 from ((Fr.refl (fun _ => False) _).alloc _).heap (Lbr7.out.fr h8 id) id)
  have Lbx8 := Lib.hid (show Lf (w8.alloc (.cells #[.int .i64 0, .int .i64 0, .int .i64 0, .int .i64 0] 23)) w8.heap.size 0 0 0 0 from heap_alloc_new _ _)
  have HF8 := Lib.hid (show Fr (fun _ => False) w (w8.alloc (.cells #[.int .i64 0, .int .i64 0, .int .i64 0, .int .i64 0] 23)) from (HF7.out.trans h8 (fun i hi => hi.elim)).alloc _)
  clear Lbl7 Lbp7 Lbq7 Lbg7 Lbz7 Lbr7
  clear HF7
  clear h8
  have cbl0 := Lbl8.out.c0
  have cbl1 := Lbl8.out.c1
  have cbl2 := Lbl8.out.c2
  have cbl3 := Lbl8.out.c3
  have cbp0 := Lbp8.out.c0
  have cbp1 := Lbp8.out.c1
  have cbp2 := Lbp8.out.c2
  have cbp3 := Lbp8.out.c3
  have cbq0 := Lbq8.out.c0
  have cbq1 := Lbq8.out.c1
  have cbq2 := Lbq8.out.c2
  have cbq3 := Lbq8.out.c3
  have cbg0 := Lbg8.out.c0
  have cbg1 := Lbg8.out.c1
  have cbg2 := Lbg8.out.c2
  have cbg3 := Lbg8.out.c3
  have cbr0 := Lbr8.out.c0
  have cbr1 := Lbr8.out.c1
  have cbr2 := Lbr8.out.c2
  have cbr3 := Lbr8.out.c3
  go_wp2_with fail
  clear cbl0 cbl1 cbl2 cbl3 cbp0 cbp1 cbp2 cbp3 cbq0 cbq1 cbq2 cbq3 cbg0 cbg1 cbg2 cbg3 cbr0 cbr1 cbr2 cbr3
  generalize w8.alloc (.cells #[.int .i64 0, .int .i64 0, .int .i64 0, .int .i64 0] 23) = v8 at Lbl8 Lbp8 Lbq8 Lbg8 Lbz8 Lbr8 Lbx8 HF8 ⊢
  obtain ⟨bx, hbx⟩ : ∃ x, x = w8.heap.size := ⟨_, rfl⟩
  rw [← hbx] at Lbx8 ⊢
  clear hbx
  refine (use_calls 10 1 0 0 1 0 0 (by decide +kernel) _).mono ?_
  rintro e w9 ⟨rfl, h9⟩
  have Lbl9 := Lib.hid (show Lf w9 bl 1 0 0 1 from Lbl8.out.fr h9 id)
  have Lbp9 := Lib.hid (show Lf w9 bp 3 12 0 1 from Lbp8.out.fr h9 id)
  have Lbq9 := Lib.hid (show Lf w9 bq 3 12 0 1 from Lbq8.out.fr h9 id)
  have Lbg9 := Lib.hid (show Lf w9 bg 4 0 0 1 from Lbg8.out.fr h9 id)
  have Lbz9 := Lib.hid (show Lf w9 bz 0 0 0 0 from Lbz8.out.fr h9 id)
  have Lbr9 := Lib.hid (show Lf w9 br 3 12 0 1 from Lbr8.out.fr h9 id)
  have Lbx9 := Lib.hid (show Lf w9 bx 0 0 0 0 from Lbx8.out.fr h9 id)
  have HF9 := Lib.hid (show Fr (fun _ => False) w w9 from (HF8.out.trans h9 (fun i hi => hi.elim)))
  clear Lbl8 Lbp8 Lbq8 Lbg8 Lbz8 Lbr8 Lbx8
  clear HF8
  clear h9
  have cbp0 := Lbp9.out.c0
  have cbp1 := Lbp9.out.c1
  have cbp2 := Lbp9.out.c2
  have cbp3 := Lbp9.out.c3
  go_wp2_with fail
  clear cbp0 cbp1 cbp2 cbp3
  refine (use_calls 10 3 12 0 1 6 14 (by decide +kernel) _).mono ?_
  rintro e w10 ⟨rfl, h10⟩
  have Lbl10 := Lib.hid (show Lf w10 bl 1 0 0 1 from Lbl9.out.fr h10 id)
  have Lbp10 := Lib.hid (show Lf w10 bp 3 12 0 1 from Lbp9.out.fr h10 id)
  have Lbq10 := Lib.hid (show Lf w10 bq 3 12 0 1 from Lbq9.out.fr h10 id)
  have Lbg10 := Lib.hid (show Lf w10 bg 4 0 0 1 from Lbg9.out.fr h10 id)
  have Lbz10 := Lib.hid (show Lf w10 bz 0 0 0 0 from Lbz9.out.fr h10 id)
  have Lbr10 := Lib.hid (show Lf w10 br 3 12 0 1 from Lbr9.out.fr h10 id)
  have Lbx10 := Lib.hid (show Lf w10 bx 0 0 0 0 from Lbx9.out.fr h10 id)
  have HF10 := Lib.hid (show Fr (fun _ => False) w w10 from (HF9.out.trans h10 (fun i hi => hi.elim)))
  clear Lbl9 Lbp9 Lbq9 Lbg9 Lbz9 Lbr9 Lbx9
  clear HF9
  clear h10
  have cbg0 := Lbg10.out.c0
  have cbg1 := Lbg10.out.c1
  have cbg2 := Lbg10.out.c2
  have cbg3 := Lbg10.out.c3
  go_wp2_with fail
  clear cbg0 cbg1 cbg2 cbg3
  refine (use_calls 10 4 0 0 1 13 4 (by decide +kernel) _).mono ?_
  rintro e w11 ⟨rfl, h11⟩
  have Lbl11 := Lib.hid (show Lf w11 bl 1 0 0 1 from Lbl10.out.fr h11 id)
  have Lbp11 := Lib.hid (show Lf w11 bp 3 12 0 1 from Lbp10.out.fr h11 id)
  have Lbq11 := Lib.hid (show Lf w11 bq 3 12 0 1 from Lbq10.out.fr h11 id)
  have Lbg11 := Lib.hid (show Lf w11 bg 4 0 0 1 from Lbg10.out.fr h11 id)
  have Lbz11 := Lib.hid (show Lf w11 bz 0 0 0 0 from Lbz10.out.fr h11 id)
  have Lbr11 := Lib.hid (show Lf w11 br 3 12 0 1 from Lbr10.out.fr h11 id)
  have Lbx11 := Lib.hid (show Lf w11 bx 0 0 0 0 from Lbx10.out.fr h11 id)
  have HF11 := Lib.hid (show Fr (fun _ => False) w w11 from (HF10.out.trans h11 (fun i hi => hi.elim)))
  clear Lbl10 Lbp10 Lbq10 Lbg10 Lbz10 Lbr10 Lbx10
  clear HF10
  clear h11
  have cbl0 := Lbl11.out.c0
  have cbl1 := Lbl11.out.c1
  have cbl2 := Lbl11.out.c2
  have cbl3 := Lbl11.out.c3
  go_wp2_with fail
  clear cbl0 cbl1 cbl2 cbl3
  refine (right_calls 1 0 0 1 true (by decide +kernel) _).mono ?_
  rintro e w12 ⟨rfl, h12⟩
  have HF := Lib.hid (HF11.out.trans h12 (fun i hi => hi.elim))
  clear h12
  go_wp2_with fail
  go_ret
  exact ⟨rfl, HF.out⟩
end Go.Proofs.Ythmpmpepokeedaa
