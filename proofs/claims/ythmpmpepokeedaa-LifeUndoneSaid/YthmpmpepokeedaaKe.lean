/- What is undone: every way. -/
import Derived.Test.YthmpmpepokeedaaKd
set_option linter.unusedVariables false
set_option linter.unusedSimpArgs false
set_option pp.deepTerms true
set_option pp.maxSteps 100000
namespace Go.Proofs.Ythmpmpepokeedaa
open Go.RowKit PLifeUndone Go.Proofs.YthmpmpepokeedaaW.PrintWords
set_option maxRecDepth 20000 in
set_option maxHeartbeats 8000000 in
theorem undone_walk (st dl ex vs n now : Int) (w : World) :
    Calls Try.prog 3 #[.agg #[.int .i64 st, .int .i64 dl, .int .i64 ex, .int .i64 vs], .int .i64 n, .int .i64 now] w fun e w' => e = .returned (.bool true) ∧ Fr (fun _ => False) w w' := by
  obtain ⟨b, hb, hc⟩ := right_some st dl ex vs
  have HB := Lib.hid hb
  have HC := Lib.hid hc
  clear hb hc
  cases b
  · go_enter Try.func3, Try.ntmps3
    go_wp2_with fail
    refine (awake_true _).mono ?_
    rintro e w1 ⟨rfl, h1⟩
    have L1 : Lf w1 w.heap.size st dl ex vs := h1.heap (heap_alloc_new w _) id
    have HF1 := Lib.hid (((Fr.refl (fun _ => False) w).alloc _).trans h1 (fun i hi => hi.elim))
    obtain ⟨bl, hbl⟩ : ∃ x, x = w.heap.size := ⟨_, rfl⟩
    rw [← hbl] at L1 ⊢
    have c0 := L1.c0
    have c1 := L1.c1
    have c2 := L1.c2
    have c3 := L1.c3
    have HL1 := Lib.hid L1
    clear L1 h1 hbl
    go_wp2_with fail
    refine (right_calls st dl ex vs false HB.out _).mono ?_
    rintro e w2 ⟨rfl, h2⟩
    have HL2 := Lib.hid (HL1.out.fr h2 id)
    have HF2 := Lib.hid (HF1.out.trans h2 (fun i hi => hi.elim))
    clear h2 c0 c1 c2 c3 HL1 HF1
    have c0 := HL2.out.c0
    have c1 := HL2.out.c1
    have c2 := HL2.out.c2
    have c3 := HL2.out.c3
    go_wp2_with fail
    go_ret
    exact ⟨rfl, HF2.out⟩
  · by_cases h0 : st = 1
    · have q0 : (st != 1) = false := by simp [h0]
      by_cases h1 : 1 ≤ n
      · have q1 : ¬ n < 1 := by omega
        by_cases h2 : n ≤ 1000
        · have q2 : ¬ 1000 < n := by omega
          by_cases h3 : 0 ≤ now
          · have q3 : ¬ now < 0 := by omega
            by_cases h4 : now ≤ 549755813888
            · have q4 : ¬ 549755813888 < now := by omega
              by_cases h5 : ex = 0
              · have q5 : (ex != 0) = false := by simp [h5]
                obtain ⟨_, _, _, _, _, _, h7, h8, h9⟩ := HC.out rfl
                have hd : dl = 0 := by omega
                subst h0; subst h5; subst hd
                exact undone_main n now vs h1 h2 h3 h4 h8 h9 w
              · have q5 : (ex != 0) = true := by simp [h5]
                clear h5
                clear h0
                clear h1
                clear h2
                clear h3
                clear h4
                go_enter Try.func3, Try.ntmps3
                go_wp2_with fail
                refine (awake_true _).mono ?_
                rintro e w1 ⟨rfl, h1⟩
                have L1 : Lf w1 w.heap.size st dl ex vs := h1.heap (heap_alloc_new w _) id
                have HF1 := Lib.hid (((Fr.refl (fun _ => False) w).alloc _).trans h1 (fun i hi => hi.elim))
                obtain ⟨bl, hbl⟩ : ∃ x, x = w.heap.size := ⟨_, rfl⟩
                rw [← hbl] at L1 ⊢
                have c0 := L1.c0
                have c1 := L1.c1
                have c2 := L1.c2
                have c3 := L1.c3
                have HL1 := Lib.hid L1
                clear L1 h1 hbl
                go_wp2_with fail
                refine (right_calls st dl ex vs true HB.out _).mono ?_
                rintro e w2 ⟨rfl, h2⟩
                have HL2 := Lib.hid (HL1.out.fr h2 id)
                have HF2 := Lib.hid (HF1.out.trans h2 (fun i hi => hi.elim))
                clear h2 c0 c1 c2 c3 HL1 HF1
                have c0 := HL2.out.c0
                have c1 := HL2.out.c1
                have c2 := HL2.out.c2
                have c3 := HL2.out.c3
                go_wp2_with fail
                go_ret
                exact ⟨rfl, HF2.out⟩
            · have q4 : 549755813888 < now := by omega
              clear h4
              clear h0
              clear h1
              clear h2
              clear h3
              go_enter Try.func3, Try.ntmps3
              go_wp2_with fail
              refine (awake_true _).mono ?_
              rintro e w1 ⟨rfl, h1⟩
              have L1 : Lf w1 w.heap.size st dl ex vs := h1.heap (heap_alloc_new w _) id
              have HF1 := Lib.hid (((Fr.refl (fun _ => False) w).alloc _).trans h1 (fun i hi => hi.elim))
              obtain ⟨bl, hbl⟩ : ∃ x, x = w.heap.size := ⟨_, rfl⟩
              rw [← hbl] at L1 ⊢
              have c0 := L1.c0
              have c1 := L1.c1
              have c2 := L1.c2
              have c3 := L1.c3
              have HL1 := Lib.hid L1
              clear L1 h1 hbl
              go_wp2_with fail
              refine (right_calls st dl ex vs true HB.out _).mono ?_
              rintro e w2 ⟨rfl, h2⟩
              have HL2 := Lib.hid (HL1.out.fr h2 id)
              have HF2 := Lib.hid (HF1.out.trans h2 (fun i hi => hi.elim))
              clear h2 c0 c1 c2 c3 HL1 HF1
              have c0 := HL2.out.c0
              have c1 := HL2.out.c1
              have c2 := HL2.out.c2
              have c3 := HL2.out.c3
              go_wp2_with fail
              go_ret
              exact ⟨rfl, HF2.out⟩
          · have q3 : now < 0 := by omega
            clear h3
            clear h0
            clear h1
            clear h2
            go_enter Try.func3, Try.ntmps3
            go_wp2_with fail
            refine (awake_true _).mono ?_
            rintro e w1 ⟨rfl, h1⟩
            have L1 : Lf w1 w.heap.size st dl ex vs := h1.heap (heap_alloc_new w _) id
            have HF1 := Lib.hid (((Fr.refl (fun _ => False) w).alloc _).trans h1 (fun i hi => hi.elim))
            obtain ⟨bl, hbl⟩ : ∃ x, x = w.heap.size := ⟨_, rfl⟩
            rw [← hbl] at L1 ⊢
            have c0 := L1.c0
            have c1 := L1.c1
            have c2 := L1.c2
            have c3 := L1.c3
            have HL1 := Lib.hid L1
            clear L1 h1 hbl
            go_wp2_with fail
            refine (right_calls st dl ex vs true HB.out _).mono ?_
            rintro e w2 ⟨rfl, h2⟩
            have HL2 := Lib.hid (HL1.out.fr h2 id)
            have HF2 := Lib.hid (HF1.out.trans h2 (fun i hi => hi.elim))
            clear h2 c0 c1 c2 c3 HL1 HF1
            have c0 := HL2.out.c0
            have c1 := HL2.out.c1
            have c2 := HL2.out.c2
            have c3 := HL2.out.c3
            go_wp2_with fail
            go_ret
            exact ⟨rfl, HF2.out⟩
        · have q2 : 1000 < n := by omega
          clear h2
          clear h0
          clear h1
          go_enter Try.func3, Try.ntmps3
          go_wp2_with fail
          refine (awake_true _).mono ?_
          rintro e w1 ⟨rfl, h1⟩
          have L1 : Lf w1 w.heap.size st dl ex vs := h1.heap (heap_alloc_new w _) id
          have HF1 := Lib.hid (((Fr.refl (fun _ => False) w).alloc _).trans h1 (fun i hi => hi.elim))
          obtain ⟨bl, hbl⟩ : ∃ x, x = w.heap.size := ⟨_, rfl⟩
          rw [← hbl] at L1 ⊢
          have c0 := L1.c0
          have c1 := L1.c1
          have c2 := L1.c2
          have c3 := L1.c3
          have HL1 := Lib.hid L1
          clear L1 h1 hbl
          go_wp2_with fail
          refine (right_calls st dl ex vs true HB.out _).mono ?_
          rintro e w2 ⟨rfl, h2⟩
          have HL2 := Lib.hid (HL1.out.fr h2 id)
          have HF2 := Lib.hid (HF1.out.trans h2 (fun i hi => hi.elim))
          clear h2 c0 c1 c2 c3 HL1 HF1
          have c0 := HL2.out.c0
          have c1 := HL2.out.c1
          have c2 := HL2.out.c2
          have c3 := HL2.out.c3
          go_wp2_with fail
          go_ret
          exact ⟨rfl, HF2.out⟩
      · have q1 : n < 1 := by omega
        clear h1
        clear h0
        go_enter Try.func3, Try.ntmps3
        go_wp2_with fail
        refine (awake_true _).mono ?_
        rintro e w1 ⟨rfl, h1⟩
        have L1 : Lf w1 w.heap.size st dl ex vs := h1.heap (heap_alloc_new w _) id
        have HF1 := Lib.hid (((Fr.refl (fun _ => False) w).alloc _).trans h1 (fun i hi => hi.elim))
        obtain ⟨bl, hbl⟩ : ∃ x, x = w.heap.size := ⟨_, rfl⟩
        rw [← hbl] at L1 ⊢
        have c0 := L1.c0
        have c1 := L1.c1
        have c2 := L1.c2
        have c3 := L1.c3
        have HL1 := Lib.hid L1
        clear L1 h1 hbl
        go_wp2_with fail
        refine (right_calls st dl ex vs true HB.out _).mono ?_
        rintro e w2 ⟨rfl, h2⟩
        have HL2 := Lib.hid (HL1.out.fr h2 id)
        have HF2 := Lib.hid (HF1.out.trans h2 (fun i hi => hi.elim))
        clear h2 c0 c1 c2 c3 HL1 HF1
        have c0 := HL2.out.c0
        have c1 := HL2.out.c1
        have c2 := HL2.out.c2
        have c3 := HL2.out.c3
        go_wp2_with fail
        go_ret
        exact ⟨rfl, HF2.out⟩
    · have q0 : (st != 1) = true := by simp [h0]
      clear h0
      go_enter Try.func3, Try.ntmps3
      go_wp2_with fail
      refine (awake_true _).mono ?_
      rintro e w1 ⟨rfl, h1⟩
      have L1 : Lf w1 w.heap.size st dl ex vs := h1.heap (heap_alloc_new w _) id
      have HF1 := Lib.hid (((Fr.refl (fun _ => False) w).alloc _).trans h1 (fun i hi => hi.elim))
      obtain ⟨bl, hbl⟩ : ∃ x, x = w.heap.size := ⟨_, rfl⟩
      rw [← hbl] at L1 ⊢
      have c0 := L1.c0
      have c1 := L1.c1
      have c2 := L1.c2
      have c3 := L1.c3
      have HL1 := Lib.hid L1
      clear L1 h1 hbl
      go_wp2_with fail
      refine (right_calls st dl ex vs true HB.out _).mono ?_
      rintro e w2 ⟨rfl, h2⟩
      have HL2 := Lib.hid (HL1.out.fr h2 id)
      have HF2 := Lib.hid (HF1.out.trans h2 (fun i hi => hi.elim))
      clear h2 c0 c1 c2 c3 HL1 HF1
      have c0 := HL2.out.c0
      have c1 := HL2.out.c1
      have c2 := HL2.out.c2
      have c3 := HL2.out.c3
      go_wp2_with fail
      go_ret
      exact ⟨rfl, HF2.out⟩
end Go.Proofs.Ythmpmpepokeedaa
