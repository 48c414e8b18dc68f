/- LabelMore: the walk. -/
import Derived.Test.YthmpmpepokeedaaLu
set_option linter.unusedVariables false
set_option linter.unusedSimpArgs false
set_option pp.deepTerms true
set_option pp.maxSteps 100000
namespace Go.Proofs.Ythmpmpepokeedaa
open Go.RowKit
theorem new_pair (w : World) (X Y : Value) : (w.alloc (.cells #[X, Y] 77)).heap[w.heap.size]? = some (.cells #[X, Y] 77 (0, 0)) := heap_alloc_new w _
theorem pair_cells {w : World} {b : Nat} {X Y : Value} (h : w.heap[b]? = some (.cells #[X, Y] 77 (0, 0))) : w.cell? ⟨b, 0, none⟩ = some X ∧ w.cell? ⟨b, 1, none⟩ = some Y :=
  ⟨by rw [cell_of_row w b 0 _ _ _ h]; rfl, by rw [cell_of_row w b 1 _ _ _ h]; rfl⟩
set_option maxRecDepth 20000 in
set_option maxHeartbeats 2000000 in
theorem more_early (a : Option Addr) (cap : Nat) (l : List Pr) (KB VB : ByteArray) (x : Int) (SB : ByteArray) (w : World) (hl : PSl w a l) (hlc : l.length ≤ cap) (hcap : cap ≤ 9223372036854775807) (h : fewB l = false ∨ 200 < KB.size ∨ 200 < VB.size ∨ 200 < SB.size) :
    Calls Try.prog 10 #[.slice a l.length cap, .agg #[.string KB, .string VB], .int .i64 x, .string SB] w fun e w' => e = .returned (.bool true) ∧ Fr (fun _ => False) w w' := by
  have H1 := Lib.hid (show ∀ w', Fr (fun _ => False) w w' → Calls Try.prog 33 #[.slice a l.length cap] w' fun e w2 => e = .returned (.bool (fewB l)) ∧ Fr (fun _ => False) w' w2 from fun w' hf => few_calls a cap l w' (hl.frF hf) hlc hcap)
  clear hl hlc hcap
  generalize l.length = n at H1 ⊢
  generalize fewB l = y at H1 h
  by_cases hy : y = false
  · subst hy
    clear h
    go_enter Try.func10, Try.ntmps10
    go_wp2_with fail
    have HB0 := Lib.hid (new_pair w (.string KB) (.string VB))
    have HF0 := Lib.hid ((Fr.refl (fun _ => False) w).alloc (.cells #[.string KB, .string VB] 77))
    refine (label_awake _).mono ?_
    rintro e w1 ⟨rfl, f1⟩
    have HB1 := Lib.hid (f1.heap HB0.out id)
    have G1 := Lib.hid (HF0.out.trans f1 (fun i hi => hi.elim))
    clear f1
    go_wp2_with fail
    refine (H1.out w1 G1.out).mono ?_
    rintro e w2 ⟨rfl, f2⟩
    have hb2 := f2.heap HB1.out id
    obtain ⟨c0, c1⟩ := pair_cells hb2
    have HB2 := Lib.hid hb2
    have G2 := Lib.hid (G1.out.trans f2 (fun i hi => hi.elim))
    clear f2 hb2
    go_wp2_with fail
    go_ret
    exact ⟨rfl, G2.out⟩
  obtain rfl : y = true := by cases y; exact absurd rfl hy; rfl
  by_cases h1 : 200 < KB.size
  · have t1 : decide ((200 : Int) < (KB.size : Int)) = true := decide_eq_true (by omega)
    clear h h1 hy
    go_enter Try.func10, Try.ntmps10
    go_wp2_with fail
    have HB0 := Lib.hid (new_pair w (.string KB) (.string VB))
    have HF0 := Lib.hid ((Fr.refl (fun _ => False) w).alloc (.cells #[.string KB, .string VB] 77))
    refine (label_awake _).mono ?_
    rintro e w1 ⟨rfl, f1⟩
    have HB1 := Lib.hid (f1.heap HB0.out id)
    have G1 := Lib.hid (HF0.out.trans f1 (fun i hi => hi.elim))
    clear f1
    go_wp2_with fail
    refine (H1.out w1 G1.out).mono ?_
    rintro e w2 ⟨rfl, f2⟩
    have hb2 := f2.heap HB1.out id
    obtain ⟨c0, c1⟩ := pair_cells hb2
    have HB2 := Lib.hid hb2
    have G2 := Lib.hid (G1.out.trans f2 (fun i hi => hi.elim))
    clear f2 hb2
    go_wp2_with fail
    go_ret
    exact ⟨rfl, G2.out⟩
  have t1 : decide ((200 : Int) < (KB.size : Int)) = false := decide_eq_false (by omega)
  by_cases h2 : 200 < VB.size
  · have t2 : decide ((200 : Int) < (VB.size : Int)) = true := decide_eq_true (by omega)
    clear h h1 h2 hy
    go_enter Try.func10, Try.ntmps10
    go_wp2_with fail
    have HB0 := Lib.hid (new_pair w (.string KB) (.string VB))
    have HF0 := Lib.hid ((Fr.refl (fun _ => False) w).alloc (.cells #[.string KB, .string VB] 77))
    refine (label_awake _).mono ?_
    rintro e w1 ⟨rfl, f1⟩
    have HB1 := Lib.hid (f1.heap HB0.out id)
    have G1 := Lib.hid (HF0.out.trans f1 (fun i hi => hi.elim))
    clear f1
    go_wp2_with fail
    refine (H1.out w1 G1.out).mono ?_
    rintro e w2 ⟨rfl, f2⟩
    have hb2 := f2.heap HB1.out id
    obtain ⟨c0, c1⟩ := pair_cells hb2
    have HB2 := Lib.hid hb2
    have G2 := Lib.hid (G1.out.trans f2 (fun i hi => hi.elim))
    clear f2 hb2
    go_wp2_with fail
    go_ret
    exact ⟨rfl, G2.out⟩
  have t2 : decide ((200 : Int) < (VB.size : Int)) = false := decide_eq_false (by omega)
  have h3 : 200 < SB.size := by rcases h with h | h | h | h; cases h; exact absurd h h1; exact absurd h h2; exact h
  have t3 : decide ((200 : Int) < (SB.size : Int)) = true := decide_eq_true (by omega)
  clear h h1 h2 h3 hy
  go_enter Try.func10, Try.ntmps10
  go_wp2_with fail
  have HB0 := Lib.hid (new_pair w (.string KB) (.string VB))
  have HF0 := Lib.hid ((Fr.refl (fun _ => False) w).alloc (.cells #[.string KB, .string VB] 77))
  refine (label_awake _).mono ?_
  rintro e w1 ⟨rfl, f1⟩
  have HB1 := Lib.hid (f1.heap HB0.out id)
  have G1 := Lib.hid (HF0.out.trans f1 (fun i hi => hi.elim))
  clear f1
  go_wp2_with fail
  refine (H1.out w1 G1.out).mono ?_
  rintro e w2 ⟨rfl, f2⟩
  have hb2 := f2.heap HB1.out id
  obtain ⟨c0, c1⟩ := pair_cells hb2
  have HB2 := Lib.hid hb2
  have G2 := Lib.hid (G1.out.trans f2 (fun i hi => hi.elim))
  clear f2 hb2
  go_wp2_with fail
  go_ret
  exact ⟨rfl, G2.out⟩
set_option maxRecDepth 20000 in
set_option maxHeartbeats 16000000 in
theorem more_main (a : Option Addr) (cap : Nat) (l : List Pr) (p : Pr) (KB VB : ByteArray) (x : Int) (s : List UInt8) (SB : ByteArray) (w : World) (hl : PSl w a l) (hlc : l.length ≤ cap) (hcap : cap ≤ 9223372036854775807) (hKB : KB = str p.1) (hVB : VB = str p.2) (hSB : SB = str s) (h0 : fewB l = true) (h1 : ¬ 200 < KB.size) (h2 : ¬ 200 < VB.size) (h3 : ¬ 200 < SB.size) :
    Calls Try.prog 10 #[.slice a l.length cap, .agg #[.string KB, .string VB], .int .i64 x, .string SB] w fun e w' => e = .returned (.bool true) ∧ Fr (fun _ => False) w w' := by
  have H1 := Lib.hid (show ∀ w', Fr (fun _ => False) w w' → Calls Try.prog 33 #[.slice a l.length cap] w' fun e w2 => e = .returned (.bool true) ∧ Fr (fun _ => False) w' w2 from fun w' hf => by rw [← h0]; exact few_calls a cap l w' (hl.frF hf) hlc hcap)
  have t1 : decide ((200 : Int) < (KB.size : Int)) = false := decide_eq_false (by omega)
  have t2 : decide ((200 : Int) < (VB.size : Int)) = false := decide_eq_false (by omega)
  have t3 : decide ((200 : Int) < (SB.size : Int)) = false := decide_eq_false (by omega)
  have hs := few_small h0
  have hl20 := ((fewB_iff l).1 h0).1
  have HST0 := Lib.hid (fun (B : Nat) W (h : B ≤ W.heap.size) => step0 B W h)
  have HST4 := Lib.hid (show ∀ W : World, ∃ W' g, (Instr.buildSlice 64 1 #[(0, .agg #[.string KB, .string VB])]).run Try.prog W = .ok (.slice (some ⟨g, 0, none⟩) 1 1) W' ∧ PSl W' (some ⟨g, 0, none⟩) [p] ∧ Fr (fun _ => False) W W' ∧ g = W.heap.size ∧ g < W'.heap.size by rw [hKB, hVB]; exact step4 p)
  have HL := Lib.hid (And.intro hl (And.intro hlc (And.intro hcap hl20)))
  have HS := Lib.hid (And.intro hs (And.intro h1 (And.intro h2 (And.intro h3 (And.intro hKB (And.intro hVB hSB))))))
  obtain ⟨n, hn⟩ : ∃ n, n = l.length := ⟨_, rfl⟩
  have HN := Lib.hid hn
  rw [← hn] at H1 ⊢
  clear hl hlc hcap h0 h1 h2 h3 hn hs hl20 hKB hVB hSB
  go_enter Try.func10, Try.ntmps10
  go_wp2_with fail
  have HB0 := Lib.hid (new_pair w (.string KB) (.string VB))
  have HF0 := Lib.hid ((Fr.refl (fun _ => False) w).alloc (.cells #[.string KB, .string VB] 77))
  refine (label_awake _).mono ?_
  rintro e w1 ⟨rfl, f1⟩
  have HB1 := Lib.hid (f1.heap HB0.out id)
  have G1 := Lib.hid (HF0.out.trans f1 (fun i hi => hi.elim))
  clear f1
  go_wp2_with fail
  refine (H1.out w1 G1.out).mono ?_
  rintro e w2 ⟨rfl, f2⟩
  have hb2 := f2.heap HB1.out id
  obtain ⟨c0, c1⟩ := pair_cells hb2
  have HB2 := Lib.hid hb2
  have G2 := Lib.hid (G1.out.trans f2 (fun i hi => hi.elim))
  clear f2 hb2
  go_wp2_with fail
  rename_i K5 hK5
  have hrest : ∀ v v33 v35 v37 w5, PV w5 v (l ++ [p]) → Fr (fun _ => False) w w5 → K5 ⟨#[Value.slice a n cap, Value.agg #[Value.string KB, Value.string VB], Value.int IntKind.i64 x, Value.string SB, undef, Value.pointer (some { block := w.heap.size, off := 0 }), undef, undef, Value.bool false, v, undef, Value.bool true, Value.bool false, Value.slice a n cap, Value.bool true, Value.bool false, Value.bool false, Value.pointer (some { block := w.heap.size, off := 0 }), Value.string KB, Value.int IntKind.i64 ↑KB.size, Value.bool false, Value.bool false, Value.bool false, Value.pointer (some { block := w.heap.size, off := 1 }), Value.string VB, Value.int IntKind.i64 ↑VB.size, Value.bool false, Value.bool false, Value.bool false, Value.string SB, Value.int IntKind.i64 ↑SB.size, Value.bool false, Value.bool false, v33, Value.slice a n cap, v35, Value.agg #[Value.string KB, Value.string VB], v37, v, undef, undef, undef, undef, undef, undef, undef, undef, undef, undef, undef, undef, undef, undef, undef, undef, undef, undef, undef, undef, undef, undef, undef, undef, undef, undef, undef, undef, undef, undef, undef, undef, undef, undef, undef, undef, undef, undef, undef, undef, undef, undef, undef, undef, undef, undef, undef, undef, undef, undef, undef, undef, undef, undef, undef, undef, undef, undef, undef, undef, undef, undef, undef, undef, undef, undef], []⟩ w5 := by
    intro v v33 v35 v37 w5 hpv hf5
    obtain ⟨a9, c9, rfl, hp9, h91, h92⟩ := hpv
    have hm1 : (l ++ [p]).length = n + 1 := by rw [List.length_append, HN.out]; rfl
    have HsM := Lib.hid (show (l ++ [p]).length ≤ 100000 ∧ ∀ q ∈ l ++ [p], q.1.length ≤ 100000 ∧ q.2.length ≤ 100000 from ⟨by rw [hm1, HN.out]; have := HL.out.2.2.2; omega, fun q hq => by
      rcases List.mem_append.1 hq with h | h
      · exact HS.out.1.2 q h
      · obtain rfl : q = p := by simpa using h
        obtain ⟨_, k1, k2, _, hK, hV, _⟩ := HS.out
        have e1 : KB.size = q.1.length := by rw [hK, str_size]
        have e2 : VB.size = q.2.length := by rw [hV, str_size]
        omega⟩)
    have HEmm := Lib.hid (show ∀ W', Fr (fun _ => False) w5 W' → Calls Try.prog 44 #[.slice a9 (n + 1) c9, .slice a9 (n + 1) c9] W' fun e w' => e = .returned (.bool (eqB (l ++ [p]) (l ++ [p]))) ∧ Fr (fun _ => False) W' w' from fun W' hf => by
      have h := equal_calls a9 a9 c9 c9 (l ++ [p]) (l ++ [p]) HsM.out.1 HsM.out.2 HsM.out.1 HsM.out.2 W' (hp9.frF hf) (hp9.frF hf) h91 h92 h91 h92
      rw [hm1] at h; exact h)
    have HSlm := Lib.hid (show ∀ W', Fr (fun _ => False) w5 W' → Calls Try.prog 42 #[.slice a n cap, .slice a9 (n + 1) c9] W' fun e w' => e = .returned (.bool (subB l (l ++ [p]))) ∧ Fr (fun _ => False) W' w' from fun W' hf => by
      have h := subset_calls a a9 cap c9 l (l ++ [p]) HS.out.1.1 HS.out.1.2 HsM.out.1 HsM.out.2 W' (HL.out.1.frF (hf5.trans hf (fun i hi => hi.elim))) (hp9.frF hf) HL.out.2.1 HL.out.2.2.1 h91 h92
      rw [hm1, ← HN.out] at h; exact h)
    have HSml := Lib.hid (show ∀ W', Fr (fun _ => False) w5 W' → Calls Try.prog 42 #[.slice a9 (n + 1) c9, .slice a n cap] W' fun e w' => e = .returned (.bool (subB (l ++ [p]) l)) ∧ Fr (fun _ => False) W' w' from fun W' hf => by
      have h := subset_calls a9 a c9 cap (l ++ [p]) l HsM.out.1 HsM.out.2 HS.out.1.1 HS.out.1.2 W' (hp9.frF hf) (HL.out.1.frF (hf5.trans hf (fun i hi => hi.elim))) h91 h92 HL.out.2.1 HL.out.2.2.1
      rw [hm1, ← HN.out] at h; exact h)
    have HElm := Lib.hid (show ∀ W', Fr (fun _ => False) w5 W' → Calls Try.prog 44 #[.slice a n cap, .slice a9 (n + 1) c9] W' fun e w' => e = .returned (.bool (eqB l (l ++ [p]))) ∧ Fr (fun _ => False) W' w' from fun W' hf => by
      have h := equal_calls a a9 cap c9 l (l ++ [p]) HS.out.1.1 HS.out.1.2 HsM.out.1 HsM.out.2 W' (HL.out.1.frF (hf5.trans hf (fun i hi => hi.elim))) (hp9.frF hf) HL.out.2.1 HL.out.2.2.1 h91 h92
      rw [hm1, ← HN.out] at h; exact h)
    have HEll := Lib.hid (show ∀ W', Fr (fun _ => False) w5 W' → Calls Try.prog 44 #[.slice a n cap, .slice a n cap] W' fun e w' => e = .returned (.bool (eqB l l)) ∧ Fr (fun _ => False) W' w' from fun W' hf => by
      have h := equal_calls a a cap cap l l HS.out.1.1 HS.out.1.2 HS.out.1.1 HS.out.1.2 W' (HL.out.1.frF (hf5.trans hf (fun i hi => hi.elim))) (HL.out.1.frF (hf5.trans hf (fun i hi => hi.elim))) HL.out.2.1 HL.out.2.2.1 HL.out.2.1 HL.out.2.2.1
      rw [← HN.out] at h; exact h)
    have HF5 := Lib.hid hf5
    have H5 := Lib.hid (Fr.refl (fun _ => False) w5)
    rw [hm1]
    refine hK5 _ _ ?_
    clear hK5 hp9 h91 h92 hm1 hf5 c0 c1
    by_cases hx0 : x < 0
    · have t4 : decide (x < 0) = true := decide_eq_true hx0
      clear hx0
      cases hE : eqB (l ++ [p]) (l ++ [p]) with
      | false =>
        have HEx := Lib.hid HEmm.out
        rw [hE] at HEx
        have HEy := Lib.hid HEx.out
        clear hE HEx
        go_wp2_with fail
        refine (HEy.out w5 H5.out).mono ?_
        rintro e w6 ⟨rfl, f6⟩
        have H6 := Lib.hid (H5.out.trans f6 (fun i hi => hi.elim))
        clear f6
        go_wp2_with fail
        go_ret
        exact ⟨rfl, HF5.out.trans H6.out (fun i hi => hi.elim)⟩
      | true =>
        obtain ⟨e1, e2, e3⟩ := eqB_more hE
        have HEx := HEmm.out
        have HSx := HSlm.out
        have HSy := HSml.out
        have HEz := HElm.out
        rw [hE] at HEx
        rw [e1] at HSx
        rw [e2] at HSy
        rw [e3] at HEz
        have HY1 := Lib.hid HEx
        have HY2 := Lib.hid HSx
        have HY3 := Lib.hid HSy
        have HY4 := Lib.hid HEz
        clear hE e1 e2 e3 HEx HSx HSy HEz
        go_wp2_with fail
        refine (HY1.out w5 H5.out).mono ?_
        rintro e w6 ⟨rfl, f6⟩
        have H6 := Lib.hid (H5.out.trans f6 (fun i hi => hi.elim))
        clear f6
        go_wp2_with fail
        refine (HY2.out w6 H6.out).mono ?_
        rintro e w7 ⟨rfl, f7⟩
        have H7 := Lib.hid (H6.out.trans f7 (fun i hi => hi.elim))
        clear f7
        go_wp2_with fail
        refine (HY3.out w7 H7.out).mono ?_
        rintro e w8 ⟨rfl, f8⟩
        have H8 := Lib.hid (H7.out.trans f8 (fun i hi => hi.elim))
        clear f8
        go_wp2_with fail
        refine (HY4.out w8 H8.out).mono ?_
        rintro e w9 ⟨rfl, f9⟩
        have H9 := Lib.hid (H8.out.trans f9 (fun i hi => hi.elim))
        clear f9
        go_wp2_with fail
        go_ret
        exact ⟨rfl, HF5.out.trans H9.out (fun i hi => hi.elim)⟩
    have t4 : decide (x < 0) = false := decide_eq_false hx0
    by_cases hxn : (n : Int) ≤ x
    · have t5 : decide ((n : Int) ≤ x) = true := decide_eq_true hxn
      clear hx0 hxn
      cases hE : eqB (l ++ [p]) (l ++ [p]) with
      | false =>
        have HEx := Lib.hid HEmm.out
        rw [hE] at HEx
        have HEy := Lib.hid HEx.out
        clear hE HEx
        go_wp2_with fail
        refine (HEy.out w5 H5.out).mono ?_
        rintro e w6 ⟨rfl, f6⟩
        have H6 := Lib.hid (H5.out.trans f6 (fun i hi => hi.elim))
        clear f6
        go_wp2_with fail
        go_ret
        exact ⟨rfl, HF5.out.trans H6.out (fun i hi => hi.elim)⟩
      | true =>
        obtain ⟨e1, e2, e3⟩ := eqB_more hE
        have HEx := HEmm.out
        have HSx := HSlm.out
        have HSy := HSml.out
        have HEz := HElm.out
        rw [hE] at HEx
        rw [e1] at HSx
        rw [e2] at HSy
        rw [e3] at HEz
        have HY1 := Lib.hid HEx
        have HY2 := Lib.hid HSx
        have HY3 := Lib.hid HSy
        have HY4 := Lib.hid HEz
        clear hE e1 e2 e3 HEx HSx HSy HEz
        go_wp2_with fail
        refine (HY1.out w5 H5.out).mono ?_
        rintro e w6 ⟨rfl, f6⟩
        have H6 := Lib.hid (H5.out.trans f6 (fun i hi => hi.elim))
        clear f6
        go_wp2_with fail
        refine (HY2.out w6 H6.out).mono ?_
        rintro e w7 ⟨rfl, f7⟩
        have H7 := Lib.hid (H6.out.trans f7 (fun i hi => hi.elim))
        clear f7
        go_wp2_with fail
        refine (HY3.out w7 H7.out).mono ?_
        rintro e w8 ⟨rfl, f8⟩
        have H8 := Lib.hid (H7.out.trans f8 (fun i hi => hi.elim))
        clear f8
        go_wp2_with fail
        refine (HY4.out w8 H8.out).mono ?_
        rintro e w9 ⟨rfl, f9⟩
        have H9 := Lib.hid (H8.out.trans f9 (fun i hi => hi.elim))
        clear f9
        go_wp2_with fail
        go_ret
        exact ⟨rfl, HF5.out.trans H9.out (fun i hi => hi.elim)⟩
    have t5 : decide ((n : Int) ≤ x) = false := decide_eq_false hxn
    obtain ⟨q, rfl⟩ := Int.eq_ofNat_of_zero_le (by omega : 0 ≤ x)
    have hqn : (q : Int) < (n : Int) := by omega
    have hql : q < l.length := by have := HN.out; omega
    have HQL := Lib.hid hql
    clear hx0 hxn
    cases hR : eqB l l with
    | false =>
      have HE0 := HEll.out
      rw [hR] at HE0
      have HEllx := Lib.hid HE0
      clear hR HE0 HEll
      cases hE : eqB (l ++ [p]) (l ++ [p]) with
      | false =>
        have HEx := Lib.hid HEmm.out
        rw [hE] at HEx
        have HEy := Lib.hid HEx.out
        clear hE HEx
        go_wp2_with fail
        refine (HEy.out w5 H5.out).mono ?_
        rintro e w6 ⟨rfl, f6⟩
        have H6 := Lib.hid (H5.out.trans f6 (fun i hi => hi.elim))
        clear f6
        go_wp2_with fail
        refine (HEllx.out w6 H6.out).mono ?_
        rintro e w7 ⟨rfl, f7⟩
        have H7 := Lib.hid (H6.out.trans f7 (fun i hi => hi.elim))
        clear f7
        go_wp2_with fail
        go_ret
        exact ⟨rfl, HF5.out.trans H7.out (fun i hi => hi.elim)⟩
      | true =>
        obtain ⟨e1, e2, e3⟩ := eqB_more hE
        have HEx := HEmm.out
        have HSx := HSlm.out
        have HSy := HSml.out
        have HEz := HElm.out
        rw [hE] at HEx
        rw [e1] at HSx
        rw [e2] at HSy
        rw [e3] at HEz
        have HY1 := Lib.hid HEx
        have HY2 := Lib.hid HSx
        have HY3 := Lib.hid HSy
        have HY4 := Lib.hid HEz
        clear hE e1 e2 e3 HEx HSx HSy HEz
        go_wp2_with fail
        refine (HY1.out w5 H5.out).mono ?_
        rintro e w6 ⟨rfl, f6⟩
        have H6 := Lib.hid (H5.out.trans f6 (fun i hi => hi.elim))
        clear f6
        go_wp2_with fail
        refine (HY2.out w6 H6.out).mono ?_
        rintro e w7 ⟨rfl, f7⟩
        have H7 := Lib.hid (H6.out.trans f7 (fun i hi => hi.elim))
        clear f7
        go_wp2_with fail
        refine (HY3.out w7 H7.out).mono ?_
        rintro e w8 ⟨rfl, f8⟩
        have H8 := Lib.hid (H7.out.trans f8 (fun i hi => hi.elim))
        clear f8
        go_wp2_with fail
        refine (HY4.out w8 H8.out).mono ?_
        rintro e w9 ⟨rfl, f9⟩
        have H9 := Lib.hid (H8.out.trans f9 (fun i hi => hi.elim))
        clear f9
        go_wp2_with fail
        refine (HEllx.out w9 H9.out).mono ?_
        rintro e w10 ⟨rfl, f10⟩
        have H10 := Lib.hid (H9.out.trans f10 (fun i hi => hi.elim))
        clear f10
        go_wp2_with fail
        go_ret
        exact ⟨rfl, HF5.out.trans H10.out (fun i hi => hi.elim)⟩
    | true =>
      have HE0 := HEll.out
      rw [hR] at HE0
      have HEllx := Lib.hid HE0
      clear hR HE0 HEll
      rcases HL.out.1 with h0 | ⟨b', off, rfl, hpb, hb'⟩
      · exact absurd hql (by rw [h0]; simp)
      obtain ⟨VQ, hVQ⟩ : ∃ s, s = str l[q].2 := ⟨_, rfl⟩
      have HCQ := Lib.hid (show ∀ W', Fr (fun _ => False) w5 W' → W'.cell? ⟨b', off + q * 2 + 1, none⟩ = some (.string VQ) from fun W' hf => by rw [hVQ]; exact ((hpb.fr (HF5.out.trans hf (fun i hi => hi.elim)) id).cells q hql).2)
      have HVQ := Lib.hid hVQ
      have HPB := Lib.hid hpb
      by_cases hsame : l[q].2 = s
      · have t6 : (VQ.toList == SB.toList) = true := by rw [hVQ, HS.out.2.2.2.2.2.2, hsame]; simp
        clear hsame hql hVQ hpb hb'
        cases hE : eqB (l ++ [p]) (l ++ [p]) with
        | false =>
          have HEx := Lib.hid HEmm.out
          rw [hE] at HEx
          have HEy := Lib.hid HEx.out
          clear hE HEx
          go_wp2_with fail
          refine (HEy.out w5 H5.out).mono ?_
          rintro e w6 ⟨rfl, f6⟩
          have H6 := Lib.hid (H5.out.trans f6 (fun i hi => hi.elim))
          clear f6
          go_wp2_with fail
          refine (HEllx.out w6 H6.out).mono ?_
          rintro e w7 ⟨rfl, f7⟩
          have H7 := Lib.hid (H6.out.trans f7 (fun i hi => hi.elim))
          have hcq := HCQ.out w7 H7.out
          clear f7
          go_wp2_with fail
          go_ret
          exact ⟨rfl, HF5.out.trans H7.out (fun i hi => hi.elim)⟩
        | true =>
          obtain ⟨e1, e2, e3⟩ := eqB_more hE
          have HEx := HEmm.out
          have HSx := HSlm.out
          have HSy := HSml.out
          have HEz := HElm.out
          rw [hE] at HEx
          rw [e1] at HSx
          rw [e2] at HSy
          rw [e3] at HEz
          have HY1 := Lib.hid HEx
          have HY2 := Lib.hid HSx
          have HY3 := Lib.hid HSy
          have HY4 := Lib.hid HEz
          clear hE e1 e2 e3 HEx HSx HSy HEz
          go_wp2_with fail
          refine (HY1.out w5 H5.out).mono ?_
          rintro e w6 ⟨rfl, f6⟩
          have H6 := Lib.hid (H5.out.trans f6 (fun i hi => hi.elim))
          clear f6
          go_wp2_with fail
          refine (HY2.out w6 H6.out).mono ?_
          rintro e w7 ⟨rfl, f7⟩
          have H7 := Lib.hid (H6.out.trans f7 (fun i hi => hi.elim))
          clear f7
          go_wp2_with fail
          refine (HY3.out w7 H7.out).mono ?_
          rintro e w8 ⟨rfl, f8⟩
          have H8 := Lib.hid (H7.out.trans f8 (fun i hi => hi.elim))
          clear f8
          go_wp2_with fail
          refine (HY4.out w8 H8.out).mono ?_
          rintro e w9 ⟨rfl, f9⟩
          have H9 := Lib.hid (H8.out.trans f9 (fun i hi => hi.elim))
          clear f9
          go_wp2_with fail
          refine (HEllx.out w9 H9.out).mono ?_
          rintro e w10 ⟨rfl, f10⟩
          have H10 := Lib.hid (H9.out.trans f10 (fun i hi => hi.elim))
          have hcq := HCQ.out w10 H10.out
          clear f10
          go_wp2_with fail
          go_ret
          exact ⟨rfl, HF5.out.trans H10.out (fun i hi => hi.elim)⟩
      · have t6 : (VQ.toList == SB.toList) = false := by
          rw [hVQ, HS.out.2.2.2.2.2.2, str_toList, str_toList]
          exact beq_eq_false_iff_ne.2 hsame
        have hturn := turned hql s hsame
        have hnl : n = l.length := HN.out
        have HAPP := Lib.hid (show ∀ (g : Nat) (W : World), W.ownsRow w5.heap.size 77 2 (.slice (some ⟨g, 0, none⟩) 0 0) 0 [] → Fr (fun _ => False) w5 W → ∃ v' W', (Builtin.append_ #[64, 64] 64 #[.slice (some ⟨g, 0, none⟩) 0 0, .slice (some ⟨b', off, none⟩) n cap]).run Try.prog W = .ok v' W' ∧ W'.ownsRow w5.heap.size 77 2 v' n (l.flatMap encP) ∧ Fr (fun k => k = g) W W' from fun g W ho hf => by
          rw [HN.out]; exact step2 w5.heap.size g _ cap l W ho (HL.out.1.frF (HF5.out.trans hf (fun i hi => hi.elim))) hf.size (by have := HL.out.2.2.2; omega))
        have HSH := Lib.hid (show ∀ (v : Value) (W : World), W.ownsRow w5.heap.size 77 2 v n (l.flatMap encP) → ∃ g c, v = .slice (some ⟨g, 0, none⟩) n c from fun v W ho => by
          rcases ho.2 with ⟨_, h⟩ | ⟨g, cc, _, h, _⟩
          · have := HN.out; have := HQL.out; omega
          · exact ⟨g, cc, h⟩)
        have HOT := Lib.hid (show ∀ (g c : Nat) (W : World), W.ownsRow w5.heap.size 77 2 (.slice (some ⟨g, 0, none⟩) n c) n (l.flatMap encP) → w5.heap.size ≤ g ∧ n ≤ c ∧ c ≤ 9223372036854775807 ∧ (∃ u, W.cell? ⟨g, q * 2 + 1, none⟩ = some u) ∧ W.frozen? ⟨g, q * 2 + 1, none⟩ = false ∧ PSl (W.setCell ⟨g, q * 2 + 1, none⟩ (.string SB)) (some ⟨g, 0, none⟩) (l.set q (l[q].1, s)) from fun g c W ho => by
          rw [HS.out.2.2.2.2.2.2]; exact other_ps ho hnl hql s)
        have hso : (l.set q (l[q].1, s)).length ≤ 100000 ∧ ∀ y ∈ l.set q (l[q].1, s), y.1.length ≤ 100000 ∧ y.2.length ≤ 100000 := ⟨by rw [List.length_set]; exact HS.out.1.1, fun y hy => by
          rcases List.mem_or_eq_of_mem_set hy with h | rfl
          · exact HS.out.1.2 y h
          · refine ⟨(HS.out.1.2 _ (List.getElem_mem hql)).1, ?_⟩
            obtain ⟨_, _, _, k3, _, _, hSs⟩ := HS.out
            have e1 : SB.size = s.length := by rw [hSs, str_size]
            show s.length ≤ 100000
            omega⟩
        have HOC := Lib.hid (show ∀ (a2 : Option Addr) (c : Nat) (W : World), PSl W a2 (l.set q (l[q].1, s)) → n ≤ c → c ≤ 9223372036854775807 → Fr (fun _ => False) w5 W →
            (∀ W', Fr (fun _ => False) W W' → Calls Try.prog 42 #[.slice (some ⟨b', off, none⟩) n cap, .slice a2 n c] W' fun e w' => e = .returned (.bool false) ∧ Fr (fun _ => False) W' w') ∧
            (∀ W', Fr (fun _ => False) W W' → Calls Try.prog 42 #[.slice a2 n c, .slice (some ⟨b', off, none⟩) n cap] W' fun e w' => e = .returned (.bool false) ∧ Fr (fun _ => False) W' w') ∧
            (∀ W', Fr (fun _ => False) W W' → Calls Try.prog 44 #[.slice (some ⟨b', off, none⟩) n cap, .slice a2 n c] W' fun e w' => e = .returned (.bool false) ∧ Fr (fun _ => False) W' w') from fun a2 c W hp hc1 hc2 hf => by
          have hlo : (l.set q (l[q].1, s)).length = n := by rw [List.length_set, HN.out]
          have hc1' : (l.set q (l[q].1, s)).length ≤ c := by rw [hlo]; exact hc1
          have hpl : ∀ W', Fr (fun _ => False) W W' → PSl W' (some ⟨b', off, none⟩) l := fun W' hw => HL.out.1.frF (HF5.out.trans (hf.trans hw (fun i hi => hi.elim)) (fun i hi => hi.elim))
          refine ⟨fun W' hw => ?_, fun W' hw => ?_, fun W' hw => ?_⟩
          · have h := subset_calls _ a2 cap c l _ HS.out.1.1 HS.out.1.2 hso.1 hso.2 W' (hpl W' hw) (hp.frF hw) HL.out.2.1 HL.out.2.2.1 hc1' hc2
            rw [hlo, ← HN.out] at h; exact h.mono (fun e w' hh => ⟨hh.1.trans (congrArg (fun b => Ending.returned (Value.bool b)) hturn.1), hh.2⟩)
          · have h := subset_calls a2 _ c cap _ l hso.1 hso.2 HS.out.1.1 HS.out.1.2 W' (hp.frF hw) (hpl W' hw) hc1' hc2 HL.out.2.1 HL.out.2.2.1
            rw [hlo, ← HN.out] at h; exact h.mono (fun e w' hh => ⟨hh.1.trans (congrArg (fun b => Ending.returned (Value.bool b)) hturn.2.1), hh.2⟩)
          · have h := equal_calls _ a2 cap c l _ HS.out.1.1 HS.out.1.2 hso.1 hso.2 W' (hpl W' hw) (hp.frF hw) HL.out.2.1 HL.out.2.2.1 hc1' hc2
            rw [hlo, ← HN.out] at h; exact h.mono (fun e w' hh => ⟨hh.1.trans (congrArg (fun b => Ending.returned (Value.bool b)) hturn.2.2), hh.2⟩))
        clear hsame hql hVQ hpb hb' hturn hnl hso
        cases hE : eqB (l ++ [p]) (l ++ [p]) with
        | false =>
          have HEx := Lib.hid HEmm.out
          rw [hE] at HEx
          have HEy := Lib.hid HEx.out
          clear hE HEx
          go_wp2_with fail
          refine (HEy.out w5 H5.out).mono ?_
          rintro e w6 ⟨rfl, f6⟩
          have H6 := Lib.hid (H5.out.trans f6 (fun i hi => hi.elim))
          clear f6
          go_wp2_with fail
          refine (HEllx.out w6 H6.out).mono ?_
          rintro e w7 ⟨rfl, f7⟩
          have H7 := Lib.hid (H6.out.trans f7 (fun i hi => hi.elim))
          have hcq := HCQ.out w7 H7.out
          clear f7
          obtain ⟨W6, g33, hr0, ho0, hf0, hg33⟩ := step0 w5.heap.size w7 H7.out.size
          have HF6 := Lib.hid (H7.out.trans hf0 (fun i hi => hi.elim))
          obtain ⟨v36, W7, hr2, ho2, hf2⟩ := HAPP.out g33 W6 ho0 HF6.out
          have HF7 := Lib.hid (HF6.out.trans hf2 (fun i hi => .inr (by subst hi; rw [hg33]; exact H7.out.size)))
          obtain ⟨g, c, rfl⟩ := HSH.out v36 W7 ho2
          obtain ⟨hbg, hnc, hcm, ⟨u, hu⟩, hfz, hps⟩ := HOT.out g c W7 ho2
          have HF8 := Lib.hid (HF7.out.setCell ⟨g, q * 2 + 1, none⟩ (.string SB) (.inr hbg))
          have HPS := Lib.hid hps
          have HC8 := Lib.hid (And.intro hnc hcm)
          clear ho0 hf0 hg33 ho2 hf2 hps hbg
          have hqn' : ¬ ((n : Int) ≤ (q : Int)) := by omega
          go_wp2_with (first | (refine wpList_append_run (op := ⟨some 83, _, _, _, _, _⟩) rfl (.tmp 81) (.tmp 82) rfl _ _ hr2 ?_) | (with_reducible refine wpList_build0 (op := ⟨some 81, _, _, _, _, _⟩) rfl rfl _ _ hr0 ?_))
          have HX := HOC.out (some ⟨g, 0, none⟩) c _ HPS.out HC8.out.1 HC8.out.2 HF8.out
          obtain ⟨hx1, hx2, hx3⟩ := HX
          have HX1 := Lib.hid hx1
          have HX2 := Lib.hid hx2
          have HX3 := Lib.hid hx3
          clear hx1 hx2 hx3
          refine (HX1.out _ (Fr.refl _ _)).mono ?_
          rintro e w20 ⟨rfl, f20⟩
          have H20 := Lib.hid f20
          clear f20
          go_wp2_with fail
          refine (HX2.out _ H20.out).mono ?_
          rintro e w21 ⟨rfl, f21⟩
          have H21 := Lib.hid (H20.out.trans f21 (fun i hi => hi.elim))
          clear f21
          go_wp2_with fail
          refine (HX3.out _ H21.out).mono ?_
          rintro e w22 ⟨rfl, f22⟩
          have H22 := Lib.hid (H21.out.trans f22 (fun i hi => hi.elim))
          clear f22
          go_wp2_with fail
          go_ret
          exact ⟨rfl, HF5.out.trans (HF8.out.trans H22.out (fun i hi => hi.elim)) (fun i hi => hi.elim)⟩
        | true =>
          obtain ⟨e1, e2, e3⟩ := eqB_more hE
          have HEx := HEmm.out
          have HSx := HSlm.out
          have HSy := HSml.out
          have HEz := HElm.out
          rw [hE] at HEx
          rw [e1] at HSx
          rw [e2] at HSy
          rw [e3] at HEz
          have HY1 := Lib.hid HEx
          have HY2 := Lib.hid HSx
          have HY3 := Lib.hid HSy
          have HY4 := Lib.hid HEz
          clear hE e1 e2 e3 HEx HSx HSy HEz
          go_wp2_with fail
          refine (HY1.out w5 H5.out).mono ?_
          rintro e w6 ⟨rfl, f6⟩
          have H6 := Lib.hid (H5.out.trans f6 (fun i hi => hi.elim))
          clear f6
          go_wp2_with fail
          refine (HY2.out w6 H6.out).mono ?_
          rintro e w7 ⟨rfl, f7⟩
          have H7 := Lib.hid (H6.out.trans f7 (fun i hi => hi.elim))
          clear f7
          go_wp2_with fail
          refine (HY3.out w7 H7.out).mono ?_
          rintro e w8 ⟨rfl, f8⟩
          have H8 := Lib.hid (H7.out.trans f8 (fun i hi => hi.elim))
          clear f8
          go_wp2_with fail
          refine (HY4.out w8 H8.out).mono ?_
          rintro e w9 ⟨rfl, f9⟩
          have H9 := Lib.hid (H8.out.trans f9 (fun i hi => hi.elim))
          clear f9
          go_wp2_with fail
          refine (HEllx.out w9 H9.out).mono ?_
          rintro e w10 ⟨rfl, f10⟩
          have H10 := Lib.hid (H9.out.trans f10 (fun i hi => hi.elim))
          have hcq := HCQ.out w10 H10.out
          clear f10
          obtain ⟨W6, g33, hr0, ho0, hf0, hg33⟩ := step0 w5.heap.size w10 H10.out.size
          have HF6 := Lib.hid (H10.out.trans hf0 (fun i hi => hi.elim))
          obtain ⟨v36, W7, hr2, ho2, hf2⟩ := HAPP.out g33 W6 ho0 HF6.out
          have HF7 := Lib.hid (HF6.out.trans hf2 (fun i hi => .inr (by subst hi; rw [hg33]; exact H10.out.size)))
          obtain ⟨g, c, rfl⟩ := HSH.out v36 W7 ho2
          obtain ⟨hbg, hnc, hcm, ⟨u, hu⟩, hfz, hps⟩ := HOT.out g c W7 ho2
          have HF8 := Lib.hid (HF7.out.setCell ⟨g, q * 2 + 1, none⟩ (.string SB) (.inr hbg))
          have HPS := Lib.hid hps
          have HC8 := Lib.hid (And.intro hnc hcm)
          clear ho0 hf0 hg33 ho2 hf2 hps hbg
          have hqn' : ¬ ((n : Int) ≤ (q : Int)) := by omega
          go_wp2_with (first | (refine wpList_append_run (op := ⟨some 83, _, _, _, _, _⟩) rfl (.tmp 81) (.tmp 82) rfl _ _ hr2 ?_) | (with_reducible refine wpList_build0 (op := ⟨some 81, _, _, _, _, _⟩) rfl rfl _ _ hr0 ?_))
          have HX := HOC.out (some ⟨g, 0, none⟩) c _ HPS.out HC8.out.1 HC8.out.2 HF8.out
          obtain ⟨hx1, hx2, hx3⟩ := HX
          have HX1 := Lib.hid hx1
          have HX2 := Lib.hid hx2
          have HX3 := Lib.hid hx3
          clear hx1 hx2 hx3
          refine (HX1.out _ (Fr.refl _ _)).mono ?_
          rintro e w20 ⟨rfl, f20⟩
          have H20 := Lib.hid f20
          clear f20
          go_wp2_with fail
          refine (HX2.out _ H20.out).mono ?_
          rintro e w21 ⟨rfl, f21⟩
          have H21 := Lib.hid (H20.out.trans f21 (fun i hi => hi.elim))
          clear f21
          go_wp2_with fail
          refine (HX3.out _ H21.out).mono ?_
          rintro e w22 ⟨rfl, f22⟩
          have H22 := Lib.hid (H21.out.trans f22 (fun i hi => hi.elim))
          clear f22
          go_wp2_with fail
          go_ret
          exact ⟨rfl, HF5.out.trans (HF8.out.trans H22.out (fun i hi => hi.elim)) (fun i hi => hi.elim)⟩
  have HR := Lib.hid hrest
  have HST2 := Lib.hid (show ∀ g W, W.ownsRow w2.heap.size 77 2 (.slice (some ⟨g, 0, none⟩) 0 0) 0 [] → Fr (fun _ => False) w2 W → ∃ v' W', (Builtin.append_ #[64, 64] 64 #[.slice (some ⟨g, 0, none⟩) 0 0, .slice a n cap]).run Try.prog W = .ok v' W' ∧ W'.ownsRow w2.heap.size 77 2 v' l.length (l.flatMap encP) ∧ Fr (fun k => k = g) W W' from fun g W ho hf => by
    rw [HN.out]; exact step2 w2.heap.size g a cap l W ho (HL.out.1.frF (G2.out.trans hf (fun i hi => hi.elim))) hf.size (by have := HL.out.2.2.2; omega))
  have HST5 := Lib.hid (show ∀ v b W, W.ownsRow w2.heap.size 77 2 v l.length (l.flatMap encP) → PSl W b [p] → Fr (fun _ => False) w2 W → ∃ v' W', (Builtin.append_ #[64, 64] 64 #[v, .slice b 1 1]).run Try.prog W = .ok v' W' ∧ PV W' v' (l ++ [p]) ∧ Fr (fun k => v.ownBlock = some k) W W' from fun v b W ho hp hf =>
    step5 w2.heap.size v b p l W ho hp hf.size (by have := HL.out.2.2.2; omega))
  clear hrest hK5
  refine wp_region_till (fun w' => Fr (fun _ => False) w2 w') 5 rfl ?_
  obtain ⟨W0, hW0⟩ : ∃ W, W = w2.drew := ⟨_, rfl⟩
  rw [← hW0]
  have HSa := Lib.hid (show Fr (fun _ => False) w2 W0 by rw [hW0]; exact (Fr.refl _ w2).drew)
  have HCe := Lib.hid (And.intro c0 c1)
  clear hW0 c0 c1
  refine wpAnyT_path (i := 1) (p := [2]) (v := .slice a n cap) rfl (by kernel_rfl) (by kernel_rfl) (fun _ _ _ h => h) HSa.out (.inl ⟨by rfl, fun W' hW => by clear hW; go_simp⟩) ?_
  try simp only [Act.put, List.setIfInBounds_toArray]
  try dsimp only [List.getElem_toArray, List.getElem_cons_succ, List.getElem_cons_zero, List.set_cons_zero, List.set_cons_succ]
  refine wpAnyT_path (i := 3) (p := [4]) (v := .agg #[.string KB, .string VB]) rfl (by kernel_rfl) (by kernel_rfl) (fun _ _ _ h => h) HSa.out (yieldsIf_load rfl 77 (.tmp 5) rfl w.heap.size 0 rfl [.string KB, .string VB] _ (fun W' hW => by intro j v hj; rw [Nat.zero_add]; exact hW.cell (by match j, hj with | 0, hj => exact (Option.some.inj hj) ▸ HCe.out.1 | 1, hj => exact (Option.some.inj hj) ▸ HCe.out.2) id) Try.underlying77 rfl (by kernel_rfl)) ?_
  try simp only [Act.put, List.setIfInBounds_toArray]
  try dsimp only [List.getElem_toArray, List.getElem_cons_succ, List.getElem_cons_zero, List.set_cons_zero, List.set_cons_succ]
  refine wpAnyT_two (i := 0) (j := 4) (by kernel_rfl) ?_ ?_
  · refine wpOp_plain rfl rfl (fun K hK => ?_)
    try simp only [Act.put, List.setIfInBounds_toArray]
    try dsimp only [List.getElem_toArray, List.getElem_cons_succ, List.getElem_cons_zero, List.set_cons_zero, List.set_cons_succ]
    have HKK := Lib.hid hK
    clear hK
    obtain ⟨W1, g33, hr0, ho0, hf0, hg33⟩ := HST0.out w2.heap.size W0 HSa.out.size
    refine wp_build0 rfl _ _ hr0 ?_
    have HS1 := Lib.hid (HSa.out.trans hf0 (fun i hi => hi.elim))
    have HO33 := Lib.hid ho0
    have HG33 := Lib.hid (show g33 = W0.heap.size ∧ w2.heap.size ≤ g33 from ⟨hg33, by rw [hg33]; exact HSa.out.size⟩)
    clear hr0 ho0 hf0 hg33
    refine HKK.out _ _ ⟨fun _ => HS1.out, ?_⟩
    clear HKK K
    try simp only [Act.put, List.setIfInBounds_toArray]
    try dsimp only [List.getElem_toArray, List.getElem_cons_succ, List.getElem_cons_zero, List.set_cons_zero, List.set_cons_succ]
    refine wpAnyT_two (i := 2) (j := 4) (by kernel_rfl) ?_ ?_
    · refine wpOp_plain rfl rfl (fun K hK => ?_)
      try simp only [Act.put, List.setIfInBounds_toArray]
      try dsimp only [List.getElem_toArray, List.getElem_cons_succ, List.getElem_cons_zero, List.set_cons_zero, List.set_cons_succ]
      have HKK := Lib.hid hK
      clear hK
      obtain ⟨v35, W2, hr2, ho2, hf2⟩ := HST2.out g33 W1 HO33.out HS1.out
      refine wp_append_run _ _ rfl _ _ hr2 ?_
      have HS2 := Lib.hid (HS1.out.trans hf2 (fun i hi => .inr (by subst hi; exact HG33.out.2)))
      have HO35 := Lib.hid ho2
      clear hr2 ho2 hf2
      refine HKK.out _ _ ⟨fun _ => HS2.out, ?_⟩
      clear HKK K
      try simp only [Act.put, List.setIfInBounds_toArray]
      try dsimp only [List.getElem_toArray, List.getElem_cons_succ, List.getElem_cons_zero, List.set_cons_zero, List.set_cons_succ]
      refine wpAnyT_one (i := 4) rfl (by kernel_rfl) ?_
      refine wpOp_plain rfl rfl (fun K hK => ?_)
      try simp only [Act.put, List.setIfInBounds_toArray]
      try dsimp only [List.getElem_toArray, List.getElem_cons_succ, List.getElem_cons_zero, List.set_cons_zero, List.set_cons_succ]
      have HKK := Lib.hid hK
      clear hK
      obtain ⟨W3, g37, hr4, hp4, hf4, hg37, hlt37⟩ := HST4.out W2
      refine wp_build1 _ rfl _ _ hr4 ?_
      have HS3 := Lib.hid (HS2.out.trans hf4 (fun i hi => hi.elim))
      have HP := Lib.hid hp4
      have HG37 := Lib.hid (And.intro hg37 hlt37)
      have HO35a := Lib.hid (rowp_keep HO35.out hf4 (fun _ _ => id))
      clear HO35
      have HO35 := HO35a
      clear HO35a
      clear hr4 hp4 hf4 hg37 hlt37
      refine HKK.out _ _ ⟨fun _ => HS3.out, ?_⟩
      clear HKK K
      try simp only [Act.put, List.setIfInBounds_toArray]
      try dsimp only [List.getElem_toArray, List.getElem_cons_succ, List.getElem_cons_zero, List.set_cons_zero, List.set_cons_succ]
      refine wpAnyT_one (i := 5) rfl (by kernel_rfl) ?_
      refine wpOp_plain rfl rfl (fun K hK => ?_)
      try simp only [Act.put, List.setIfInBounds_toArray]
      try dsimp only [List.getElem_toArray, List.getElem_cons_succ, List.getElem_cons_zero, List.set_cons_zero, List.set_cons_succ]
      have HKK := Lib.hid hK
      clear hK
      obtain ⟨v38, W4, hr5, hpv, hf5⟩ := HST5.out v35 (some ⟨g37, 0, none⟩) W3 HO35.out HP.out HS3.out
      refine wp_append_run _ _ rfl _ _ hr5 ?_
      have HS4 := Lib.hid (HS3.out.trans hf5 (fun i hi => .inr (rowp_cells HO35.out i hi).1))
      have HPV := Lib.hid hpv
      clear hr5 hpv hf5
      refine HKK.out _ _ ⟨fun _ => HS4.out, ?_⟩
      clear HKK K
      try simp only [Act.put, List.setIfInBounds_toArray]
      try dsimp only [List.getElem_toArray, List.getElem_cons_succ, List.getElem_cons_zero, List.set_cons_zero, List.set_cons_succ]
      refine wpAnyT_done (by first | rfl | kernel_rfl) _ _ _ ?_
      refine wpAny_take (i := 6) (v := v38) rfl (by kernel_rfl) (by kernel_rfl) (by kernel_rfl) (fun _ _ _ h => h) (.inl ⟨by rfl, fun W' => by go_simp⟩) ?_
      try simp only [Act.put, List.setIfInBounds_toArray]
      try dsimp only [List.getElem_toArray, List.getElem_cons_succ, List.getElem_cons_zero, List.set_cons_zero, List.set_cons_succ]
      refine wpAny_done (by kernel_rfl) ?_ _
      exact HR.out _ _ _ _ _ HPV.out (G2.out.trans HS4.out (fun i hi => hi.elim))
    · refine wpOp_plain rfl rfl (fun K hK => ?_)
      try simp only [Act.put, List.setIfInBounds_toArray]
      try dsimp only [List.getElem_toArray, List.getElem_cons_succ, List.getElem_cons_zero, List.set_cons_zero, List.set_cons_succ]
      have HKK := Lib.hid hK
      clear hK
      obtain ⟨W2, g37, hr4, hp4, hf4, hg37, hlt37⟩ := HST4.out W1
      refine wp_build1 _ rfl _ _ hr4 ?_
      have HS2 := Lib.hid (HS1.out.trans hf4 (fun i hi => hi.elim))
      have HP := Lib.hid hp4
      have HG37 := Lib.hid (And.intro hg37 hlt37)
      have HO33a := Lib.hid (rowp_keep HO33.out hf4 (fun _ _ => id))
      have HNE := Lib.hid (show g37 ≠ g33 by have h1 := hg37; obtain ⟨_, cs, h2⟩ := rowp_cells HO33.out g33 rfl; have h3 := lt_of_heap h2; omega)
      clear HO33
      have HO33 := HO33a
      clear HO33a
      clear hr4 hp4 hf4 hg37 hlt37
      refine HKK.out _ _ ⟨fun _ => HS2.out, ?_⟩
      clear HKK K
      try simp only [Act.put, List.setIfInBounds_toArray]
      try dsimp only [List.getElem_toArray, List.getElem_cons_succ, List.getElem_cons_zero, List.set_cons_zero, List.set_cons_succ]
      refine wpAnyT_one (i := 2) rfl (by kernel_rfl) ?_
      refine wpOp_plain rfl rfl (fun K hK => ?_)
      try simp only [Act.put, List.setIfInBounds_toArray]
      try dsimp only [List.getElem_toArray, List.getElem_cons_succ, List.getElem_cons_zero, List.set_cons_zero, List.set_cons_succ]
      have HKK := Lib.hid hK
      clear hK
      obtain ⟨v35, W3, hr2, ho2, hf2⟩ := HST2.out g33 W2 HO33.out HS2.out
      refine wp_append_run _ _ rfl _ _ hr2 ?_
      have HS3 := Lib.hid (HS2.out.trans hf2 (fun i hi => .inr (by subst hi; exact HG33.out.2)))
      have HO35 := Lib.hid ho2
      have HPa := Lib.hid (HP.out.fr hf2 (fun b off h => by cases h; exact HNE.out))
      clear HP
      have HP := HPa
      clear HPa
      clear hr2 ho2 hf2
      refine HKK.out _ _ ⟨fun _ => HS3.out, ?_⟩
      clear HKK K
      try simp only [Act.put, List.setIfInBounds_toArray]
      try dsimp only [List.getElem_toArray, List.getElem_cons_succ, List.getElem_cons_zero, List.set_cons_zero, List.set_cons_succ]
      refine wpAnyT_one (i := 5) rfl (by kernel_rfl) ?_
      refine wpOp_plain rfl rfl (fun K hK => ?_)
      try simp only [Act.put, List.setIfInBounds_toArray]
      try dsimp only [List.getElem_toArray, List.getElem_cons_succ, List.getElem_cons_zero, List.set_cons_zero, List.set_cons_succ]
      have HKK := Lib.hid hK
      clear hK
      obtain ⟨v38, W4, hr5, hpv, hf5⟩ := HST5.out v35 (some ⟨g37, 0, none⟩) W3 HO35.out HP.out HS3.out
      refine wp_append_run _ _ rfl _ _ hr5 ?_
      have HS4 := Lib.hid (HS3.out.trans hf5 (fun i hi => .inr (rowp_cells HO35.out i hi).1))
      have HPV := Lib.hid hpv
      clear hr5 hpv hf5
      refine HKK.out _ _ ⟨fun _ => HS4.out, ?_⟩
      clear HKK K
      try simp only [Act.put, List.setIfInBounds_toArray]
      try dsimp only [List.getElem_toArray, List.getElem_cons_succ, List.getElem_cons_zero, List.set_cons_zero, List.set_cons_succ]
      refine wpAnyT_done (by first | rfl | kernel_rfl) _ _ _ ?_
      refine wpAny_take (i := 6) (v := v38) rfl (by kernel_rfl) (by kernel_rfl) (by kernel_rfl) (fun _ _ _ h => h) (.inl ⟨by rfl, fun W' => by go_simp⟩) ?_
      try simp only [Act.put, List.setIfInBounds_toArray]
      try dsimp only [List.getElem_toArray, List.getElem_cons_succ, List.getElem_cons_zero, List.set_cons_zero, List.set_cons_succ]
      refine wpAny_done (by kernel_rfl) ?_ _
      exact HR.out _ _ _ _ _ HPV.out (G2.out.trans HS4.out (fun i hi => hi.elim))
  · refine wpOp_plain rfl rfl (fun K hK => ?_)
    try simp only [Act.put, List.setIfInBounds_toArray]
    try dsimp only [List.getElem_toArray, List.getElem_cons_succ, List.getElem_cons_zero, List.set_cons_zero, List.set_cons_succ]
    have HKK := Lib.hid hK
    clear hK
    obtain ⟨W1, g37, hr4, hp4, hf4, hg37, hlt37⟩ := HST4.out W0
    refine wp_build1 _ rfl _ _ hr4 ?_
    have HS1 := Lib.hid (HSa.out.trans hf4 (fun i hi => hi.elim))
    have HP := Lib.hid hp4
    have HG37 := Lib.hid (And.intro hg37 hlt37)
    clear hr4 hp4 hf4 hg37 hlt37
    refine HKK.out _ _ ⟨fun _ => HS1.out, ?_⟩
    clear HKK K
    try simp only [Act.put, List.setIfInBounds_toArray]
    try dsimp only [List.getElem_toArray, List.getElem_cons_succ, List.getElem_cons_zero, List.set_cons_zero, List.set_cons_succ]
    refine wpAnyT_one (i := 0) rfl (by kernel_rfl) ?_
    refine wpOp_plain rfl rfl (fun K hK => ?_)
    try simp only [Act.put, List.setIfInBounds_toArray]
    try dsimp only [List.getElem_toArray, List.getElem_cons_succ, List.getElem_cons_zero, List.set_cons_zero, List.set_cons_succ]
    have HKK := Lib.hid hK
    clear hK
    obtain ⟨W2, g33, hr0, ho0, hf0, hg33⟩ := HST0.out w2.heap.size W1 HS1.out.size
    refine wp_build0 rfl _ _ hr0 ?_
    have HS2 := Lib.hid (HS1.out.trans hf0 (fun i hi => hi.elim))
    have HO33 := Lib.hid ho0
    have HG33 := Lib.hid (show g33 = W1.heap.size ∧ w2.heap.size ≤ g33 from ⟨hg33, by rw [hg33]; exact HS1.out.size⟩)
    have HPa := Lib.hid (HP.out.frF hf0)
    have HNE := Lib.hid (show g37 ≠ g33 by have := HG37.out; omega)
    clear HP
    have HP := HPa
    clear HPa
    clear hr0 ho0 hf0 hg33
    refine HKK.out _ _ ⟨fun _ => HS2.out, ?_⟩
    clear HKK K
    try simp only [Act.put, List.setIfInBounds_toArray]
    try dsimp only [List.getElem_toArray, List.getElem_cons_succ, List.getElem_cons_zero, List.set_cons_zero, List.set_cons_succ]
    refine wpAnyT_one (i := 2) rfl (by kernel_rfl) ?_
    refine wpOp_plain rfl rfl (fun K hK => ?_)
    try simp only [Act.put, List.setIfInBounds_toArray]
    try dsimp only [List.getElem_toArray, List.getElem_cons_succ, List.getElem_cons_zero, List.set_cons_zero, List.set_cons_succ]
    have HKK := Lib.hid hK
    clear hK
    obtain ⟨v35, W3, hr2, ho2, hf2⟩ := HST2.out g33 W2 HO33.out HS2.out
    refine wp_append_run _ _ rfl _ _ hr2 ?_
    have HS3 := Lib.hid (HS2.out.trans hf2 (fun i hi => .inr (by subst hi; exact HG33.out.2)))
    have HO35 := Lib.hid ho2
    have HPa := Lib.hid (HP.out.fr hf2 (fun b off h => by cases h; exact HNE.out))
    clear HP
    have HP := HPa
    clear HPa
    clear hr2 ho2 hf2
    refine HKK.out _ _ ⟨fun _ => HS3.out, ?_⟩
    clear HKK K
    try simp only [Act.put, List.setIfInBounds_toArray]
    try dsimp only [List.getElem_toArray, List.getElem_cons_succ, List.getElem_cons_zero, List.set_cons_zero, List.set_cons_succ]
    refine wpAnyT_one (i := 5) rfl (by kernel_rfl) ?_
    refine wpOp_plain rfl rfl (fun K hK => ?_)
    try simp only [Act.put, List.setIfInBounds_toArray]
    try dsimp only [List.getElem_toArray, List.getElem_cons_succ, List.getElem_cons_zero, List.set_cons_zero, List.set_cons_succ]
    have HKK := Lib.hid hK
    clear hK
    obtain ⟨v38, W4, hr5, hpv, hf5⟩ := HST5.out v35 (some ⟨g37, 0, none⟩) W3 HO35.out HP.out HS3.out
    refine wp_append_run _ _ rfl _ _ hr5 ?_
    have HS4 := Lib.hid (HS3.out.trans hf5 (fun i hi => .inr (rowp_cells HO35.out i hi).1))
    have HPV := Lib.hid hpv
    clear hr5 hpv hf5
    refine HKK.out _ _ ⟨fun _ => HS4.out, ?_⟩
    clear HKK K
    try simp only [Act.put, List.setIfInBounds_toArray]
    try dsimp only [List.getElem_toArray, List.getElem_cons_succ, List.getElem_cons_zero, List.set_cons_zero, List.set_cons_succ]
    refine wpAnyT_done (by first | rfl | kernel_rfl) _ _ _ ?_
    refine wpAny_take (i := 6) (v := v38) rfl (by kernel_rfl) (by kernel_rfl) (by kernel_rfl) (fun _ _ _ h => h) (.inl ⟨by rfl, fun W' => by go_simp⟩) ?_
    try simp only [Act.put, List.setIfInBounds_toArray]
    try dsimp only [List.getElem_toArray, List.getElem_cons_succ, List.getElem_cons_zero, List.set_cons_zero, List.set_cons_succ]
    refine wpAny_done (by kernel_rfl) ?_ _
    exact HR.out _ _ _ _ _ HPV.out (G2.out.trans HS4.out (fun i hi => hi.elim))
theorem more_walk (a : Option Addr) (cap : Nat) (l : List Pr) (KB VB : ByteArray) (x : Int) (SB : ByteArray) (w : World) (hl : PSl w a l) (hlc : l.length ≤ cap) (hcap : cap ≤ 9223372036854775807) :
    Calls Try.prog 10 #[.slice a l.length cap, .agg #[.string KB, .string VB], .int .i64 x, .string SB] w fun e w' => e = .returned (.bool true) ∧ Fr (fun _ => False) w w' := by
  by_cases h : fewB l = false ∨ 200 < KB.size ∨ 200 < VB.size ∨ 200 < SB.size
  · exact more_early a cap l KB VB x SB w hl hlc hcap h
  · have h0 : fewB l = true := by
      cases hh : fewB l with
      | true => rfl
      | false => exact absurd (.inl hh) h
    exact more_main a cap l (KB.data.toList, VB.data.toList) KB VB x SB.data.toList SB w hl hlc hcap (str_bk KB).symm (str_bk VB).symm (str_bk SB).symm h0 (fun k => h (.inr (.inl k))) (fun k => h (.inr (.inr (.inl k)))) (fun k => h (.inr (.inr (.inr k))))
end Go.Proofs.Ythmpmpepokeedaa
