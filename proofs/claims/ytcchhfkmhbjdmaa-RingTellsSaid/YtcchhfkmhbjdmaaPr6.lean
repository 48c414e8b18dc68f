/- RingTells: few and the law's walk. -/
import Derived.Test.YtcchhfkmhbjdmaaPr5
set_option linter.unusedVariables false
set_option linter.unusedSimpArgs false
set_option pp.deepTerms true
set_option pp.maxSteps 100000
namespace Go.Proofs.Ytcchhfkmhbjdmaa
open Go.RowKit
set_option maxRecDepth 20000 in
set_option maxHeartbeats 1000000 in
theorem rfew_yes (n m v : Int) (D O I W X : ByteArray) (w : World) (h0 : D.size ≤ 100) (h1 : O.size ≤ 100) (h2 : I.size ≤ 100) (h3 : W.size ≤ 100) (h4 : X.size ≤ 500) : Calls Try.prog 53 #[.agg #[.int .i64 n, .int .i64 m, .int .i64 v, .string D, .string O, .string I, .string W, .string X]] w fun e w' => e = .returned (.bool true) ∧ Fr (fun _ => False) w w' := by
  have d0 : decide ((D.size : Int) ≤ 100) = true := decide_eq_true (by omega)
  have d1 : decide ((O.size : Int) ≤ 100) = true := decide_eq_true (by omega)
  have d2 : decide ((I.size : Int) ≤ 100) = true := decide_eq_true (by omega)
  have d3 : decide ((W.size : Int) ≤ 100) = true := decide_eq_true (by omega)
  have d4 : decide ((X.size : Int) ≤ 500) = true := decide_eq_true (by omega)
  clear h0 h1 h2 h3 h4
  go_enter Try.func53, Try.ntmps53
  go_wp2_with fail
  go_ret
  exact ⟨rfl, (Fr.refl _ _).alloc _⟩
set_option maxRecDepth 20000 in
set_option maxHeartbeats 1000000 in
theorem rfew_no (n m v : Int) (D O I W X : ByteArray) (w : World) (h : ¬ (D.size ≤ 100 ∧ O.size ≤ 100 ∧ I.size ≤ 100 ∧ W.size ≤ 100 ∧ X.size ≤ 500)) : Calls Try.prog 53 #[.agg #[.int .i64 n, .int .i64 m, .int .i64 v, .string D, .string O, .string I, .string W, .string X]] w fun e w' => e = .returned (.bool false) ∧ Fr (fun _ => False) w w' := by
  by_cases h0 : D.size ≤ 100
  rotate_left
  · have d0 : decide ((D.size : Int) ≤ 100) = false := decide_eq_false (by omega)
    clear h h0
    go_enter Try.func53, Try.ntmps53
    go_wp2_with fail
    go_ret
    exact ⟨rfl, (Fr.refl _ _).alloc _⟩
  by_cases h1 : O.size ≤ 100
  rotate_left
  · have d0 : decide ((D.size : Int) ≤ 100) = true := decide_eq_true (by omega)
    have d1 : decide ((O.size : Int) ≤ 100) = false := decide_eq_false (by omega)
    clear h h0 h1
    go_enter Try.func53, Try.ntmps53
    go_wp2_with fail
    go_ret
    exact ⟨rfl, (Fr.refl _ _).alloc _⟩
  by_cases h2 : I.size ≤ 100
  rotate_left
  · have d0 : decide ((D.size : Int) ≤ 100) = true := decide_eq_true (by omega)
    have d1 : decide ((O.size : Int) ≤ 100) = true := decide_eq_true (by omega)
    have d2 : decide ((I.size : Int) ≤ 100) = false := decide_eq_false (by omega)
    clear h h0 h1 h2
    go_enter Try.func53, Try.ntmps53
    go_wp2_with fail
    go_ret
    exact ⟨rfl, (Fr.refl _ _).alloc _⟩
  by_cases h3 : W.size ≤ 100
  rotate_left
  · have d0 : decide ((D.size : Int) ≤ 100) = true := decide_eq_true (by omega)
    have d1 : decide ((O.size : Int) ≤ 100) = true := decide_eq_true (by omega)
    have d2 : decide ((I.size : Int) ≤ 100) = true := decide_eq_true (by omega)
    have d3 : decide ((W.size : Int) ≤ 100) = false := decide_eq_false (by omega)
    clear h h0 h1 h2 h3
    go_enter Try.func53, Try.ntmps53
    go_wp2_with fail
    go_ret
    exact ⟨rfl, (Fr.refl _ _).alloc _⟩
  by_cases h4 : X.size ≤ 500
  rotate_left
  · have d0 : decide ((D.size : Int) ≤ 100) = true := decide_eq_true (by omega)
    have d1 : decide ((O.size : Int) ≤ 100) = true := decide_eq_true (by omega)
    have d2 : decide ((I.size : Int) ≤ 100) = true := decide_eq_true (by omega)
    have d3 : decide ((W.size : Int) ≤ 100) = true := decide_eq_true (by omega)
    have d4 : decide ((X.size : Int) ≤ 500) = false := decide_eq_false (by omega)
    clear h h0 h1 h2 h3 h4
    go_enter Try.func53, Try.ntmps53
    go_wp2_with fail
    go_ret
    exact ⟨rfl, (Fr.refl _ _).alloc _⟩
  exact absurd ⟨h0, h1, h2, h3, h4⟩ h
set_option maxRecDepth 20000 in
set_option maxHeartbeats 1000000 in
theorem ringlaw_a (U : ByteArray) (n m v : Int) (D O I W X : ByteArray) (w : World) (h : 100 < U.size) : Calls Try.prog 15 #[.string U, .agg #[.int .i64 n, .int .i64 m, .int .i64 v, .string D, .string O, .string I, .string W, .string X]] w fun e w' => e = .returned (.bool true) ∧ Fr (fun _ => False) w w' := by
  have d0 : decide ((100 : Int) < (U.size : Int)) = true := decide_eq_true (by omega)
  obtain ⟨B, hB⟩ : ∃ B, B = w.heap.size := ⟨_, rfl⟩
  have HBk := Lib.hid (show (w.alloc (.cells #[.int .i64 n, .int .i64 m, .int .i64 v, .string D, .string O, .string I, .string W, .string X] 69)).heap[B]? = some (.cells #[.int .i64 n, .int .i64 m, .int .i64 v, .string D, .string O, .string I, .string W, .string X] 69 (0, 0)) by rw [hB]; exact heap_alloc_new _ _)
  have HF0 := Lib.hid ((Fr.refl (fun _ => False) w).alloc (.cells #[.int .i64 n, .int .i64 m, .int .i64 v, .string D, .string O, .string I, .string W, .string X] 69))
  have HB := Lib.hid hB
  clear h hB
  go_enter Try.func15, Try.ntmps15
  go_wp2_with fail
  refine (ring_awake _).mono ?_
  rintro e w1 ⟨rfl, f1⟩
  rw [← HB.out]
  have HB1 := Lib.hid (f1.heap HBk.out id)
  have G1 := Lib.hid (HF0.out.trans f1 (fun i hi => hi.elim))
  clear f1
  go_wp2_with fail
  go_ret
  exact ⟨rfl, G1.out⟩
set_option maxRecDepth 20000 in
set_option maxHeartbeats 1000000 in
theorem ringlaw_b (U : ByteArray) (n m v : Int) (D O I W X : ByteArray) (w : World) (h : ¬ 100 < U.size) (hf : ¬ (D.size ≤ 100 ∧ O.size ≤ 100 ∧ I.size ≤ 100 ∧ W.size ≤ 100 ∧ X.size ≤ 500)) : Calls Try.prog 15 #[.string U, .agg #[.int .i64 n, .int .i64 m, .int .i64 v, .string D, .string O, .string I, .string W, .string X]] w fun e w' => e = .returned (.bool true) ∧ Fr (fun _ => False) w w' := by
  have d0 : decide ((100 : Int) < (U.size : Int)) = false := decide_eq_false (by omega)
  have HFew := Lib.hid (fun w => rfew_no n m v D O I W X w hf)
  obtain ⟨B, hB⟩ : ∃ B, B = w.heap.size := ⟨_, rfl⟩
  have HBk := Lib.hid (show (w.alloc (.cells #[.int .i64 n, .int .i64 m, .int .i64 v, .string D, .string O, .string I, .string W, .string X] 69)).heap[B]? = some (.cells #[.int .i64 n, .int .i64 m, .int .i64 v, .string D, .string O, .string I, .string W, .string X] 69 (0, 0)) by rw [hB]; exact heap_alloc_new _ _)
  have HF0 := Lib.hid ((Fr.refl (fun _ => False) w).alloc (.cells #[.int .i64 n, .int .i64 m, .int .i64 v, .string D, .string O, .string I, .string W, .string X] 69))
  have HB := Lib.hid hB
  clear h hB hf
  go_enter Try.func15, Try.ntmps15
  go_wp2_with fail
  refine (ring_awake _).mono ?_
  rintro e w1 ⟨rfl, f1⟩
  rw [← HB.out]
  have HB1 := Lib.hid (f1.heap HBk.out id)
  have G1 := Lib.hid (HF0.out.trans f1 (fun i hi => hi.elim))
  clear f1
  have qw1_0 : w1.cell? ⟨B, 0, none⟩ = some (.int .i64 n) := (cell_of_row w1 B 0 _ _ _ HB1.out).trans rfl
  have qw1_1 : w1.cell? ⟨B, 1, none⟩ = some (.int .i64 m) := (cell_of_row w1 B 1 _ _ _ HB1.out).trans rfl
  have qw1_2 : w1.cell? ⟨B, 2, none⟩ = some (.int .i64 v) := (cell_of_row w1 B 2 _ _ _ HB1.out).trans rfl
  have qw1_3 : w1.cell? ⟨B, 3, none⟩ = some (.string D) := (cell_of_row w1 B 3 _ _ _ HB1.out).trans rfl
  have qw1_4 : w1.cell? ⟨B, 4, none⟩ = some (.string O) := (cell_of_row w1 B 4 _ _ _ HB1.out).trans rfl
  have qw1_5 : w1.cell? ⟨B, 5, none⟩ = some (.string I) := (cell_of_row w1 B 5 _ _ _ HB1.out).trans rfl
  have qw1_6 : w1.cell? ⟨B, 6, none⟩ = some (.string W) := (cell_of_row w1 B 6 _ _ _ HB1.out).trans rfl
  have qw1_7 : w1.cell? ⟨B, 7, none⟩ = some (.string X) := (cell_of_row w1 B 7 _ _ _ HB1.out).trans rfl
  go_wp2_with fail
  refine (HFew.out _).mono ?_
  rintro e w2 ⟨rfl, f2⟩
  have G2 := Lib.hid (G1.out.trans f2 (fun i hi => hi.elim))
  clear f2
  go_wp2_with fail
  go_ret
  exact ⟨rfl, G2.out⟩
set_option maxRecDepth 20000 in
set_option maxHeartbeats 1000000 in
theorem ringlaw_c (U : ByteArray) (n m v : Int) (D O I W X : ByteArray) (w : World) (h : ¬ 100 < U.size) (hf : D.size ≤ 100 ∧ O.size ≤ 100 ∧ I.size ≤ 100 ∧ W.size ≤ 100 ∧ X.size ≤ 500) (h32 : U.size ≠ 32) : Calls Try.prog 15 #[.string U, .agg #[.int .i64 n, .int .i64 m, .int .i64 v, .string D, .string O, .string I, .string W, .string X]] w fun e w' => e = .returned (.bool true) ∧ Fr (fun _ => False) w w' := by
  have d0 : decide ((100 : Int) < (U.size : Int)) = false := decide_eq_false (by omega)
  have d1 : ((U.size : Int) != 32) = true := by simp; omega
  have HFew := Lib.hid (fun w => rfew_yes n m v D O I W X w hf.1 hf.2.1 hf.2.2.1 hf.2.2.2.1 hf.2.2.2.2)
  have HNew := Lib.hid (fun w => rgnew_no U h32 w)
  obtain ⟨B, hB⟩ : ∃ B, B = w.heap.size := ⟨_, rfl⟩
  have HBk := Lib.hid (show (w.alloc (.cells #[.int .i64 n, .int .i64 m, .int .i64 v, .string D, .string O, .string I, .string W, .string X] 69)).heap[B]? = some (.cells #[.int .i64 n, .int .i64 m, .int .i64 v, .string D, .string O, .string I, .string W, .string X] 69 (0, 0)) by rw [hB]; exact heap_alloc_new _ _)
  have HF0 := Lib.hid ((Fr.refl (fun _ => False) w).alloc (.cells #[.int .i64 n, .int .i64 m, .int .i64 v, .string D, .string O, .string I, .string W, .string X] 69))
  have HB := Lib.hid hB
  clear h hB hf h32
  go_enter Try.func15, Try.ntmps15
  go_wp2_with fail
  refine (ring_awake _).mono ?_
  rintro e w1 ⟨rfl, f1⟩
  rw [← HB.out]
  have HB1 := Lib.hid (f1.heap HBk.out id)
  have G1 := Lib.hid (HF0.out.trans f1 (fun i hi => hi.elim))
  clear f1
  have qw1_0 : w1.cell? ⟨B, 0, none⟩ = some (.int .i64 n) := (cell_of_row w1 B 0 _ _ _ HB1.out).trans rfl
  have qw1_1 : w1.cell? ⟨B, 1, none⟩ = some (.int .i64 m) := (cell_of_row w1 B 1 _ _ _ HB1.out).trans rfl
  have qw1_2 : w1.cell? ⟨B, 2, none⟩ = some (.int .i64 v) := (cell_of_row w1 B 2 _ _ _ HB1.out).trans rfl
  have qw1_3 : w1.cell? ⟨B, 3, none⟩ = some (.string D) := (cell_of_row w1 B 3 _ _ _ HB1.out).trans rfl
  have qw1_4 : w1.cell? ⟨B, 4, none⟩ = some (.string O) := (cell_of_row w1 B 4 _ _ _ HB1.out).trans rfl
  have qw1_5 : w1.cell? ⟨B, 5, none⟩ = some (.string I) := (cell_of_row w1 B 5 _ _ _ HB1.out).trans rfl
  have qw1_6 : w1.cell? ⟨B, 6, none⟩ = some (.string W) := (cell_of_row w1 B 6 _ _ _ HB1.out).trans rfl
  have qw1_7 : w1.cell? ⟨B, 7, none⟩ = some (.string X) := (cell_of_row w1 B 7 _ _ _ HB1.out).trans rfl
  go_wp2_with fail
  refine (HFew.out _).mono ?_
  rintro e w2 ⟨rfl, f2⟩
  have HB2 := Lib.hid (f2.heap HB1.out id)
  have G2 := Lib.hid (G1.out.trans f2 (fun i hi => hi.elim))
  clear f2
  clear qw1_0 qw1_1 qw1_2 qw1_3 qw1_4 qw1_5 qw1_6 qw1_7
  go_wp2_with fail
  refine (HNew.out _).mono ?_
  rintro e w3 ⟨rfl, f3⟩
  have G3 := Lib.hid (G2.out.trans f3 (fun i hi => hi.elim))
  clear f3
  go_wp2_with fail
  go_ret
  exact ⟨rfl, G3.out⟩
theorem ring_picks (U : ByteArray) (n m v : Int) (D O I W X : ByteArray) (hU : U.size = 32) (hf : D.size ≤ 100 ∧ O.size ≤ 100 ∧ I.size ≤ 100 ∧ W.size ≤ 100 ∧ X.size ≤ 500) :
    (∀ w, Calls Try.prog 54 #[.string U] w fun e w' => ∃ R, e = .returned (.tuple #[.pointer (some ⟨R, 0, none⟩), .int .i64 0]) ∧ w'.heap[R]? = some (.cells #[.string U] 132 (0, 0)) ∧ Fr (fun _ => False) w w') ∧
    (∃ (S : ByteArray) (c : Int), (∀ R w', w'.heap[R]? = some (.cells #[.string U] 132 (0, 0)) → Calls Try.prog 55 #[.pointer (some ⟨R, 0, none⟩), .int .i64 n, .string X] w' fun e w'' => e = .returned (.tuple #[.string S, .int .i64 c]) ∧ Fr (fun _ => False) w' w'') ∧
      (∀ w', Calls Try.prog 56 #[.string U, .int .i64 n, .string X] w' fun e w'' => e = .returned (.tuple #[.string S, .int .i64 c]) ∧ Fr (fun _ => False) w' w'')) ∧
    (∃ (S : ByteArray) (c : Int), (∀ R w', w'.heap[R]? = some (.cells #[.string U] 132 (0, 0)) → Calls Try.prog 57 #[.pointer (some ⟨R, 0, none⟩), .int .i64 n, .string D, .string I, .int .i64 v, .string X] w' fun e w'' => e = .returned (.tuple #[.string S, .int .i64 c]) ∧ Fr (fun _ => False) w' w'') ∧
      (∀ w', Calls Try.prog 58 #[.string U, .int .i64 n, .string D, .string I, .int .i64 v, .string X] w' fun e w'' => e = .returned (.tuple #[.string S, .int .i64 c]) ∧ Fr (fun _ => False) w' w'')) ∧
    (∃ (S : ByteArray) (c : Int), (∀ R w', w'.heap[R]? = some (.cells #[.string U] 132 (0, 0)) → Calls Try.prog 59 #[.pointer (some ⟨R, 0, none⟩), .int .i64 n, .string D, .string I, .int .i64 v, .string W] w' fun e w'' => e = .returned (.tuple #[.string S, .int .i64 c]) ∧ Fr (fun _ => False) w' w'') ∧
      (∀ w', Calls Try.prog 60 #[.string U, .int .i64 n, .string D, .string I, .int .i64 v, .string W] w' fun e w'' => e = .returned (.tuple #[.string S, .int .i64 c]) ∧ Fr (fun _ => False) w' w'')) ∧
    (∃ (S : ByteArray) (c : Int), (∀ R w', w'.heap[R]? = some (.cells #[.string U] 132 (0, 0)) → Calls Try.prog 61 #[.pointer (some ⟨R, 0, none⟩), .int .i64 n, .string D, .int .i64 m, .string O, .string I, .int .i64 v, .string W] w' fun e w'' => e = .returned (.tuple #[.string S, .int .i64 c]) ∧ Fr (fun _ => False) w' w'') ∧
      (∀ w', Calls Try.prog 62 #[.string U, .int .i64 n, .string D, .int .i64 m, .string O, .string I, .int .i64 v, .string W] w' fun e w'' => e = .returned (.tuple #[.string S, .int .i64 c]) ∧ Fr (fun _ => False) w' w'')) ∧
    (∃ S : ByteArray, (∀ w', Calls Try.prog 63 #[.string X] w' fun e w'' => e = .returned (.string S) ∧ Fr (fun _ => False) w' w'') ∧ (∀ w', Calls Try.prog 64 #[.string ⟨#[100, 97, 116, 97]⟩, .string X, .string ⟨#[]⟩] w' fun e w'' => e = .returned (.string S) ∧ Fr (fun _ => False) w' w'')) := by
  obtain ⟨u, rfl⟩ := of_str U
  obtain ⟨d, rfl⟩ := of_str D
  obtain ⟨oo, rfl⟩ := of_str O
  obtain ⟨i, rfl⟩ := of_str I
  obtain ⟨ww, rfl⟩ := of_str W
  obtain ⟨x, rfl⟩ := of_str X
  simp only [str_size] at hU hf
  obtain ⟨g1, g2, g3, g4, g5⟩ := hf
  refine ⟨fun w => rgnew_yes u hU w, ?_, ?_, ?_, ?_, ?_⟩
  · exact ⟨_, _, fun R w' hR => domain_all R u n x (by omega) w' hR, fun w' => refdomain_all u n x (by omega) w'⟩
  · exact ⟨_, _, fun R w' hR => backing_all R u n v d i x (by omega) (by omega) w' hR, fun w' => refbacking_all u d i x n v (by omega) (by omega) w'⟩
  · exact ⟨_, _, fun R w' hR => key_all R u n v d i ww (by omega) (by omega) w' hR, fun w' => refkey_all u d i ww n v (by omega) (by omega) w'⟩
  · exact ⟨_, _, fun R w' hR => rewrap_all R u n m v d oo i ww (by omega) (by omega) (by omega) w' hR, fun w' => refrewrap_all u d oo i ww n m v (by omega) (by omega) w'⟩
  · exact ⟨_, fun w' => data_calls x (by omega) w', fun w' => refderived_calls [100, 97, 116, 97] x [] (by simp) (by omega) (by simp) w'⟩
section
variable {P : Program} {ops : Array Oper} {Q : Exit → Act → World → Prop} {md : Region.Mode} {S : World → Prop} {e : Nat}
def edgeB (md : Region.Mode) (ops : Array Oper) (k j : Nat) : Bool := match ops[k]? with
  | some o => o.after.any fun ed => Region.binds md ed && ed.on == j
  | none => false
def pathB (md : Region.Mode) (ops : Array Oper) (i : Nat) : Nat → List Nat → Bool
  | k, [] => edgeB md ops k i
  | k, j :: l => edgeB md ops k j && pathB md ops i j l
theorem reach_of_path {i : Nat} : ∀ (l : List Nat) (k : Nat), pathB md ops i k l = true → ∃ n, reachB md ops i n k = true
  | [], k, h => ⟨1, by
    simp only [pathB, edgeB] at h
    unfold reachB
    cases hk : ops[k]? with
    | none => rw [hk] at h; cases h
    | some o =>
      rw [hk] at h
      obtain ⟨ed, hed, hb⟩ := Array.any_eq_true'.1 h
      simp only [Bool.and_eq_true] at hb
      exact Array.any_eq_true'.2 ⟨ed, hed, by rw [hb.1, hb.2]; rfl⟩⟩
  | j :: l, k, h => by
    simp only [pathB, Bool.and_eq_true] at h
    obtain ⟨n, hn⟩ := reach_of_path l j h.2
    refine ⟨n + 1, ?_⟩
    have h1 := h.1
    unfold edgeB at h1
    unfold reachB
    cases hk : ops[k]? with
    | none => rw [hk] at h1; cases h1
    | some o =>
      rw [hk] at h1
      obtain ⟨ed, hed, hb⟩ := Array.any_eq_true'.1 h1
      simp only [Bool.and_eq_true, beq_iff_eq] at hb
      exact Array.any_eq_true'.2 ⟨ed, hed, by rw [hb.1, hb.2, hn]; simp⟩
/-- Take number i first; that the breaker waits for it is shown by a way. -/
theorem wpAnyT_path {i : Nat} {p : List Nat} {oi : Oper} {v : Value} {fuel : Nat} {listed : Array Bool} {a : Act} {w : World} (hi : ops[i]? = some oi)
    (hb : (Region.noSelect ops && Region.free md ops listed i && (Region.ready md ops listed).contains i && decide (e ≠ i) && decide (listed.size = ops.size) && closedB md ops listed) = true) (hp : pathB md ops i e p = true)
    (hQ : ∀ c a w, Q (.panic c) (a.put oi.dst v) w → Q (.panic c) a w) (hS : S w) (hy : YieldsIf P ops S oi v a)
    (h : wpAnyT P md ops Q S e fuel (listed.setIfInBounds i true) (a.put oi.dst v) w) : wpAnyT P md ops Q S e (fuel + 1) listed a w := by
  simp only [Bool.and_eq_true, decide_eq_true_eq] at hb
  obtain ⟨⟨⟨⟨⟨hs, hf⟩, hr⟩, hei⟩, hsz⟩, hc⟩ := hb
  obtain ⟨n, hw⟩ := reach_of_path p e hp
  exact wpAnyT_first hi (Region.noSelect_spec hs) hQ hw hei fuel listed a w hsz (closed_of hc) (Region.free_spec hi hf) (by simpa using hr) hy hS h
theorem wpOp_guarded {i : Nat} {o : Oper} {a : Act} {w : World} {K0 : Act → World → Prop} (hi : ops[i]? = some o) (hg : Region.wanted o (yielded ops a.tmps) = true) (h : ∀ K : Act → World → Prop, (∀ a' w', K0 a' w' → K a' w') → o.wp P a w K Q) : wpOp P ops Q i K0 a w := by
  unfold wpOp
  simp only [hi]
  rw [if_pos hg]
  exact .inl (h _ (fun _ _ h => h))
end
set_option maxRecDepth 20000 in
set_option maxHeartbeats 4000000 in
theorem ringlaw_d (U : ByteArray) (n m v : Int) (D O I W X : ByteArray) (w : World) (hf : D.size ≤ 100 ∧ O.size ≤ 100 ∧ I.size ≤ 100 ∧ W.size ≤ 100 ∧ X.size ≤ 500) (h32 : U.size = 32) : Calls Try.prog 15 #[.string U, .agg #[.int .i64 n, .int .i64 m, .int .i64 v, .string D, .string O, .string I, .string W, .string X]] w fun e w' => e = .returned (.bool true) ∧ Fr (fun _ => False) w w' := by
  have d0 : decide ((100 : Int) < (U.size : Int)) = false := decide_eq_false (by omega)
  have d1 : ((U.size : Int) != 32) = false := by rw [h32]; rfl
  have HFew := Lib.hid (fun w => rfew_yes n m v D O I W X w hf.1 hf.2.1 hf.2.2.1 hf.2.2.2.1 hf.2.2.2.2)
  obtain ⟨hn, ⟨S1, c1, p1, r1⟩, ⟨S2, c2, p2, r2⟩, ⟨S3, c3, p3, r3⟩, ⟨S4, c4, p4, r4⟩, S5, p5, r5⟩ := ring_picks U n m v D O I W X h32 hf
  have HNew := Lib.hid hn
  have P1 := Lib.hid p1
  have Q1 := Lib.hid r1
  have P2 := Lib.hid p2
  have Q2 := Lib.hid r2
  have P3 := Lib.hid p3
  have Q3 := Lib.hid r3
  have P4 := Lib.hid p4
  have Q4 := Lib.hid r4
  have P5 := Lib.hid p5
  have Q5 := Lib.hid r5
  obtain ⟨B, hB⟩ : ∃ B, B = w.heap.size := ⟨_, rfl⟩
  have HBk := Lib.hid (show (w.alloc (.cells #[.int .i64 n, .int .i64 m, .int .i64 v, .string D, .string O, .string I, .string W, .string X] 69)).heap[B]? = some (.cells #[.int .i64 n, .int .i64 m, .int .i64 v, .string D, .string O, .string I, .string W, .string X] 69 (0, 0)) by rw [hB]; exact heap_alloc_new _ _)
  have HF0 := Lib.hid ((Fr.refl (fun _ => False) w).alloc (.cells #[.int .i64 n, .int .i64 m, .int .i64 v, .string D, .string O, .string I, .string W, .string X] 69))
  have HB := Lib.hid hB
  clear hB hf h32 hn p1 p2 p3 p4 p5 r1 r2 r3 r4 r5
  go_enter Try.func15, Try.ntmps15
  go_wp2_with fail
  refine (ring_awake _).mono ?_
  rintro e w1 ⟨rfl, f1⟩
  rw [← HB.out]
  have HB1 := Lib.hid (f1.heap HBk.out id)
  have G1 := Lib.hid (HF0.out.trans f1 (fun i hi => hi.elim))
  clear f1
  have qw1_0 : w1.cell? ⟨B, 0, none⟩ = some (.int .i64 n) := (cell_of_row w1 B 0 _ _ _ HB1.out).trans rfl
  have qw1_1 : w1.cell? ⟨B, 1, none⟩ = some (.int .i64 m) := (cell_of_row w1 B 1 _ _ _ HB1.out).trans rfl
  have qw1_2 : w1.cell? ⟨B, 2, none⟩ = some (.int .i64 v) := (cell_of_row w1 B 2 _ _ _ HB1.out).trans rfl
  have qw1_3 : w1.cell? ⟨B, 3, none⟩ = some (.string D) := (cell_of_row w1 B 3 _ _ _ HB1.out).trans rfl
  have qw1_4 : w1.cell? ⟨B, 4, none⟩ = some (.string O) := (cell_of_row w1 B 4 _ _ _ HB1.out).trans rfl
  have qw1_5 : w1.cell? ⟨B, 5, none⟩ = some (.string I) := (cell_of_row w1 B 5 _ _ _ HB1.out).trans rfl
  have qw1_6 : w1.cell? ⟨B, 6, none⟩ = some (.string W) := (cell_of_row w1 B 6 _ _ _ HB1.out).trans rfl
  have qw1_7 : w1.cell? ⟨B, 7, none⟩ = some (.string X) := (cell_of_row w1 B 7 _ _ _ HB1.out).trans rfl
  go_wp2_with fail
  refine (HFew.out _).mono ?_
  rintro e w2 ⟨rfl, f2⟩
  have HB2 := Lib.hid (f2.heap HB1.out id)
  have G2 := Lib.hid (G1.out.trans f2 (fun i hi => hi.elim))
  clear f2
  clear qw1_0 qw1_1 qw1_2 qw1_3 qw1_4 qw1_5 qw1_6 qw1_7
  go_wp2_with fail
  refine (HNew.out _).mono ?_
  rintro e w3 ⟨R, rfl, hR, f3⟩
  have HR3 := Lib.hid hR
  have HB3 := Lib.hid (f3.heap HB2.out id)
  have G3 := Lib.hid (G2.out.trans f3 (fun i hi => hi.elim))
  clear f3 hR
  have qw3_0 : w3.cell? ⟨B, 0, none⟩ = some (.int .i64 n) := (cell_of_row w3 B 0 _ _ _ HB3.out).trans rfl
  have qw3_1 : w3.cell? ⟨B, 1, none⟩ = some (.int .i64 m) := (cell_of_row w3 B 1 _ _ _ HB3.out).trans rfl
  have qw3_2 : w3.cell? ⟨B, 2, none⟩ = some (.int .i64 v) := (cell_of_row w3 B 2 _ _ _ HB3.out).trans rfl
  have qw3_3 : w3.cell? ⟨B, 3, none⟩ = some (.string D) := (cell_of_row w3 B 3 _ _ _ HB3.out).trans rfl
  have qw3_4 : w3.cell? ⟨B, 4, none⟩ = some (.string O) := (cell_of_row w3 B 4 _ _ _ HB3.out).trans rfl
  have qw3_5 : w3.cell? ⟨B, 5, none⟩ = some (.string I) := (cell_of_row w3 B 5 _ _ _ HB3.out).trans rfl
  have qw3_6 : w3.cell? ⟨B, 6, none⟩ = some (.string W) := (cell_of_row w3 B 6 _ _ _ HB3.out).trans rfl
  have qw3_7 : w3.cell? ⟨B, 7, none⟩ = some (.string X) := (cell_of_row w3 B 7 _ _ _ HB3.out).trans rfl
  go_wp2_with fail
  refine (P1.out R w3 HR3.out).mono ?_
  rintro e w4 ⟨rfl, f4⟩
  have HR4 := Lib.hid (f4.heap HR3.out id)
  have HB4 := Lib.hid (f4.heap HB3.out id)
  have G4 := Lib.hid (G3.out.trans f4 (fun i hi => hi.elim))
  clear f4
  clear qw3_0 qw3_1 qw3_2 qw3_3 qw3_4 qw3_5 qw3_6 qw3_7
  have qw4_0 : w4.cell? ⟨B, 0, none⟩ = some (.int .i64 n) := (cell_of_row w4 B 0 _ _ _ HB4.out).trans rfl
  have qw4_1 : w4.cell? ⟨B, 1, none⟩ = some (.int .i64 m) := (cell_of_row w4 B 1 _ _ _ HB4.out).trans rfl
  have qw4_2 : w4.cell? ⟨B, 2, none⟩ = some (.int .i64 v) := (cell_of_row w4 B 2 _ _ _ HB4.out).trans rfl
  have qw4_3 : w4.cell? ⟨B, 3, none⟩ = some (.string D) := (cell_of_row w4 B 3 _ _ _ HB4.out).trans rfl
  have qw4_4 : w4.cell? ⟨B, 4, none⟩ = some (.string O) := (cell_of_row w4 B 4 _ _ _ HB4.out).trans rfl
  have qw4_5 : w4.cell? ⟨B, 5, none⟩ = some (.string I) := (cell_of_row w4 B 5 _ _ _ HB4.out).trans rfl
  have qw4_6 : w4.cell? ⟨B, 6, none⟩ = some (.string W) := (cell_of_row w4 B 6 _ _ _ HB4.out).trans rfl
  have qw4_7 : w4.cell? ⟨B, 7, none⟩ = some (.string X) := (cell_of_row w4 B 7 _ _ _ HB4.out).trans rfl
  go_wp2_with fail
  refine (Q1.out w4).mono ?_
  rintro e w5 ⟨rfl, f5⟩
  have HR5 := Lib.hid (f5.heap HR4.out id)
  have HB5 := Lib.hid (f5.heap HB4.out id)
  have G5 := Lib.hid (G4.out.trans f5 (fun i hi => hi.elim))
  clear f5
  clear qw4_0 qw4_1 qw4_2 qw4_3 qw4_4 qw4_5 qw4_6 qw4_7
  have qw5_0 : w5.cell? ⟨B, 0, none⟩ = some (.int .i64 n) := (cell_of_row w5 B 0 _ _ _ HB5.out).trans rfl
  have qw5_1 : w5.cell? ⟨B, 1, none⟩ = some (.int .i64 m) := (cell_of_row w5 B 1 _ _ _ HB5.out).trans rfl
  have qw5_2 : w5.cell? ⟨B, 2, none⟩ = some (.int .i64 v) := (cell_of_row w5 B 2 _ _ _ HB5.out).trans rfl
  have qw5_3 : w5.cell? ⟨B, 3, none⟩ = some (.string D) := (cell_of_row w5 B 3 _ _ _ HB5.out).trans rfl
  have qw5_4 : w5.cell? ⟨B, 4, none⟩ = some (.string O) := (cell_of_row w5 B 4 _ _ _ HB5.out).trans rfl
  have qw5_5 : w5.cell? ⟨B, 5, none⟩ = some (.string I) := (cell_of_row w5 B 5 _ _ _ HB5.out).trans rfl
  have qw5_6 : w5.cell? ⟨B, 6, none⟩ = some (.string W) := (cell_of_row w5 B 6 _ _ _ HB5.out).trans rfl
  have qw5_7 : w5.cell? ⟨B, 7, none⟩ = some (.string X) := (cell_of_row w5 B 7 _ _ _ HB5.out).trans rfl
  go_wp2_with fail
  refine (P2.out R w5 HR5.out).mono ?_
  rintro e w6 ⟨rfl, f6⟩
  have HR6 := Lib.hid (f6.heap HR5.out id)
  have HB6 := Lib.hid (f6.heap HB5.out id)
  have G6 := Lib.hid (G5.out.trans f6 (fun i hi => hi.elim))
  clear f6
  clear qw5_0 qw5_1 qw5_2 qw5_3 qw5_4 qw5_5 qw5_6 qw5_7
  have qw6_0 : w6.cell? ⟨B, 0, none⟩ = some (.int .i64 n) := (cell_of_row w6 B 0 _ _ _ HB6.out).trans rfl
  have qw6_1 : w6.cell? ⟨B, 1, none⟩ = some (.int .i64 m) := (cell_of_row w6 B 1 _ _ _ HB6.out).trans rfl
  have qw6_2 : w6.cell? ⟨B, 2, none⟩ = some (.int .i64 v) := (cell_of_row w6 B 2 _ _ _ HB6.out).trans rfl
  have qw6_3 : w6.cell? ⟨B, 3, none⟩ = some (.string D) := (cell_of_row w6 B 3 _ _ _ HB6.out).trans rfl
  have qw6_4 : w6.cell? ⟨B, 4, none⟩ = some (.string O) := (cell_of_row w6 B 4 _ _ _ HB6.out).trans rfl
  have qw6_5 : w6.cell? ⟨B, 5, none⟩ = some (.string I) := (cell_of_row w6 B 5 _ _ _ HB6.out).trans rfl
  have qw6_6 : w6.cell? ⟨B, 6, none⟩ = some (.string W) := (cell_of_row w6 B 6 _ _ _ HB6.out).trans rfl
  have qw6_7 : w6.cell? ⟨B, 7, none⟩ = some (.string X) := (cell_of_row w6 B 7 _ _ _ HB6.out).trans rfl
  go_wp2_with fail
  refine (Q2.out w6).mono ?_
  rintro e w7 ⟨rfl, f7⟩
  have HR7 := Lib.hid (f7.heap HR6.out id)
  have HB7 := Lib.hid (f7.heap HB6.out id)
  have G7 := Lib.hid (G6.out.trans f7 (fun i hi => hi.elim))
  clear f7
  clear qw6_0 qw6_1 qw6_2 qw6_3 qw6_4 qw6_5 qw6_6 qw6_7
  have qw7_0 : w7.cell? ⟨B, 0, none⟩ = some (.int .i64 n) := (cell_of_row w7 B 0 _ _ _ HB7.out).trans rfl
  have qw7_1 : w7.cell? ⟨B, 1, none⟩ = some (.int .i64 m) := (cell_of_row w7 B 1 _ _ _ HB7.out).trans rfl
  have qw7_2 : w7.cell? ⟨B, 2, none⟩ = some (.int .i64 v) := (cell_of_row w7 B 2 _ _ _ HB7.out).trans rfl
  have qw7_3 : w7.cell? ⟨B, 3, none⟩ = some (.string D) := (cell_of_row w7 B 3 _ _ _ HB7.out).trans rfl
  have qw7_4 : w7.cell? ⟨B, 4, none⟩ = some (.string O) := (cell_of_row w7 B 4 _ _ _ HB7.out).trans rfl
  have qw7_5 : w7.cell? ⟨B, 5, none⟩ = some (.string I) := (cell_of_row w7 B 5 _ _ _ HB7.out).trans rfl
  have qw7_6 : w7.cell? ⟨B, 6, none⟩ = some (.string W) := (cell_of_row w7 B 6 _ _ _ HB7.out).trans rfl
  have qw7_7 : w7.cell? ⟨B, 7, none⟩ = some (.string X) := (cell_of_row w7 B 7 _ _ _ HB7.out).trans rfl
  go_wp2_with fail
  refine (P3.out R w7 HR7.out).mono ?_
  rintro e w8 ⟨rfl, f8⟩
  have HR8 := Lib.hid (f8.heap HR7.out id)
  have HB8 := Lib.hid (f8.heap HB7.out id)
  have G8 := Lib.hid (G7.out.trans f8 (fun i hi => hi.elim))
  clear f8
  clear qw7_0 qw7_1 qw7_2 qw7_3 qw7_4 qw7_5 qw7_6 qw7_7
  have qw8_0 : w8.cell? ⟨B, 0, none⟩ = some (.int .i64 n) := (cell_of_row w8 B 0 _ _ _ HB8.out).trans rfl
  have qw8_1 : w8.cell? ⟨B, 1, none⟩ = some (.int .i64 m) := (cell_of_row w8 B 1 _ _ _ HB8.out).trans rfl
  have qw8_2 : w8.cell? ⟨B, 2, none⟩ = some (.int .i64 v) := (cell_of_row w8 B 2 _ _ _ HB8.out).trans rfl
  have qw8_3 : w8.cell? ⟨B, 3, none⟩ = some (.string D) := (cell_of_row w8 B 3 _ _ _ HB8.out).trans rfl
  have qw8_4 : w8.cell? ⟨B, 4, none⟩ = some (.string O) := (cell_of_row w8 B 4 _ _ _ HB8.out).trans rfl
  have qw8_5 : w8.cell? ⟨B, 5, none⟩ = some (.string I) := (cell_of_row w8 B 5 _ _ _ HB8.out).trans rfl
  have qw8_6 : w8.cell? ⟨B, 6, none⟩ = some (.string W) := (cell_of_row w8 B 6 _ _ _ HB8.out).trans rfl
  have qw8_7 : w8.cell? ⟨B, 7, none⟩ = some (.string X) := (cell_of_row w8 B 7 _ _ _ HB8.out).trans rfl
  go_wp2_with fail
  refine (Q3.out w8).mono ?_
  rintro e w9 ⟨rfl, f9⟩
  have HR9 := Lib.hid (f9.heap HR8.out id)
  have HB9 := Lib.hid (f9.heap HB8.out id)
  have G9 := Lib.hid (G8.out.trans f9 (fun i hi => hi.elim))
  clear f9
  clear qw8_0 qw8_1 qw8_2 qw8_3 qw8_4 qw8_5 qw8_6 qw8_7
  have qw9_0 : w9.cell? ⟨B, 0, none⟩ = some (.int .i64 n) := (cell_of_row w9 B 0 _ _ _ HB9.out).trans rfl
  have qw9_1 : w9.cell? ⟨B, 1, none⟩ = some (.int .i64 m) := (cell_of_row w9 B 1 _ _ _ HB9.out).trans rfl
  have qw9_2 : w9.cell? ⟨B, 2, none⟩ = some (.int .i64 v) := (cell_of_row w9 B 2 _ _ _ HB9.out).trans rfl
  have qw9_3 : w9.cell? ⟨B, 3, none⟩ = some (.string D) := (cell_of_row w9 B 3 _ _ _ HB9.out).trans rfl
  have qw9_4 : w9.cell? ⟨B, 4, none⟩ = some (.string O) := (cell_of_row w9 B 4 _ _ _ HB9.out).trans rfl
  have qw9_5 : w9.cell? ⟨B, 5, none⟩ = some (.string I) := (cell_of_row w9 B 5 _ _ _ HB9.out).trans rfl
  have qw9_6 : w9.cell? ⟨B, 6, none⟩ = some (.string W) := (cell_of_row w9 B 6 _ _ _ HB9.out).trans rfl
  have qw9_7 : w9.cell? ⟨B, 7, none⟩ = some (.string X) := (cell_of_row w9 B 7 _ _ _ HB9.out).trans rfl
  go_wp2_with fail
  refine (P4.out R w9 HR9.out).mono ?_
  rintro e w10 ⟨rfl, f10⟩
  have HR10 := Lib.hid (f10.heap HR9.out id)
  have HB10 := Lib.hid (f10.heap HB9.out id)
  have G10 := Lib.hid (G9.out.trans f10 (fun i hi => hi.elim))
  clear f10
  clear qw9_0 qw9_1 qw9_2 qw9_3 qw9_4 qw9_5 qw9_6 qw9_7
  have qw10_0 : w10.cell? ⟨B, 0, none⟩ = some (.int .i64 n) := (cell_of_row w10 B 0 _ _ _ HB10.out).trans rfl
  have qw10_1 : w10.cell? ⟨B, 1, none⟩ = some (.int .i64 m) := (cell_of_row w10 B 1 _ _ _ HB10.out).trans rfl
  have qw10_2 : w10.cell? ⟨B, 2, none⟩ = some (.int .i64 v) := (cell_of_row w10 B 2 _ _ _ HB10.out).trans rfl
  have qw10_3 : w10.cell? ⟨B, 3, none⟩ = some (.string D) := (cell_of_row w10 B 3 _ _ _ HB10.out).trans rfl
  have qw10_4 : w10.cell? ⟨B, 4, none⟩ = some (.string O) := (cell_of_row w10 B 4 _ _ _ HB10.out).trans rfl
  have qw10_5 : w10.cell? ⟨B, 5, none⟩ = some (.string I) := (cell_of_row w10 B 5 _ _ _ HB10.out).trans rfl
  have qw10_6 : w10.cell? ⟨B, 6, none⟩ = some (.string W) := (cell_of_row w10 B 6 _ _ _ HB10.out).trans rfl
  have qw10_7 : w10.cell? ⟨B, 7, none⟩ = some (.string X) := (cell_of_row w10 B 7 _ _ _ HB10.out).trans rfl
  go_wp2_with fail
  refine (Q4.out w10).mono ?_
  rintro e w11 ⟨rfl, f11⟩
  have HR11 := Lib.hid (f11.heap HR10.out id)
  have HB11 := Lib.hid (f11.heap HB10.out id)
  have G11 := Lib.hid (G10.out.trans f11 (fun i hi => hi.elim))
  clear f11
  clear qw10_0 qw10_1 qw10_2 qw10_3 qw10_4 qw10_5 qw10_6 qw10_7
  go_wp2_with fail
  refine wp_region_till (fun W' => Fr (fun _ => False) w11.drew W') 44 (by kernel_rfl) ?_
  have HQ7 : Hid (w11.drew.cell? ⟨B, 7, none⟩ = some (.string X)) := Lib.hid ((cell_of_row w11 B 7 _ _ _ HB11.out).trans rfl)
  have HS0 := Lib.hid (Fr.refl (fun _ => False) w11.drew)
  refine wpAnyT_path (i := 0) (p := [38, 33, 28, 23, 18, 13, 8, 3, 2]) (v := .string S1) rfl (by kernel_rfl) (by kernel_rfl) (fun _ _ _ h => h) HS0.out (.inl ⟨by rfl, fun W' hW => by clear hW; go_simp⟩) ?_
  try simp only [Act.put, List.setIfInBounds_toArray]
  try dsimp only [List.getElem_toArray, List.getElem_cons_succ, List.getElem_cons_zero, List.set_cons_zero, List.set_cons_succ]
  refine wpAnyT_path (i := 1) (p := [38, 33, 28, 23, 18, 13, 8, 3, 2]) (v := .string S1) rfl (by kernel_rfl) (by kernel_rfl) (fun _ _ _ h => h) HS0.out (.inl ⟨by rfl, fun W' hW => by clear hW; go_simp⟩) ?_
  try simp only [Act.put, List.setIfInBounds_toArray]
  try dsimp only [List.getElem_toArray, List.getElem_cons_succ, List.getElem_cons_zero, List.set_cons_zero, List.set_cons_succ]
  refine wpAnyT_path (i := 2) (p := [38, 33, 28, 23, 18, 13, 8, 3]) (v := .bool true) rfl (by kernel_rfl) (by kernel_rfl) (fun _ _ _ h => h) HS0.out (.inl ⟨by rfl, fun W' hW => by clear hW; go_simp⟩) ?_
  try simp only [Act.put, List.setIfInBounds_toArray]
  try dsimp only [List.getElem_toArray, List.getElem_cons_succ, List.getElem_cons_zero, List.set_cons_zero, List.set_cons_succ]
  refine wpAnyT_path (i := 3) (p := [38, 33, 28, 23, 18, 13, 8]) (v := .bool true) rfl (by kernel_rfl) (by kernel_rfl) (fun _ _ _ h => h) HS0.out (.inl ⟨by rfl, fun W' hW => by clear hW; go_simp⟩) ?_
  try simp only [Act.put, List.setIfInBounds_toArray]
  try dsimp only [List.getElem_toArray, List.getElem_cons_succ, List.getElem_cons_zero, List.set_cons_zero, List.set_cons_succ]
  refine wpAnyT_path (i := 4) (p := [38, 33, 28, 23, 18, 13, 8, 7, 6]) (v := .int .i64 c1) rfl (by kernel_rfl) (by kernel_rfl) (fun _ _ _ h => h) HS0.out (.inl ⟨by rfl, fun W' hW => by clear hW; go_simp⟩) ?_
  try simp only [Act.put, List.setIfInBounds_toArray]
  try dsimp only [List.getElem_toArray, List.getElem_cons_succ, List.getElem_cons_zero, List.set_cons_zero, List.set_cons_succ]
  refine wpAnyT_path (i := 5) (p := [38, 33, 28, 23, 18, 13, 8, 7, 6]) (v := .int .i64 c1) rfl (by kernel_rfl) (by kernel_rfl) (fun _ _ _ h => h) HS0.out (.inl ⟨by rfl, fun W' hW => by clear hW; go_simp⟩) ?_
  try simp only [Act.put, List.setIfInBounds_toArray]
  try dsimp only [List.getElem_toArray, List.getElem_cons_succ, List.getElem_cons_zero, List.set_cons_zero, List.set_cons_succ]
  refine wpAnyT_path (i := 6) (p := [38, 33, 28, 23, 18, 13, 8, 7]) (v := .bool true) rfl (by kernel_rfl) (by kernel_rfl) (fun _ _ _ h => h) HS0.out (.inl ⟨by rfl, fun W' hW => by clear hW; go_simp⟩) ?_
  try simp only [Act.put, List.setIfInBounds_toArray]
  try dsimp only [List.getElem_toArray, List.getElem_cons_succ, List.getElem_cons_zero, List.set_cons_zero, List.set_cons_succ]
  refine wpAnyT_path (i := 7) (p := [38, 33, 28, 23, 18, 13, 8]) (v := .bool true) rfl (by kernel_rfl) (by kernel_rfl) (fun _ _ _ h => h) HS0.out (.inl ⟨by rfl, fun W' hW => by clear hW; go_simp⟩) ?_
  try simp only [Act.put, List.setIfInBounds_toArray]
  try dsimp only [List.getElem_toArray, List.getElem_cons_succ, List.getElem_cons_zero, List.set_cons_zero, List.set_cons_succ]
  refine wpAnyT_path (i := 8) (p := [38, 33, 28, 23, 18, 13]) (v := .bool true) rfl (by kernel_rfl) (by kernel_rfl) (fun _ _ _ h => h) HS0.out (.inl ⟨by rfl, fun W' hW => by clear hW; go_simp⟩) ?_
  try simp only [Act.put, List.setIfInBounds_toArray]
  try dsimp only [List.getElem_toArray, List.getElem_cons_succ, List.getElem_cons_zero, List.set_cons_zero, List.set_cons_succ]
  refine wpAnyT_path (i := 9) (p := [38, 33, 28, 23, 18, 13, 12, 11]) (v := .string S2) rfl (by kernel_rfl) (by kernel_rfl) (fun _ _ _ h => h) HS0.out (.inl ⟨by rfl, fun W' hW => by clear hW; go_simp⟩) ?_
  try simp only [Act.put, List.setIfInBounds_toArray]
  try dsimp only [List.getElem_toArray, List.getElem_cons_succ, List.getElem_cons_zero, List.set_cons_zero, List.set_cons_succ]
  refine wpAnyT_path (i := 10) (p := [38, 33, 28, 23, 18, 13, 12, 11]) (v := .string S2) rfl (by kernel_rfl) (by kernel_rfl) (fun _ _ _ h => h) HS0.out (.inl ⟨by rfl, fun W' hW => by clear hW; go_simp⟩) ?_
  try simp only [Act.put, List.setIfInBounds_toArray]
  try dsimp only [List.getElem_toArray, List.getElem_cons_succ, List.getElem_cons_zero, List.set_cons_zero, List.set_cons_succ]
  refine wpAnyT_path (i := 11) (p := [38, 33, 28, 23, 18, 13, 12]) (v := .bool true) rfl (by kernel_rfl) (by kernel_rfl) (fun _ _ _ h => h) HS0.out (.inl ⟨by rfl, fun W' hW => by clear hW; go_simp⟩) ?_
  try simp only [Act.put, List.setIfInBounds_toArray]
  try dsimp only [List.getElem_toArray, List.getElem_cons_succ, List.getElem_cons_zero, List.set_cons_zero, List.set_cons_succ]
  refine wpAnyT_path (i := 12) (p := [38, 33, 28, 23, 18, 13]) (v := .bool true) rfl (by kernel_rfl) (by kernel_rfl) (fun _ _ _ h => h) HS0.out (.inl ⟨by rfl, fun W' hW => by clear hW; go_simp⟩) ?_
  try simp only [Act.put, List.setIfInBounds_toArray]
  try dsimp only [List.getElem_toArray, List.getElem_cons_succ, List.getElem_cons_zero, List.set_cons_zero, List.set_cons_succ]
  refine wpAnyT_path (i := 13) (p := [38, 33, 28, 23, 18]) (v := .bool true) rfl (by kernel_rfl) (by kernel_rfl) (fun _ _ _ h => h) HS0.out (.inl ⟨by rfl, fun W' hW => by clear hW; go_simp⟩) ?_
  try simp only [Act.put, List.setIfInBounds_toArray]
  try dsimp only [List.getElem_toArray, List.getElem_cons_succ, List.getElem_cons_zero, List.set_cons_zero, List.set_cons_succ]
  refine wpAnyT_path (i := 14) (p := [38, 33, 28, 23, 18, 17, 16]) (v := .int .i64 c2) rfl (by kernel_rfl) (by kernel_rfl) (fun _ _ _ h => h) HS0.out (.inl ⟨by rfl, fun W' hW => by clear hW; go_simp⟩) ?_
  try simp only [Act.put, List.setIfInBounds_toArray]
  try dsimp only [List.getElem_toArray, List.getElem_cons_succ, List.getElem_cons_zero, List.set_cons_zero, List.set_cons_succ]
  refine wpAnyT_path (i := 15) (p := [38, 33, 28, 23, 18, 17, 16]) (v := .int .i64 c2) rfl (by kernel_rfl) (by kernel_rfl) (fun _ _ _ h => h) HS0.out (.inl ⟨by rfl, fun W' hW => by clear hW; go_simp⟩) ?_
  try simp only [Act.put, List.setIfInBounds_toArray]
  try dsimp only [List.getElem_toArray, List.getElem_cons_succ, List.getElem_cons_zero, List.set_cons_zero, List.set_cons_succ]
  refine wpAnyT_path (i := 16) (p := [38, 33, 28, 23, 18, 17]) (v := .bool true) rfl (by kernel_rfl) (by kernel_rfl) (fun _ _ _ h => h) HS0.out (.inl ⟨by rfl, fun W' hW => by clear hW; go_simp⟩) ?_
  try simp only [Act.put, List.setIfInBounds_toArray]
  try dsimp only [List.getElem_toArray, List.getElem_cons_succ, List.getElem_cons_zero, List.set_cons_zero, List.set_cons_succ]
  refine wpAnyT_path (i := 17) (p := [38, 33, 28, 23, 18]) (v := .bool true) rfl (by kernel_rfl) (by kernel_rfl) (fun _ _ _ h => h) HS0.out (.inl ⟨by rfl, fun W' hW => by clear hW; go_simp⟩) ?_
  try simp only [Act.put, List.setIfInBounds_toArray]
  try dsimp only [List.getElem_toArray, List.getElem_cons_succ, List.getElem_cons_zero, List.set_cons_zero, List.set_cons_succ]
  refine wpAnyT_path (i := 18) (p := [38, 33, 28, 23]) (v := .bool true) rfl (by kernel_rfl) (by kernel_rfl) (fun _ _ _ h => h) HS0.out (.inl ⟨by rfl, fun W' hW => by clear hW; go_simp⟩) ?_
  try simp only [Act.put, List.setIfInBounds_toArray]
  try dsimp only [List.getElem_toArray, List.getElem_cons_succ, List.getElem_cons_zero, List.set_cons_zero, List.set_cons_succ]
  refine wpAnyT_path (i := 19) (p := [38, 33, 28, 23, 22, 21]) (v := .string S3) rfl (by kernel_rfl) (by kernel_rfl) (fun _ _ _ h => h) HS0.out (.inl ⟨by rfl, fun W' hW => by clear hW; go_simp⟩) ?_
  try simp only [Act.put, List.setIfInBounds_toArray]
  try dsimp only [List.getElem_toArray, List.getElem_cons_succ, List.getElem_cons_zero, List.set_cons_zero, List.set_cons_succ]
  refine wpAnyT_path (i := 20) (p := [38, 33, 28, 23, 22, 21]) (v := .string S3) rfl (by kernel_rfl) (by kernel_rfl) (fun _ _ _ h => h) HS0.out (.inl ⟨by rfl, fun W' hW => by clear hW; go_simp⟩) ?_
  try simp only [Act.put, List.setIfInBounds_toArray]
  try dsimp only [List.getElem_toArray, List.getElem_cons_succ, List.getElem_cons_zero, List.set_cons_zero, List.set_cons_succ]
  refine wpAnyT_path (i := 21) (p := [38, 33, 28, 23, 22]) (v := .bool true) rfl (by kernel_rfl) (by kernel_rfl) (fun _ _ _ h => h) HS0.out (.inl ⟨by rfl, fun W' hW => by clear hW; go_simp⟩) ?_
  try simp only [Act.put, List.setIfInBounds_toArray]
  try dsimp only [List.getElem_toArray, List.getElem_cons_succ, List.getElem_cons_zero, List.set_cons_zero, List.set_cons_succ]
  refine wpAnyT_path (i := 22) (p := [38, 33, 28, 23]) (v := .bool true) rfl (by kernel_rfl) (by kernel_rfl) (fun _ _ _ h => h) HS0.out (.inl ⟨by rfl, fun W' hW => by clear hW; go_simp⟩) ?_
  try simp only [Act.put, List.setIfInBounds_toArray]
  try dsimp only [List.getElem_toArray, List.getElem_cons_succ, List.getElem_cons_zero, List.set_cons_zero, List.set_cons_succ]
  refine wpAnyT_path (i := 23) (p := [38, 33, 28]) (v := .bool true) rfl (by kernel_rfl) (by kernel_rfl) (fun _ _ _ h => h) HS0.out (.inl ⟨by rfl, fun W' hW => by clear hW; go_simp⟩) ?_
  try simp only [Act.put, List.setIfInBounds_toArray]
  try dsimp only [List.getElem_toArray, List.getElem_cons_succ, List.getElem_cons_zero, List.set_cons_zero, List.set_cons_succ]
  refine wpAnyT_path (i := 24) (p := [38, 33, 28, 27, 26]) (v := .int .i64 c3) rfl (by kernel_rfl) (by kernel_rfl) (fun _ _ _ h => h) HS0.out (.inl ⟨by rfl, fun W' hW => by clear hW; go_simp⟩) ?_
  try simp only [Act.put, List.setIfInBounds_toArray]
  try dsimp only [List.getElem_toArray, List.getElem_cons_succ, List.getElem_cons_zero, List.set_cons_zero, List.set_cons_succ]
  refine wpAnyT_path (i := 25) (p := [38, 33, 28, 27, 26]) (v := .int .i64 c3) rfl (by kernel_rfl) (by kernel_rfl) (fun _ _ _ h => h) HS0.out (.inl ⟨by rfl, fun W' hW => by clear hW; go_simp⟩) ?_
  try simp only [Act.put, List.setIfInBounds_toArray]
  try dsimp only [List.getElem_toArray, List.getElem_cons_succ, List.getElem_cons_zero, List.set_cons_zero, List.set_cons_succ]
  refine wpAnyT_path (i := 26) (p := [38, 33, 28, 27]) (v := .bool true) rfl (by kernel_rfl) (by kernel_rfl) (fun _ _ _ h => h) HS0.out (.inl ⟨by rfl, fun W' hW => by clear hW; go_simp⟩) ?_
  try simp only [Act.put, List.setIfInBounds_toArray]
  try dsimp only [List.getElem_toArray, List.getElem_cons_succ, List.getElem_cons_zero, List.set_cons_zero, List.set_cons_succ]
  refine wpAnyT_path (i := 27) (p := [38, 33, 28]) (v := .bool true) rfl (by kernel_rfl) (by kernel_rfl) (fun _ _ _ h => h) HS0.out (.inl ⟨by rfl, fun W' hW => by clear hW; go_simp⟩) ?_
  try simp only [Act.put, List.setIfInBounds_toArray]
  try dsimp only [List.getElem_toArray, List.getElem_cons_succ, List.getElem_cons_zero, List.set_cons_zero, List.set_cons_succ]
  refine wpAnyT_path (i := 28) (p := [38, 33]) (v := .bool true) rfl (by kernel_rfl) (by kernel_rfl) (fun _ _ _ h => h) HS0.out (.inl ⟨by rfl, fun W' hW => by clear hW; go_simp⟩) ?_
  try simp only [Act.put, List.setIfInBounds_toArray]
  try dsimp only [List.getElem_toArray, List.getElem_cons_succ, List.getElem_cons_zero, List.set_cons_zero, List.set_cons_succ]
  refine wpAnyT_path (i := 29) (p := [38, 33, 32, 31]) (v := .string S4) rfl (by kernel_rfl) (by kernel_rfl) (fun _ _ _ h => h) HS0.out (.inl ⟨by rfl, fun W' hW => by clear hW; go_simp⟩) ?_
  try simp only [Act.put, List.setIfInBounds_toArray]
  try dsimp only [List.getElem_toArray, List.getElem_cons_succ, List.getElem_cons_zero, List.set_cons_zero, List.set_cons_succ]
  refine wpAnyT_path (i := 30) (p := [38, 33, 32, 31]) (v := .string S4) rfl (by kernel_rfl) (by kernel_rfl) (fun _ _ _ h => h) HS0.out (.inl ⟨by rfl, fun W' hW => by clear hW; go_simp⟩) ?_
  try simp only [Act.put, List.setIfInBounds_toArray]
  try dsimp only [List.getElem_toArray, List.getElem_cons_succ, List.getElem_cons_zero, List.set_cons_zero, List.set_cons_succ]
  refine wpAnyT_path (i := 31) (p := [38, 33, 32]) (v := .bool true) rfl (by kernel_rfl) (by kernel_rfl) (fun _ _ _ h => h) HS0.out (.inl ⟨by rfl, fun W' hW => by clear hW; go_simp⟩) ?_
  try simp only [Act.put, List.setIfInBounds_toArray]
  try dsimp only [List.getElem_toArray, List.getElem_cons_succ, List.getElem_cons_zero, List.set_cons_zero, List.set_cons_succ]
  refine wpAnyT_path (i := 32) (p := [38, 33]) (v := .bool true) rfl (by kernel_rfl) (by kernel_rfl) (fun _ _ _ h => h) HS0.out (.inl ⟨by rfl, fun W' hW => by clear hW; go_simp⟩) ?_
  try simp only [Act.put, List.setIfInBounds_toArray]
  try dsimp only [List.getElem_toArray, List.getElem_cons_succ, List.getElem_cons_zero, List.set_cons_zero, List.set_cons_succ]
  refine wpAnyT_path (i := 33) (p := [38]) (v := .bool true) rfl (by kernel_rfl) (by kernel_rfl) (fun _ _ _ h => h) HS0.out (.inl ⟨by rfl, fun W' hW => by clear hW; go_simp⟩) ?_
  try simp only [Act.put, List.setIfInBounds_toArray]
  try dsimp only [List.getElem_toArray, List.getElem_cons_succ, List.getElem_cons_zero, List.set_cons_zero, List.set_cons_succ]
  refine wpAnyT_path (i := 34) (p := [38, 37, 36]) (v := .int .i64 c4) rfl (by kernel_rfl) (by kernel_rfl) (fun _ _ _ h => h) HS0.out (.inl ⟨by rfl, fun W' hW => by clear hW; go_simp⟩) ?_
  try simp only [Act.put, List.setIfInBounds_toArray]
  try dsimp only [List.getElem_toArray, List.getElem_cons_succ, List.getElem_cons_zero, List.set_cons_zero, List.set_cons_succ]
  refine wpAnyT_path (i := 35) (p := [38, 37, 36]) (v := .int .i64 c4) rfl (by kernel_rfl) (by kernel_rfl) (fun _ _ _ h => h) HS0.out (.inl ⟨by rfl, fun W' hW => by clear hW; go_simp⟩) ?_
  try simp only [Act.put, List.setIfInBounds_toArray]
  try dsimp only [List.getElem_toArray, List.getElem_cons_succ, List.getElem_cons_zero, List.set_cons_zero, List.set_cons_succ]
  refine wpAnyT_path (i := 36) (p := [38, 37]) (v := .bool true) rfl (by kernel_rfl) (by kernel_rfl) (fun _ _ _ h => h) HS0.out (.inl ⟨by rfl, fun W' hW => by clear hW; go_simp⟩) ?_
  try simp only [Act.put, List.setIfInBounds_toArray]
  try dsimp only [List.getElem_toArray, List.getElem_cons_succ, List.getElem_cons_zero, List.set_cons_zero, List.set_cons_succ]
  refine wpAnyT_path (i := 37) (p := [38]) (v := .bool true) rfl (by kernel_rfl) (by kernel_rfl) (fun _ _ _ h => h) HS0.out (.inl ⟨by rfl, fun W' hW => by clear hW; go_simp⟩) ?_
  try simp only [Act.put, List.setIfInBounds_toArray]
  try dsimp only [List.getElem_toArray, List.getElem_cons_succ, List.getElem_cons_zero, List.set_cons_zero, List.set_cons_succ]
  refine wpAnyT_path (i := 38) (p := []) (v := .bool true) rfl (by kernel_rfl) (by kernel_rfl) (fun _ _ _ h => h) HS0.out (.inl ⟨by rfl, fun W' hW => by clear hW; go_simp⟩) ?_
  try simp only [Act.put, List.setIfInBounds_toArray]
  try dsimp only [List.getElem_toArray, List.getElem_cons_succ, List.getElem_cons_zero, List.set_cons_zero, List.set_cons_succ]
  refine wpAnyT_path (i := 39) (p := [41, 40]) (v := .pointer (some ⟨B, 7, none⟩)) rfl (by kernel_rfl) (by kernel_rfl) (fun _ _ _ h => h) HS0.out (.inl ⟨by rfl, fun W' hW => by clear hW; go_simp⟩) ?_
  try simp only [Act.put, List.setIfInBounds_toArray]
  try dsimp only [List.getElem_toArray, List.getElem_cons_succ, List.getElem_cons_zero, List.set_cons_zero, List.set_cons_succ]
  refine wpAnyT_path (i := 40) (p := [41]) (v := .string X) rfl (by kernel_rfl) (by kernel_rfl) (fun _ _ _ h => h) HS0.out (.inl ⟨by rfl, fun W' hW => by have q := hW.cell HQ7.out id; clear hW; go_simp⟩) ?_
  try simp only [Act.put, List.setIfInBounds_toArray]
  try dsimp only [List.getElem_toArray, List.getElem_cons_succ, List.getElem_cons_zero, List.set_cons_zero, List.set_cons_succ]
  refine wpAnyT_path (i := 42) (p := [43]) (v := .pointer (some ⟨B, 7, none⟩)) rfl (by kernel_rfl) (by kernel_rfl) (fun _ _ _ h => h) HS0.out (.inl ⟨by rfl, fun W' hW => by clear hW; go_simp⟩) ?_
  try simp only [Act.put, List.setIfInBounds_toArray]
  try dsimp only [List.getElem_toArray, List.getElem_cons_succ, List.getElem_cons_zero, List.set_cons_zero, List.set_cons_succ]
  refine wpAnyT_path (i := 43) (p := []) (v := .string X) rfl (by kernel_rfl) (by kernel_rfl) (fun _ _ _ h => h) HS0.out (.inl ⟨by rfl, fun W' hW => by have q := hW.cell HQ7.out id; clear hW; go_simp⟩) ?_
  try simp only [Act.put, List.setIfInBounds_toArray]
  try dsimp only [List.getElem_toArray, List.getElem_cons_succ, List.getElem_cons_zero, List.set_cons_zero, List.set_cons_succ]
  refine wpAnyT_one (i := 41) rfl (by kernel_rfl) (wpOp_guarded rfl (by rfl) (fun K hK => ?_))
  try simp only [Act.put, List.setIfInBounds_toArray]
  try dsimp only [List.getElem_toArray, List.getElem_cons_succ, List.getElem_cons_zero, List.set_cons_zero, List.set_cons_succ]
  have HKK := Lib.hid hK
  clear hK
  go_wp2_with fail
  refine (P5.out _).mono ?_
  rintro e w12 ⟨rfl, f12⟩
  have HS12 := Lib.hid (HS0.out.trans f12 (fun i hi => hi.elim))
  clear f12
  go_wp2_with fail
  refine HKK.out _ _ ⟨fun _ => HS12.out, ?_⟩
  clear HKK K
  try simp only [Act.put, List.setIfInBounds_toArray]
  try dsimp only [List.getElem_toArray, List.getElem_cons_succ, List.getElem_cons_zero, List.set_cons_zero, List.set_cons_succ]
  refine wpAnyT_one (i := 44) rfl (by kernel_rfl) (wpOp_guarded rfl (by rfl) (fun K hK => ?_))
  try simp only [Act.put, List.setIfInBounds_toArray]
  try dsimp only [List.getElem_toArray, List.getElem_cons_succ, List.getElem_cons_zero, List.set_cons_zero, List.set_cons_succ]
  have HKK := Lib.hid hK
  clear hK
  go_wp2_with fail
  refine (Q5.out _).mono ?_
  rintro e w13 ⟨rfl, f13⟩
  have HS13 := Lib.hid (HS12.out.trans f13 (fun i hi => hi.elim))
  clear f13
  go_wp2_with fail
  refine HKK.out _ _ ⟨fun _ => HS13.out, ?_⟩
  clear HKK K
  try simp only [Act.put, List.setIfInBounds_toArray]
  try dsimp only [List.getElem_toArray, List.getElem_cons_succ, List.getElem_cons_zero, List.set_cons_zero, List.set_cons_succ]
  refine wpAnyT_done (by first | rfl | kernel_rfl) _ _ _ ?_
  refine wpAny_take (i := 45) (v := .bool true) rfl (by kernel_rfl) (by kernel_rfl) (by kernel_rfl) (fun _ _ _ h => h) (.inl ⟨by rfl, fun W' => by go_simp⟩) ?_
  try simp only [Act.put, List.setIfInBounds_toArray]
  try dsimp only [List.getElem_toArray, List.getElem_cons_succ, List.getElem_cons_zero, List.set_cons_zero, List.set_cons_succ]
  refine wpAny_take (i := 46) (v := .bool true) rfl (by kernel_rfl) (by kernel_rfl) (by kernel_rfl) (fun _ _ _ h => h) (.inl ⟨by rfl, fun W' => by go_simp⟩) ?_
  try simp only [Act.put, List.setIfInBounds_toArray]
  try dsimp only [List.getElem_toArray, List.getElem_cons_succ, List.getElem_cons_zero, List.set_cons_zero, List.set_cons_succ]
  refine wpAny_take (i := 47) (v := .bool true) rfl (by kernel_rfl) (by kernel_rfl) (by kernel_rfl) (fun _ _ _ h => h) (.inl ⟨by rfl, fun W' => by go_simp⟩) ?_
  try simp only [Act.put, List.setIfInBounds_toArray]
  try dsimp only [List.getElem_toArray, List.getElem_cons_succ, List.getElem_cons_zero, List.set_cons_zero, List.set_cons_succ]
  refine wpAny_done (by kernel_rfl) ?_ _
  have HFin := Lib.hid ((G11.out.drew).trans HS13.out (fun i hi => hi.elim))
  go_wp2_with fail
  go_ret
  exact ⟨rfl, HFin.out⟩
theorem ringtells_walk (U : ByteArray) (n m v : Int) (D O I W X : ByteArray) (w : World) : Calls Try.prog 15 #[.string U, .agg #[.int .i64 n, .int .i64 m, .int .i64 v, .string D, .string O, .string I, .string W, .string X]] w fun e w' => e = .returned (.bool true) ∧ Fr (fun _ => False) w w' := by
  by_cases h : 100 < U.size
  · exact ringlaw_a U n m v D O I W X w h
  · by_cases hf : D.size ≤ 100 ∧ O.size ≤ 100 ∧ I.size ≤ 100 ∧ W.size ≤ 100 ∧ X.size ≤ 500
    · by_cases h32 : U.size = 32
      · exact ringlaw_d U n m v D O I W X w hf h32
      · exact ringlaw_c U n m v D O I W X w h hf h32
    · exact ringlaw_b U n m v D O I W X w h hf
end Go.Proofs.Ytcchhfkmhbjdmaa
