/- Labels: Equal and Subset, walked. -/
import Derived.Test.YthmpmpepokeedaaLm
import Derived.Laws.StructEq
set_option linter.unusedVariables false
set_option linter.unusedSimpArgs false
set_option pp.deepTerms true
set_option pp.maxSteps 100000
namespace Go.Proofs.Ythmpmpepokeedaa
open Go.RowKit Go.Shelf Go.Lib
theorem equalInP (x y : Pr) (w : World) : (Op.equalIn 10000 77 (.agg (encP x).toArray) (.agg (encP y).toArray)).run Try.prog w = .ok (x.1 == y.1 && x.2 == y.2) w := by
  have u9 := Try.underlying9
  have a9 := Try.isAgg9
  have z9 := Try.sizeOf9
  have hS : Try.prog.underlying 77 = some (.struct (Try.prog.fieldsOf 77)) := by kernel_rfl
  have hp : Try.prog.stoodInHeld 77 = false := by kernel_rfl
  simp only [encP]
  rw [show (10000 : Nat) = 9999 + 1 from rfl, run_equalIn_agg w 9999 77 _ _ hS hp]
  simp only [Program.fieldsOf, Try.underlying77]
  go_simp
  simp only [str_toList]
  by_cases h1 : x.1 = y.1 <;> by_cases h2 : x.2 = y.2 <;> simp [h1, h2, str_toList]
theorem eqlP : EqlAt Try.prog 77 (fun x => .agg (encP x).toArray) (fun x y => x.1 == y.1 && x.2 == y.2) := by
  refine ⟨fun x y w => ?_, GuardAt.agg _ (by kernel_rfl)⟩
  rw [run_eql_struct, equalInP]; rfl
theorem neqP : NeqAt Try.prog 77 (fun x => .agg (encP x).toArray) (fun x y => x.1 == y.1 && x.2 == y.2) := by
  refine ⟨fun x y w => ?_, GuardAt.agg _ (by kernel_rfl)⟩
  rw [run_neq_struct, equalInP]; rfl
theorem pb_cells {w : World} {b off : Nat} {l : List Pr} (h : PB w b off l) : ∀ j, j < l.length → ∀ i v, (encP l[j]!)[i]? = some v → w.cell? ⟨b, off + j * 2 + i, none⟩ = some v := fun j hj i v hv =>
  h j l[j]! (by rw [List.getElem?_eq_getElem hj, getElem!_pos l j hj]) i v hv
theorem any_eq (l : List Pr) (p : Pr) : (l.any fun y => p.1 == y.1 && p.2 == y.2) = l.contains p := by
  induction l with
  | nil => rfl
  | cons x l ih =>
    rw [List.any_cons, ih, List.contains_cons]
    rfl
theorem allEq_iff : ∀ l m : List Pr, Lib.allEq (fun x y : Pr => x.1 == y.1 && x.2 == y.2) l m = decide (l = m)
  | [], [] => rfl
  | [], _ :: _ => rfl
  | _ :: _, [] => rfl
  | x :: l, y :: m => by
    rw [Lib.allEq, allEq_iff l m]
    obtain ⟨x1, x2⟩ := x
    obtain ⟨y1, y2⟩ := y
    by_cases h1 : x1 = y1 <;> by_cases h2 : x2 = y2 <;> by_cases h3 : l = m <;> simp [h1, h2, h3]
set_option maxHeartbeats 1000000 in
theorem index_nil (a : Option Addr) (cap : Nat) (K V : ByteArray) (w : World) : Calls Try.prog 80 #[.slice a 0 cap, .agg #[.string K, .string V]] w fun e w' => e = .returned (.int .i64 (-1)) ∧ Fr (fun _ => False) w w' := by
  go_enter Try.func80, Try.ntmps80
  go_wp2_with fail
  go_loopw [8] (fun i wr => i = .int .i64 0 ∧ Fr (fun _ => False) w wr) (fun _ _ => 0)
  case atStart => exact ⟨rfl, (Fr.refl _ _).alloc _⟩
  case round =>
    obtain ⟨rfl, hf⟩ := hrel
    have HF := Lib.hid hf
    clear hf
    go_wp2_with fail
    go_ret
    exact ⟨rfl, HF.out⟩
set_option maxHeartbeats 1000000 in
theorem contains_nil (a : Option Addr) (cap : Nat) (K V : ByteArray) (w : World) : Calls Try.prog 71 #[.slice a 0 cap, .agg #[.string K, .string V]] w fun e w' => e = .returned (.bool false) ∧ Fr (fun _ => False) w w' := by
  go_enter Try.func71, Try.ntmps71
  go_wp2_with fail
  refine (index_nil a cap K V _).mono ?_
  rintro e w1 ⟨rfl, f1⟩
  have G1 := Lib.hid (((Fr.refl (fun _ => False) w).alloc (.cells #[.string K, .string V] 77)).trans f1 (fun i hi => hi.elim))
  clear f1
  go_wp2_with fail
  go_ret
  exact ⟨rfl, G1.out⟩
theorem contains_calls (a : Option Addr) (cap : Nat) (l : List Pr) (p : Pr) (w : World) (hl : PSl w a l) (hb : l.length ≤ 9223372036854775807) :
    Calls Try.prog 71 #[.slice a l.length cap, .agg #[.string (str p.1), .string (str p.2)]] w fun e w' => e = .returned (.bool (l.contains p)) ∧ Fr (fun _ => False) w w' := by
  rcases hl with rfl | ⟨b, off, rfl, hpb, hlt⟩
  · exact contains_nil a cap _ _ w
  · refine (AnyQ.slices_Contains containsP 2 Try.isAgg77 Try.sizeOf77 encP (fun _ => rfl) _ eqlP b off l.length cap l p w (Nat.le_refl _) hb (pb_cells hpb)).mono ?_
    rintro e w' ⟨rfl, h⟩
    refine ⟨?_, Fr.of_below h⟩
    rw [List.take_length, any_eq]
set_option maxHeartbeats 1000000 in
theorem other_calls (B : Nat) (a : Option Addr) (cap : Nat) (l : List Pr) (p : Pr) (w : World) (hB : w.heap[B]? = some (.cells #[.slice a l.length cap] 64 (0, 0))) (hl : PSl w a l) (hb : l.length ≤ 9223372036854775807) :
    Calls Try.prog 70 #[.agg #[.string (str p.1), .string (str p.2)], .pointer (some ⟨B, 0, none⟩)] w fun e w' => e = .returned (.bool (!l.contains p)) ∧ Fr (fun _ => False) w w' := by
  have hf : Fr (fun _ => False) w (w.alloc (.cells #[.string (str p.1), .string (str p.2)] 77)) := (Fr.refl _ _).alloc _
  have cB : (w.alloc (.cells #[.string (str p.1), .string (str p.2)] 77)).cell? ⟨B, 0, none⟩ = some (.slice a l.length cap) := (cell_of_row _ B 0 _ _ _ (hf.heap hB id)).trans rfl
  have HC := Lib.hid (contains_calls a cap l p _ (hl.frF hf) hb)
  have HF := Lib.hid hf
  have cB0 : w.cell? ⟨B, 0, none⟩ = some (.slice a l.length cap) := (cell_of_row _ B 0 _ _ _ hB).trans rfl
  have hBn : ¬ B = w.heap.size := by have := lt_of_heap hB; omega
  have hBn2 : ¬ w.heap.size = B := by omega
  have hBl : B < w.heap.size := lt_of_heap hB
  clear hf hB hl hb
  obtain ⟨n, hn⟩ : ∃ n, n = l.length := ⟨_, rfl⟩
  obtain ⟨r, hr⟩ : ∃ r, r = l.contains p := ⟨_, rfl⟩
  rw [← hn] at HC cB0 cB
  rw [← hr] at HC ⊢
  clear hn hr
  generalize str p.1 = K at HC HF cB ⊢
  generalize str p.2 = V at HC HF cB ⊢
  go_enter Try.func70, Try.ntmps70
  go_wp2_with fail
  refine HC.out.mono ?_
  rintro e w1 ⟨rfl, f1⟩
  have G1 := Lib.hid (HF.out.trans f1 (fun i hi => hi.elim))
  clear f1
  go_wp2_with fail
  go_ret
  exact ⟨rfl, G1.out⟩
set_option maxHeartbeats 1000000 in
theorem indexFunc_nil (a : Option Addr) (cap : Nat) (f : Value) (w : World) : Calls Try.prog 81 #[.slice a 0 cap, f] w fun e w' => e = .returned (.int .i64 (-1)) ∧ Fr (fun _ => False) w w' := by
  go_enter Try.func81, Try.ntmps81
  go_wp2_with fail
  go_loopw [8] (fun i wr => i = .int .i64 0 ∧ Fr (fun _ => False) w wr) (fun _ _ => 0)
  case atStart => exact ⟨rfl, Fr.refl _ _⟩
  case round =>
    obtain ⟨rfl, hf⟩ := hrel
    have HF := Lib.hid hf
    clear hf
    go_wp2_with fail
    go_ret
    exact ⟨rfl, HF.out⟩
set_option maxHeartbeats 1000000 in
theorem containsFunc_nil (a : Option Addr) (cap : Nat) (f : Value) (w : World) : Calls Try.prog 72 #[.slice a 0 cap, f] w fun e w' => e = .returned (.bool false) ∧ Fr (fun _ => False) w w' := by
  go_enter Try.func72, Try.ntmps72
  go_wp2_with fail
  refine (indexFunc_nil a cap f _).mono ?_
  rintro e w1 ⟨rfl, f1⟩
  have G1 := Lib.hid f1
  clear f1
  go_wp2_with fail
  go_ret
  exact ⟨rfl, G1.out⟩
theorem containsFunc_calls (B : Nat) (a a2 : Option Addr) (cap cap2 : Nat) (l m : List Pr) (w : World) (hB : w.heap[B]? = some (.cells #[.slice a2 m.length cap2] 64 (0, 0))) (hl : PSl w a l) (hm : PSl w a2 m) (hb : l.length ≤ 9223372036854775807) (hb2 : m.length ≤ 9223372036854775807) :
    Calls Try.prog 72 #[.slice a l.length cap, .func (.func 70) #[] #[.pointer (some ⟨B, 0, none⟩)]] w fun e w' => e = .returned (.bool (l.any fun p => !m.contains p)) ∧ Fr (fun _ => False) w w' := by
  rcases hl with rfl | ⟨b, off, rfl, hpb, hlt⟩
  · exact containsFunc_nil a cap _ w
  · refine (AnyQ.slices_ContainsFunc containsFuncP 2 Try.isAgg77 Try.sizeOf77 encP (fun _ => rfl) (fun p => !m.contains p) 70 #[.pointer (some ⟨B, 0, none⟩)] (enters_of Try.func70 (by kernel_rfl) rfl) b off l.length cap l w
      (fun W x hbw => (other_calls B a2 cap2 m x W ((hbw.block B (lt_of_heap hB)).trans hB) (hm.frF (Fr.of_below hbw)) hb2).mono fun e w' ⟨he, hf⟩ => ⟨he, hbw.trans (hf.below (Nat.le_trans hbw.size (Nat.le_refl _)) (fun _ _ => _root_.id))⟩) (Nat.le_refl _) hb hlt (pb_cells hpb)).mono ?_
    rintro e w' ⟨rfl, h⟩
    refine ⟨?_, Fr.of_below h⟩
    rw [List.take_length]
theorem subB_alt (a b : List Pr) : subB a b = (rightB a && (rightB b && !(a.any fun p => !b.contains p))) := by
  unfold subB
  rw [Bool.and_assoc]
  congr 2
  induction a with
  | nil => rfl
  | cons x a ih => simp only [List.all_cons, List.any_cons, Bool.not_or, Bool.not_not, ih]
set_option maxRecDepth 20000 in
set_option maxHeartbeats 2000000 in
theorem subset_calls (a a2 : Option Addr) (cap cap2 : Nat) (l m : List Pr) (hl : l.length ≤ 100000) (hsl : ∀ p ∈ l, p.1.length ≤ 100000 ∧ p.2.length ≤ 100000) (hm : m.length ≤ 100000) (hsm : ∀ p ∈ m, p.1.length ≤ 100000 ∧ p.2.length ≤ 100000) (w : World) (hpl : PSl w a l) (hpm : PSl w a2 m) (hlc : l.length ≤ cap) (hcap : cap ≤ 9223372036854775807) (hlc2 : m.length ≤ cap2) (hcap2 : cap2 ≤ 9223372036854775807) :
    Calls Try.prog 42 #[.slice a l.length cap, .slice a2 m.length cap2] w fun e w' => e = .returned (.bool (subB l m)) ∧ Fr (fun _ => False) w w' := by
  rw [subB_alt]
  obtain ⟨w0, hw0⟩ : ∃ w0, w0 = w.alloc (.cells #[.slice a2 m.length cap2] 64) := ⟨_, rfl⟩
  have hf0 : Fr (fun _ => False) w w0 := by rw [hw0]; exact (Fr.refl _ _).alloc _
  have hB : w0.heap[w.heap.size]? = some (.cells #[.slice a2 m.length cap2] 64 (0, 0)) := by rw [hw0]; exact heap_alloc_new w _
  obtain ⟨B, hBd⟩ : ∃ B, B = w.heap.size := ⟨_, rfl⟩
  rw [← hBd] at hB
  have HR1 := Lib.hid (right_calls a cap l hl hsl w0 (hpl.frF hf0) hlc hcap)
  have HR2 := Lib.hid (show ∀ w', Fr (fun _ => False) w0 w' → Calls Try.prog 61 #[.slice a2 m.length cap2] w' fun e w2 => e = .returned (.bool (rightB m)) ∧ Fr (fun _ => False) w' w2 from fun w' hf => right_calls a2 cap2 m hm hsm w' ((hpm.frF hf0).frF hf) hlc2 hcap2)
  have HC := Lib.hid (show ∀ w', Fr (fun _ => False) w0 w' → Calls Try.prog 72 #[.slice a l.length cap, .func (.func 70) #[] #[.pointer (some ⟨B, 0, none⟩)]] w' fun e w2 => e = .returned (.bool (l.any fun p => !m.contains p)) ∧ Fr (fun _ => False) w' w2 from fun w' hf => containsFunc_calls B a a2 cap cap2 l m w' (hf.heap hB id) ((hpl.frF hf0).frF hf) ((hpm.frF hf0).frF hf) (by omega) (by omega))
  have HF0 := Lib.hid hf0
  have HB := Lib.hid hB
  have HW0 := Lib.hid hw0
  have HBd := Lib.hid hBd
  obtain ⟨n, hn⟩ : ∃ n, n = l.length := ⟨_, rfl⟩
  obtain ⟨n2, hn2⟩ : ∃ n, n = m.length := ⟨_, rfl⟩
  generalize (l.any fun p => !m.contains p) = r3 at HC ⊢
  generalize rightB l = r1 at HR1 ⊢
  generalize rightB m = r2 at HR2 ⊢
  rw [← hn] at HR1 HC ⊢
  rw [← hn2] at HR2 HB HW0 ⊢
  clear hl hsl hm hsm hpl hpm hlc hcap hlc2 hcap2 hf0 hB hw0 hBd hn hn2
  go_enter Try.func42, Try.ntmps42
  go_wp2_with fail
  rw [← HBd.out, ← HW0.out]
  refine HR1.out.mono ?_
  rintro e w1 ⟨rfl, f1⟩
  have G1 := Lib.hid f1
  have H1 := Lib.hid (HF0.out.trans f1 (fun i hi => hi.elim))
  have cB : w1.cell? ⟨B, 0, none⟩ = some (.slice a2 n2 cap2) := (cell_of_row _ B 0 _ _ _ (f1.heap HB.out id)).trans rfl
  clear f1
  cases r1 with
  | false =>
    go_wp2_with fail
    go_ret
    exact ⟨rfl, H1.out⟩
  | true =>
    go_wp2_with fail
    refine (HR2.out w1 G1.out).mono ?_
    rintro e w2 ⟨rfl, f2⟩
    have G2 := Lib.hid (G1.out.trans f2 (fun i hi => hi.elim))
    have H2 := Lib.hid (H1.out.trans f2 (fun i hi => hi.elim))
    clear f2
    cases r2 with
    | false =>
      go_wp2_with fail
      go_ret
      exact ⟨rfl, H2.out⟩
    | true =>
      go_wp2_with fail
      refine (HC.out w2 G2.out).mono ?_
      rintro e w3 ⟨rfl, f3⟩
      have H3 := Lib.hid (H2.out.trans f3 (fun i hi => hi.elim))
      clear f3
      go_wp2_with fail
      go_ret
      exact ⟨rfl, H3.out⟩
set_option maxHeartbeats 1000000 in
theorem sliceEqual_ne (a a2 : Option Addr) (n m cap cap2 : Nat) (h : n ≠ m) (w : World) : Calls Try.prog 73 #[.slice a n cap, .slice a2 m cap2] w fun e w' => e = .returned (.bool false) ∧ w' = w := by
  have t1 : ((n : Int) != (m : Int)) = true := by simp; omega
  have t2 : (n != m) = true := by simp; omega
  clear h
  go_enter Try.func73, Try.ntmps73
  go_wp2_with fail
  go_ret
  exact ⟨rfl, rfl⟩
set_option maxHeartbeats 1000000 in
theorem sliceEqual_nil (a a2 : Option Addr) (cap cap2 : Nat) (w : World) : Calls Try.prog 73 #[.slice a 0 cap, .slice a2 0 cap2] w fun e w' => e = .returned (.bool true) ∧ Fr (fun _ => False) w w' := by
  go_enter Try.func73, Try.ntmps73
  go_wp2_with fail
  go_loopw [13] (fun i wr => i = .int .i64 0 ∧ Fr (fun _ => False) w wr) (fun _ _ => 0)
  case atStart => exact ⟨rfl, Fr.refl _ _⟩
  case round =>
    obtain ⟨rfl, hf⟩ := hrel
    have HF := Lib.hid hf
    clear hf
    go_wp2_with fail
    go_ret
    exact ⟨rfl, HF.out⟩
theorem sliceEqual_calls (a a2 : Option Addr) (cap cap2 : Nat) (l m : List Pr) (w : World) (hl : PSl w a l) (hm : PSl w a2 m) (hb : l.length ≤ 9223372036854775807) (hb2 : m.length ≤ 9223372036854775807) :
    Calls Try.prog 73 #[.slice a l.length cap, .slice a2 m.length cap2] w fun e w' => e = .returned (.bool (decide (l = m))) ∧ Fr (fun _ => False) w w' := by
  by_cases hne : l.length = m.length
  · rcases hl with rfl | ⟨b, off, rfl, hpb, hlt⟩
    · obtain rfl : m = [] := List.eq_nil_of_length_eq_zero hne.symm
      exact sliceEqual_nil a a2 cap cap2 w
    · rcases hm with rfl | ⟨b2, off2, rfl, hpb2, hlt2⟩
      · obtain rfl : l = [] := List.eq_nil_of_length_eq_zero hne
        exact sliceEqual_nil _ a2 cap cap2 w
      · refine (AnyQ.slices_Equal equalP 2 Try.isAgg77 Try.sizeOf77 encP (fun _ => rfl) _ neqP b off l.length cap b2 off2 m.length cap2 l m w (Nat.le_refl _) (Nat.le_refl _) hb hb2 (pb_cells hpb) (pb_cells hpb2)).mono ?_
        rintro e w' ⟨rfl, q, rfl⟩
        refine ⟨?_, (Fr.refl _ _).drewN q⟩
        rw [List.take_length, List.take_length, allEq_iff]
  · refine (sliceEqual_ne a a2 l.length m.length cap cap2 hne w).mono ?_
    rintro e w' ⟨rfl, rfl⟩
    refine ⟨?_, Fr.refl _ _⟩
    rw [decide_eq_false (fun e => hne (by rw [e]))]
set_option maxRecDepth 20000 in
set_option maxHeartbeats 2000000 in
theorem equal_calls (a a2 : Option Addr) (cap cap2 : Nat) (l m : List Pr) (hl : l.length ≤ 100000) (hsl : ∀ p ∈ l, p.1.length ≤ 100000 ∧ p.2.length ≤ 100000) (hm : m.length ≤ 100000) (hsm : ∀ p ∈ m, p.1.length ≤ 100000 ∧ p.2.length ≤ 100000) (w : World) (hpl : PSl w a l) (hpm : PSl w a2 m) (hlc : l.length ≤ cap) (hcap : cap ≤ 9223372036854775807) (hlc2 : m.length ≤ cap2) (hcap2 : cap2 ≤ 9223372036854775807) :
    Calls Try.prog 44 #[.slice a l.length cap, .slice a2 m.length cap2] w fun e w' => e = .returned (.bool (eqB l m)) ∧ Fr (fun _ => False) w w' := by
  have HR1 := Lib.hid (right_calls a cap l hl hsl w hpl hlc hcap)
  have HR2 := Lib.hid (show ∀ w', Fr (fun _ => False) w w' → Calls Try.prog 61 #[.slice a2 m.length cap2] w' fun e w2 => e = .returned (.bool (rightB m)) ∧ Fr (fun _ => False) w' w2 from fun w' hf => right_calls a2 cap2 m hm hsm w' (hpm.frF hf) hlc2 hcap2)
  obtain ⟨n, hn⟩ : ∃ n, n = l.length := ⟨_, rfl⟩
  obtain ⟨n2, hn2⟩ : ∃ n, n = m.length := ⟨_, rfl⟩
  cases h1 : rightB l with
  | false =>
    rw [show eqB l m = false by unfold eqB; rw [h1]; rfl]
    rw [h1, ← hn] at HR1
    rw [← hn, ← hn2]
    clear hl hsl hm hsm hpl hpm hlc hcap hlc2 hcap2 h1 hn hn2 HR2
    go_enter Try.func44, Try.ntmps44
    go_wp2_with fail
    refine HR1.out.mono ?_
    rintro e w1 ⟨rfl, f1⟩
    have G1 := Lib.hid f1
    clear f1
    go_wp2_with fail
    go_ret
    exact ⟨rfl, G1.out⟩
  | true =>
    cases h2 : rightB m with
    | false =>
      rw [show eqB l m = false by unfold eqB; rw [h1, h2]; rfl]
      rw [h1, ← hn] at HR1
      rw [h2, ← hn2] at HR2
      rw [← hn, ← hn2]
      clear hl hsl hm hsm hpl hpm hlc hcap hlc2 hcap2 h1 h2 hn hn2
      go_enter Try.func44, Try.ntmps44
      go_wp2_with fail
      refine HR1.out.mono ?_
      rintro e w1 ⟨rfl, f1⟩
      have G1 := Lib.hid f1
      clear f1
      go_wp2_with fail
      refine (HR2.out w1 G1.out).mono ?_
      rintro e w2 ⟨rfl, f2⟩
      have G2 := Lib.hid (G1.out.trans f2 (fun i hi => hi.elim))
      clear f2
      go_wp2_with fail
      go_ret
      exact ⟨rfl, G2.out⟩
    | true =>
      have q1 := (rightB_iff l).1 h1
      have q2 := (rightB_iff m).1 h2
      obtain ⟨r, hr⟩ : ∃ r, r = decide (sortR l = sortR m) := ⟨_, rfl⟩
      rw [show eqB l m = r by unfold eqB; rw [h1, h2, hr]; rfl]
      have HS1 := Lib.hid (show ∀ w', Fr (fun _ => False) w w' → Calls Try.prog 65 #[.slice a n cap] w' fun e w2 => ∃ v, e = .returned v ∧ PV w2 v (sortR l) ∧ Fr (fun _ => False) w' w2 from fun w' hf => by rw [hn]; exact sorted_calls a cap l (by omega) q1.2.1 w' (hpl.frF hf) hlc hcap)
      have HS2 := Lib.hid (show ∀ w', Fr (fun _ => False) w w' → Calls Try.prog 65 #[.slice a2 n2 cap2] w' fun e w2 => ∃ v, e = .returned v ∧ PV w2 v (sortR m) ∧ Fr (fun _ => False) w' w2 from fun w' hf => by rw [hn2]; exact sorted_calls a2 cap2 m (by omega) q2.2.1 w' (hpm.frF hf) hlc2 hcap2)
      have HE := Lib.hid (show ∀ w' b1 b2 c1 c2, PSl w' b1 (sortR l) → PSl w' b2 (sortR m) → Calls Try.prog 73 #[.slice b1 (sortR l).length c1, .slice b2 (sortR m).length c2] w' fun e w2 => e = .returned (.bool r) ∧ Fr (fun _ => False) w' w2 from fun w' b1 b2 c1 c2 p1 p2 => by
        rw [hr]; exact sliceEqual_calls b1 b2 c1 c2 _ _ w' p1 p2 (by rw [sortR_length]; omega) (by rw [sortR_length]; omega))
      rw [h1, ← hn] at HR1
      rw [h2, ← hn2] at HR2
      rw [← hn, ← hn2]
      obtain ⟨L, hL⟩ : ∃ L, L = sortR l := ⟨_, rfl⟩
      obtain ⟨M, hM⟩ : ∃ L, L = sortR m := ⟨_, rfl⟩
      rw [← hL] at HS1 HE
      rw [← hM] at HS2 HE
      clear hl hsl hm hsm hpl hpm hlc hcap hlc2 hcap2 h1 h2 hn hn2 hr q1 q2 hL hM
      go_enter Try.func44, Try.ntmps44
      go_wp2_with fail
      refine HR1.out.mono ?_
      rintro e w1 ⟨rfl, f1⟩
      have G1 := Lib.hid f1
      clear f1
      go_wp2_with fail
      refine (HR2.out w1 G1.out).mono ?_
      rintro e w2 ⟨rfl, f2⟩
      have G2 := Lib.hid (G1.out.trans f2 (fun i hi => hi.elim))
      clear f2
      go_wp2_with fail
      refine (HS1.out w2 G2.out).mono ?_
      rintro e w3 ⟨v3, rfl, ⟨b1, c1, rfl, p1, _⟩, f3⟩
      have G3 := Lib.hid (G2.out.trans f3 (fun i hi => hi.elim))
      have P1 := Lib.hid p1
      clear f3 p1
      go_wp2_with fail
      refine (HS2.out w3 G3.out).mono ?_
      rintro e w4 ⟨v4, rfl, ⟨b2, c2, rfl, p2, _⟩, f4⟩
      have G4 := Lib.hid (G3.out.trans f4 (fun i hi => hi.elim))
      have P2 := Lib.hid p2
      have P1' := Lib.hid (P1.out.frF f4)
      clear f4 p2
      go_wp2_with fail
      refine (HE.out w4 b1 b2 c1 c2 P1'.out P2.out).mono ?_
      rintro e w5 ⟨rfl, f5⟩
      have G5 := Lib.hid (G4.out.trans f5 (fun i hi => hi.elim))
      clear f5
      go_wp2_with fail
      go_ret
      exact ⟨rfl, G5.out⟩
end Go.Proofs.Ythmpmpepokeedaa
