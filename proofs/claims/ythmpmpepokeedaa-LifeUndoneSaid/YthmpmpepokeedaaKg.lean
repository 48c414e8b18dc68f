/- A life's step: an own walk, kind by kind. -/
import Derived.Test.YthmpmpepokeedaaL0
import Derived.Test.YthmpmpepokeedaaL1
import Derived.Test.YthmpmpepokeedaaPLifeUndonex1
set_option linter.unusedVariables false
set_option linter.unusedSimpArgs false
set_option pp.deepTerms true
set_option pp.maxSteps 100000
namespace Go.Proofs.Ythmpmpepokeedaa
open Go.RowKit PLifeUndone Go.Proofs.YthmpmpepokeedaaW.PrintWords
theorem right_calls (st dl ex vs : Int) (b : Bool) (h : life_Right.f st dl ex vs = some b) (w : World) :
    Calls Try.prog 13 #[.agg #[.int .i64 st, .int .i64 dl, .int .i64 ex, .int .i64 vs]] w fun e w' => e = .returned (.bool b) ∧ Fr (fun _ => False) w w' :=
  (life_Right.calls st dl ex vs b w h).mono fun e w' ⟨he, hb⟩ => ⟨he, Fr.of_below hb⟩
theorem time_calls (t : Int) (h0 : 0 ≤ t) (h1 : t ≤ 1099511627776) (w : World) :
    Calls Try.prog 49 #[.int .i64 t] w fun e w' => e = .returned (.bool true) ∧ Fr (fun _ => False) w w' :=
  (life_time.calls t true w (by unfold life_time.f; rw [if_pos h0, decide_eq_true h1])).mono fun e w' ⟨he, hb⟩ => ⟨he, Fr.of_below hb.below⟩
theorem from_calls (st dl ex vs a c r : Int) (h : life_from.f 10 st dl ex vs a c = some r) (w : World) :
    Calls Try.prog 50 #[.agg #[.int .i64 st, .int .i64 dl, .int .i64 ex, .int .i64 vs], .int .i64 a, .int .i64 c] w fun e w' => e = .returned (.int .i64 r) ∧ Fr (fun _ => False) w w' :=
  (life_from.calls 10 st dl ex vs a c r w h).mono fun e w' ⟨he, hb⟩ => ⟨he, Fr.of_below hb⟩
theorem wpAnyT_pair {P : Program} {ops : Array Oper} {Q : Exit → Act → World → Prop} {md : Region.Mode} {S : World → Prop} {e : Nat} {i j fuel : Nat} {listed : Array Bool} {a : Act} {w : World} (hr : Region.ready md ops listed = [i, j])
    (h1 : wpOp P ops Q i (fun a' w' => Till S e (listed.setIfInBounds i true) w' ∧ wpAnyT P md ops Q S e fuel (listed.setIfInBounds i true) a' w') a w)
    (h2 : wpOp P ops Q j (fun a' w' => Till S e (listed.setIfInBounds j true) w' ∧ wpAnyT P md ops Q S e fuel (listed.setIfInBounds j true) a' w') a w) : wpAnyT P md ops Q S e (fuel + 1) listed a w :=
  ⟨fun h0 => (by rw [hr] at h0; cases h0), fun k hk => (by
    rw [hr] at hk
    simp at hk
    rcases hk with rfl | rfl
    · exact h1
    · exact h2)⟩
theorem result_row {P : Program} {fn : Func} {p u : Tmp} {ty : TypeId} (h : fn.results = #[.cell p ty, .tmp u]) (tmps : Array Value) (w : World) (g : Nat) (t : TypeId) (cs : Array Value) (fr : Nat × Nat) (d : TypeDesc) (x : Value)
    (hp : tmps.getD p undef = .pointer (some ⟨g, 0, none⟩)) (hx : tmps.getD u undef = x) (hg : w.heap[g]? = some (.cells cs t fr))
    (hu : P.underlying ty = some d) (hd : (match d with | .struct _ | .array _ _ => true | _ => false) = true) (hi : (P.info? ty).map (·.size) = some cs.size) :
    (results fn tmps).run P w = .ok (.tuple #[.agg cs, x]) w := by
  rw [results_cell_tmp h, hp, hx]
  simp [asAddr, Result.andThen, run_loadVar_row w g t ty cs fr d hg hu hd hi]
theorem row_set {w : World} {B : Nat} {cs0 cs : Array Value} {t : TypeId} {fr : Nat × Nat} (h : w.heap[B]? = some (.cells cs0 t fr)) : (w.setRow B cs).heap[B]? = some (.cells cs t fr) := by
  have hlt := (Array.getElem?_eq_some_iff.1 h).1
  have he := (Array.getElem?_eq_some_iff.1 h).2
  show (w.heap.modify B _)[B]? = _
  simp [Array.getElem?_modify, h]
def R4 (a b c d : Int) : Array Value := #[.int .i64 a, .int .i64 b, .int .i64 c, .int .i64 d]
/-- What lies while a step is done: the life, the event, the answer, the life as it was. -/
structure Mem (w : World) (b : Nat) (st dl ex vs kd n : Int) : Prop where
  l : w.heap[b]? = some (.cells #[.int .i64 st, .int .i64 dl, .int .i64 ex, .int .i64 vs] 23 (0, 0))
  x : w.heap[b + 1]? = some (.cells #[.int .i64 kd, .int .i64 n] 27 (0, 0))
  r : w.heap[b + 1 + 1]? = some (.cells #[.int .i64 0, .int .i64 0, .int .i64 0, .int .i64 0] 23 (0, 0))
  s : w.heap[b + 1 + 1 + 1]? = some (.cells #[.int .i64 st, .int .i64 dl, .int .i64 ex, .int .i64 vs] 23 (0, 0))
theorem Mem.fr {w w' : World} {b : Nat} {st dl ex vs kd n : Int} (h : Mem w b st dl ex vs kd n) (hf : Fr (fun _ => False) w w') : Mem w' b st dl ex vs kd n :=
  ⟨hf.heap h.l id, hf.heap h.x id, hf.heap h.r id, hf.heap h.s id⟩
theorem mem_start (w : World) (st dl ex vs kd n : Int) :
    let w4 := (((w.alloc (.cells #[.int .i64 st, .int .i64 dl, .int .i64 ex, .int .i64 vs] 23)).alloc (.cells #[.int .i64 kd, .int .i64 n] 27)).alloc (.cells #[.int .i64 0, .int .i64 0, .int .i64 0, .int .i64 0] 23)).alloc (.cells #[.int .i64 st, .int .i64 dl, .int .i64 ex, .int .i64 vs] 23)
    Mem w4 w.heap.size st dl ex vs kd n ∧ Fr (fun _ => False) w w4 := by
  intro w4
  obtain ⟨w1, h1⟩ : ∃ x, x = w.alloc (.cells #[.int .i64 st, .int .i64 dl, .int .i64 ex, .int .i64 vs] 23) := ⟨_, rfl⟩
  obtain ⟨w2, h2⟩ : ∃ x, x = w1.alloc (.cells #[.int .i64 kd, .int .i64 n] 27) := ⟨_, rfl⟩
  obtain ⟨w3, h3⟩ : ∃ x, x = w2.alloc (.cells #[.int .i64 0, .int .i64 0, .int .i64 0, .int .i64 0] 23) := ⟨_, rfl⟩
  have h4 : w4 = w3.alloc (.cells #[.int .i64 st, .int .i64 dl, .int .i64 ex, .int .i64 vs] 23) := by rw [h3, h2, h1]
  have s1 : w1.heap.size = w.heap.size + 1 := by rw [h1]; simp
  have s2 : w2.heap.size = w.heap.size + 1 + 1 := by rw [h2]; simp [s1]
  have s3 : w3.heap.size = w.heap.size + 1 + 1 + 1 := by rw [h3]; simp [s2]
  have a1 := heap_alloc_new w (.cells #[.int .i64 st, .int .i64 dl, .int .i64 ex, .int .i64 vs] 23)
  have a2 := heap_alloc_new w1 (.cells #[.int .i64 kd, .int .i64 n] 27)
  have a3 := heap_alloc_new w2 (.cells #[.int .i64 0, .int .i64 0, .int .i64 0, .int .i64 0] 23)
  have a4 := heap_alloc_new w3 (.cells #[.int .i64 st, .int .i64 dl, .int .i64 ex, .int .i64 vs] 23)
  rw [← h1] at a1
  rw [← h2, s1] at a2
  rw [← h3, s2] at a3
  rw [← h4, s3] at a4
  have f0 : Fr (fun _ => False) w w1 := by rw [h1]; exact (Fr.refl _ _).alloc _
  have f1 : Fr (fun _ => False) w1 w2 := by rw [h2]; exact (Fr.refl _ _).alloc _
  have f2 : Fr (fun _ => False) w2 w3 := by rw [h3]; exact (Fr.refl _ _).alloc _
  have f3 : Fr (fun _ => False) w3 w4 := by rw [h4]; exact (Fr.refl _ _).alloc _
  have f13 := (f1.trans f2 (fun i hi => hi.elim)).trans f3 (fun i hi => hi.elim)
  exact ⟨⟨f13.heap a1 id, (f2.trans f3 (fun i hi => hi.elim)).heap a2 id, f3.heap a3 id, a4⟩, f0.trans f13 (fun i hi => hi.elim)⟩
theorem from_yes (st dl ex vs a c : Int) (h : st = a ∨ st = c) (h4 : st ≠ 4) : life_from.f 10 st dl ex vs a c = some 0 := by
  rcases h with rfl | rfl
  · simp [life_from.f, life_from.j0]
  · by_cases e : st = a
    · simp [life_from.f, life_from.j0, e]
    · simp [life_from.f, life_from.j0, e]
theorem from_gone (dl ex vs a c : Int) (ha : a ≠ 4) (hc : c ≠ 4) : life_from.f 10 4 dl ex vs a c = some 4 := by
  simp [life_from.f, life_from.j0, Ne.symm ha, Ne.symm hc]
set_option maxRecDepth 20000 in
set_option maxHeartbeats 4000000 in
theorem step_enable (dl ex vs n now : Int) (hr : life_Right.f 2 dl ex vs = some true) (ht0 : 0 ≤ now) (ht1 : now ≤ 1099511627776) (w : World) :
    Calls Try.prog 14 #[.agg #[.int .i64 2, .int .i64 dl, .int .i64 ex, .int .i64 vs], .agg #[.int .i64 1, .int .i64 n], .int .i64 now] w fun e w' => e = .returned (.tuple #[.agg #[.int .i64 1, .int .i64 dl, .int .i64 ex, .int .i64 vs], .int .i64 0]) ∧ Fr (fun _ => False) w w' := by
  have HR := Lib.hid hr
  have HT := Lib.hid (And.intro ht0 ht1)
  clear hr
  go_enter Try.func14, Try.ntmps14
  go_wp2_with fail
  refine (right_calls 2 dl ex vs true HR.out _).mono ?_
  rintro e w1 ⟨rfl, f1⟩
  obtain ⟨hm, hf0⟩ := mem_start w 2 dl ex vs 1 n
  have HM1 := Lib.hid (hm.fr f1)
  have HF1 := Lib.hid (hf0.trans f1 (fun i hi => hi.elim))
  have HB := Lib.hid (Nat.le_refl w.heap.size)
  clear f1 hm hf0
  obtain ⟨b, hb⟩ : ∃ b, b = w.heap.size := ⟨_, rfl⟩
  rw [← hb] at HM1 ⊢
  have HBB := Lib.hid (show w.heap.size ≤ b by omega)
  clear hb HB
  go_wp2_with fail
  refine (time_calls now HT.out.1 HT.out.2 w1).mono ?_
  rintro e w2 ⟨rfl, f2⟩
  have HM2 := Lib.hid (HM1.out.fr f2)
  have HF2 := Lib.hid (HF1.out.trans f2 (fun i hi => hi.elim))
  clear f2 HM1 HF1
  have c0 : w2.cell? ⟨b, 0, none⟩ = some (.int .i64 2) := (cell_of_row w2 _ 0 _ _ _ HM2.out.l).trans rfl
  have c1 : w2.cell? ⟨b, 1, none⟩ = some (.int .i64 dl) := (cell_of_row w2 _ 1 _ _ _ HM2.out.l).trans rfl
  have c2 : w2.cell? ⟨b, 2, none⟩ = some (.int .i64 ex) := (cell_of_row w2 _ 2 _ _ _ HM2.out.l).trans rfl
  have c3 : w2.cell? ⟨b, 3, none⟩ = some (.int .i64 vs) := (cell_of_row w2 _ 3 _ _ _ HM2.out.l).trans rfl
  have x0 : w2.cell? ⟨b + 1, 0, none⟩ = some (.int .i64 1) := (cell_of_row w2 _ 0 _ _ _ HM2.out.x).trans rfl
  have x1 : w2.cell? ⟨b + 1, 1, none⟩ = some (.int .i64 n) := (cell_of_row w2 _ 1 _ _ _ HM2.out.x).trans rfl
  have q0 : w2.cell? ⟨b + 1 + 1 + 1, 0, none⟩ = some (.int .i64 2) := (cell_of_row w2 _ 0 _ _ _ HM2.out.s).trans rfl
  have q1 : w2.cell? ⟨b + 1 + 1 + 1, 1, none⟩ = some (.int .i64 dl) := (cell_of_row w2 _ 1 _ _ _ HM2.out.s).trans rfl
  have q2 : w2.cell? ⟨b + 1 + 1 + 1, 2, none⟩ = some (.int .i64 ex) := (cell_of_row w2 _ 2 _ _ _ HM2.out.s).trans rfl
  have q3 : w2.cell? ⟨b + 1 + 1 + 1, 3, none⟩ = some (.int .i64 vs) := (cell_of_row w2 _ 3 _ _ _ HM2.out.s).trans rfl
  go_wp2_with fail
  refine (from_calls 2 dl ex vs 2 2 0 (from_yes _ _ _ _ _ _ (.inl rfl) (by decide)) w2).mono ?_
  rintro e w3 ⟨rfl, f3⟩
  have HM3 := Lib.hid (HM2.out.fr f3)
  have HF3 := Lib.hid (HF2.out.trans f3 (fun i hi => hi.elim))
  clear f3 HM2 HF2 c0 c1 c2 c3 x0 x1 q0 q1 q2 q3
  have c0 : w3.cell? ⟨b, 0, none⟩ = some (.int .i64 2) := (cell_of_row w3 _ 0 _ _ _ HM3.out.l).trans rfl
  have c1 : w3.cell? ⟨b, 1, none⟩ = some (.int .i64 dl) := (cell_of_row w3 _ 1 _ _ _ HM3.out.l).trans rfl
  have c2 : w3.cell? ⟨b, 2, none⟩ = some (.int .i64 ex) := (cell_of_row w3 _ 2 _ _ _ HM3.out.l).trans rfl
  have c3 : w3.cell? ⟨b, 3, none⟩ = some (.int .i64 vs) := (cell_of_row w3 _ 3 _ _ _ HM3.out.l).trans rfl
  have x0 : w3.cell? ⟨b + 1, 0, none⟩ = some (.int .i64 1) := (cell_of_row w3 _ 0 _ _ _ HM3.out.x).trans rfl
  have x1 : w3.cell? ⟨b + 1, 1, none⟩ = some (.int .i64 n) := (cell_of_row w3 _ 1 _ _ _ HM3.out.x).trans rfl
  have q0 : w3.cell? ⟨b + 1 + 1 + 1, 0, none⟩ = some (.int .i64 2) := (cell_of_row w3 _ 0 _ _ _ HM3.out.s).trans rfl
  have q1 : w3.cell? ⟨b + 1 + 1 + 1, 1, none⟩ = some (.int .i64 dl) := (cell_of_row w3 _ 1 _ _ _ HM3.out.s).trans rfl
  have q2 : w3.cell? ⟨b + 1 + 1 + 1, 2, none⟩ = some (.int .i64 ex) := (cell_of_row w3 _ 2 _ _ _ HM3.out.s).trans rfl
  have q3 : w3.cell? ⟨b + 1 + 1 + 1, 3, none⟩ = some (.int .i64 vs) := (cell_of_row w3 _ 3 _ _ _ HM3.out.s).trans rfl
  have z0 : w3.frozen? ⟨b, 0, none⟩ = false := frozen_of_row w3 _ _ _ _ HM3.out.l
  have hl0 : (w3.setCell ⟨b, 0, none⟩ (.int .i64 1)).heap[b]? = some (.cells #[.int .i64 1, .int .i64 dl, .int .i64 ex, .int .i64 vs] 23 (0, 0)) := heap_setCell_same w3 b 0 _ _ _ HM3.out.l
  have hr0 : (w3.setCell ⟨b, 0, none⟩ (.int .i64 1)).heap[b + 1 + 1]? = some (.cells #[.int .i64 0, .int .i64 0, .int .i64 0, .int .i64 0] 23 (0, 0)) := ((Fr.refl (fun i => i = b) _).setCell _ _ (.inl rfl)).heap HM3.out.r (by omega)
  have hf0 : Fr (fun _ => False) w (w3.setCell ⟨b, 0, none⟩ (.int .i64 1)) := HF3.out.setCell _ _ (.inr HBB.out)
  have k00 : (w3.setCell ⟨b, 0, none⟩ (.int .i64 1)).cell? ⟨b, 0, none⟩ = some (.int .i64 1) := (cell_of_row (w3.setCell ⟨b, 0, none⟩ (.int .i64 1)) _ 0 _ _ _ hl0).trans rfl
  have k01 : (w3.setCell ⟨b, 0, none⟩ (.int .i64 1)).cell? ⟨b, 1, none⟩ = some (.int .i64 dl) := (cell_of_row (w3.setCell ⟨b, 0, none⟩ (.int .i64 1)) _ 1 _ _ _ hl0).trans rfl
  have k02 : (w3.setCell ⟨b, 0, none⟩ (.int .i64 1)).cell? ⟨b, 2, none⟩ = some (.int .i64 ex) := (cell_of_row (w3.setCell ⟨b, 0, none⟩ (.int .i64 1)) _ 2 _ _ _ hl0).trans rfl
  have k03 : (w3.setCell ⟨b, 0, none⟩ (.int .i64 1)).cell? ⟨b, 3, none⟩ = some (.int .i64 vs) := (cell_of_row (w3.setCell ⟨b, 0, none⟩ (.int .i64 1)) _ 3 _ _ _ hl0).trans rfl
  have HRr := Lib.hid (show (w3.setCell ⟨b, 0, none⟩ (.int .i64 1)).heap[b + 1 + 1]? = some (.cells #[.int .i64 0, .int .i64 0, .int .i64 0, .int .i64 0] 23 (0, 0)) from hr0)
  have HE := Lib.hid (show ((w3.setCell ⟨b, 0, none⟩ (.int .i64 1)).setRow (b + 1 + 1) #[.int .i64 1, .int .i64 dl, .int .i64 ex, .int .i64 vs]).heap[b + 1 + 1]? = some (.cells #[.int .i64 1, .int .i64 dl, .int .i64 ex, .int .i64 vs] 23 (0, 0)) from row_set HRr.out)
  have HEF := Lib.hid (Fr.setRow (hf0) (b + 1 + 1) #[.int .i64 1, .int .i64 dl, .int .i64 ex, .int .i64 vs] (.inr (by have := HBB.out; omega)))
  clear hf0 hr0 hl0
  go_wp2_with (with_reducible refine wpList_store_whole (op := ⟨none, .store 23 _ _, _, _, _, _⟩) rfl 23 _ _ rfl (b + 1 + 1) 23 #[.int .i64 0, .int .i64 0, .int .i64 0, .int .i64 0] #[.int .i64 1, .int .i64 dl, .int .i64 ex, .int .i64 vs] rfl rfl HRr.out rfl (by kernel_rfl) (by simp [Value.oneCell']) ?_)
  refine bodyPost_ret (result_row rfl _ _ (b + 1 + 1) 23 #[.int .i64 1, .int .i64 dl, .int .i64 ex, .int .i64 vs] (0, 0) _ (.int .i64 0) rfl rfl HE.out Try.underlying23 rfl (by kernel_rfl)) rfl ?_
  exact ⟨rfl, HEF.out⟩
set_option maxRecDepth 20000 in
set_option maxHeartbeats 4000000 in
theorem step_disable (dl ex vs n now : Int) (hr : life_Right.f 1 dl ex vs = some true) (ht0 : 0 ≤ now) (ht1 : now ≤ 1099511627776) (w : World) :
    Calls Try.prog 14 #[.agg #[.int .i64 1, .int .i64 dl, .int .i64 ex, .int .i64 vs], .agg #[.int .i64 2, .int .i64 n], .int .i64 now] w fun e w' => e = .returned (.tuple #[.agg #[.int .i64 2, .int .i64 dl, .int .i64 ex, .int .i64 vs], .int .i64 0]) ∧ Fr (fun _ => False) w w' := by
  have HR := Lib.hid hr
  have HT := Lib.hid (And.intro ht0 ht1)
  clear hr
  go_enter Try.func14, Try.ntmps14
  go_wp2_with fail
  refine (right_calls 1 dl ex vs true HR.out _).mono ?_
  rintro e w1 ⟨rfl, f1⟩
  obtain ⟨hm, hf0⟩ := mem_start w 1 dl ex vs 2 n
  have HM1 := Lib.hid (hm.fr f1)
  have HF1 := Lib.hid (hf0.trans f1 (fun i hi => hi.elim))
  have HB := Lib.hid (Nat.le_refl w.heap.size)
  clear f1 hm hf0
  obtain ⟨b, hb⟩ : ∃ b, b = w.heap.size := ⟨_, rfl⟩
  rw [← hb] at HM1 ⊢
  have HBB := Lib.hid (show w.heap.size ≤ b by omega)
  clear hb HB
  go_wp2_with fail
  refine (time_calls now HT.out.1 HT.out.2 w1).mono ?_
  rintro e w2 ⟨rfl, f2⟩
  have HM2 := Lib.hid (HM1.out.fr f2)
  have HF2 := Lib.hid (HF1.out.trans f2 (fun i hi => hi.elim))
  clear f2 HM1 HF1
  have c0 : w2.cell? ⟨b, 0, none⟩ = some (.int .i64 1) := (cell_of_row w2 _ 0 _ _ _ HM2.out.l).trans rfl
  have c1 : w2.cell? ⟨b, 1, none⟩ = some (.int .i64 dl) := (cell_of_row w2 _ 1 _ _ _ HM2.out.l).trans rfl
  have c2 : w2.cell? ⟨b, 2, none⟩ = some (.int .i64 ex) := (cell_of_row w2 _ 2 _ _ _ HM2.out.l).trans rfl
  have c3 : w2.cell? ⟨b, 3, none⟩ = some (.int .i64 vs) := (cell_of_row w2 _ 3 _ _ _ HM2.out.l).trans rfl
  have x0 : w2.cell? ⟨b + 1, 0, none⟩ = some (.int .i64 2) := (cell_of_row w2 _ 0 _ _ _ HM2.out.x).trans rfl
  have x1 : w2.cell? ⟨b + 1, 1, none⟩ = some (.int .i64 n) := (cell_of_row w2 _ 1 _ _ _ HM2.out.x).trans rfl
  have q0 : w2.cell? ⟨b + 1 + 1 + 1, 0, none⟩ = some (.int .i64 1) := (cell_of_row w2 _ 0 _ _ _ HM2.out.s).trans rfl
  have q1 : w2.cell? ⟨b + 1 + 1 + 1, 1, none⟩ = some (.int .i64 dl) := (cell_of_row w2 _ 1 _ _ _ HM2.out.s).trans rfl
  have q2 : w2.cell? ⟨b + 1 + 1 + 1, 2, none⟩ = some (.int .i64 ex) := (cell_of_row w2 _ 2 _ _ _ HM2.out.s).trans rfl
  have q3 : w2.cell? ⟨b + 1 + 1 + 1, 3, none⟩ = some (.int .i64 vs) := (cell_of_row w2 _ 3 _ _ _ HM2.out.s).trans rfl
  go_wp2_with fail
  refine (from_calls 1 dl ex vs 1 1 0 (from_yes _ _ _ _ _ _ (.inl rfl) (by decide)) w2).mono ?_
  rintro e w3 ⟨rfl, f3⟩
  have HM3 := Lib.hid (HM2.out.fr f3)
  have HF3 := Lib.hid (HF2.out.trans f3 (fun i hi => hi.elim))
  clear f3 HM2 HF2 c0 c1 c2 c3 x0 x1 q0 q1 q2 q3
  have c0 : w3.cell? ⟨b, 0, none⟩ = some (.int .i64 1) := (cell_of_row w3 _ 0 _ _ _ HM3.out.l).trans rfl
  have c1 : w3.cell? ⟨b, 1, none⟩ = some (.int .i64 dl) := (cell_of_row w3 _ 1 _ _ _ HM3.out.l).trans rfl
  have c2 : w3.cell? ⟨b, 2, none⟩ = some (.int .i64 ex) := (cell_of_row w3 _ 2 _ _ _ HM3.out.l).trans rfl
  have c3 : w3.cell? ⟨b, 3, none⟩ = some (.int .i64 vs) := (cell_of_row w3 _ 3 _ _ _ HM3.out.l).trans rfl
  have x0 : w3.cell? ⟨b + 1, 0, none⟩ = some (.int .i64 2) := (cell_of_row w3 _ 0 _ _ _ HM3.out.x).trans rfl
  have x1 : w3.cell? ⟨b + 1, 1, none⟩ = some (.int .i64 n) := (cell_of_row w3 _ 1 _ _ _ HM3.out.x).trans rfl
  have q0 : w3.cell? ⟨b + 1 + 1 + 1, 0, none⟩ = some (.int .i64 1) := (cell_of_row w3 _ 0 _ _ _ HM3.out.s).trans rfl
  have q1 : w3.cell? ⟨b + 1 + 1 + 1, 1, none⟩ = some (.int .i64 dl) := (cell_of_row w3 _ 1 _ _ _ HM3.out.s).trans rfl
  have q2 : w3.cell? ⟨b + 1 + 1 + 1, 2, none⟩ = some (.int .i64 ex) := (cell_of_row w3 _ 2 _ _ _ HM3.out.s).trans rfl
  have q3 : w3.cell? ⟨b + 1 + 1 + 1, 3, none⟩ = some (.int .i64 vs) := (cell_of_row w3 _ 3 _ _ _ HM3.out.s).trans rfl
  have z0 : w3.frozen? ⟨b, 0, none⟩ = false := frozen_of_row w3 _ _ _ _ HM3.out.l
  have hl0 : (w3.setCell ⟨b, 0, none⟩ (.int .i64 2)).heap[b]? = some (.cells #[.int .i64 2, .int .i64 dl, .int .i64 ex, .int .i64 vs] 23 (0, 0)) := heap_setCell_same w3 b 0 _ _ _ HM3.out.l
  have hr0 : (w3.setCell ⟨b, 0, none⟩ (.int .i64 2)).heap[b + 1 + 1]? = some (.cells #[.int .i64 0, .int .i64 0, .int .i64 0, .int .i64 0] 23 (0, 0)) := ((Fr.refl (fun i => i = b) _).setCell _ _ (.inl rfl)).heap HM3.out.r (by omega)
  have hf0 : Fr (fun _ => False) w (w3.setCell ⟨b, 0, none⟩ (.int .i64 2)) := HF3.out.setCell _ _ (.inr HBB.out)
  have k00 : (w3.setCell ⟨b, 0, none⟩ (.int .i64 2)).cell? ⟨b, 0, none⟩ = some (.int .i64 2) := (cell_of_row (w3.setCell ⟨b, 0, none⟩ (.int .i64 2)) _ 0 _ _ _ hl0).trans rfl
  have k01 : (w3.setCell ⟨b, 0, none⟩ (.int .i64 2)).cell? ⟨b, 1, none⟩ = some (.int .i64 dl) := (cell_of_row (w3.setCell ⟨b, 0, none⟩ (.int .i64 2)) _ 1 _ _ _ hl0).trans rfl
  have k02 : (w3.setCell ⟨b, 0, none⟩ (.int .i64 2)).cell? ⟨b, 2, none⟩ = some (.int .i64 ex) := (cell_of_row (w3.setCell ⟨b, 0, none⟩ (.int .i64 2)) _ 2 _ _ _ hl0).trans rfl
  have k03 : (w3.setCell ⟨b, 0, none⟩ (.int .i64 2)).cell? ⟨b, 3, none⟩ = some (.int .i64 vs) := (cell_of_row (w3.setCell ⟨b, 0, none⟩ (.int .i64 2)) _ 3 _ _ _ hl0).trans rfl
  have HRr := Lib.hid (show (w3.setCell ⟨b, 0, none⟩ (.int .i64 2)).heap[b + 1 + 1]? = some (.cells #[.int .i64 0, .int .i64 0, .int .i64 0, .int .i64 0] 23 (0, 0)) from hr0)
  have HE := Lib.hid (show ((w3.setCell ⟨b, 0, none⟩ (.int .i64 2)).setRow (b + 1 + 1) #[.int .i64 2, .int .i64 dl, .int .i64 ex, .int .i64 vs]).heap[b + 1 + 1]? = some (.cells #[.int .i64 2, .int .i64 dl, .int .i64 ex, .int .i64 vs] 23 (0, 0)) from row_set HRr.out)
  have HEF := Lib.hid (Fr.setRow (hf0) (b + 1 + 1) #[.int .i64 2, .int .i64 dl, .int .i64 ex, .int .i64 vs] (.inr (by have := HBB.out; omega)))
  clear hf0 hr0 hl0
  go_wp2_with (with_reducible refine wpList_store_whole (op := ⟨none, .store 23 _ _, _, _, _, _⟩) rfl 23 _ _ rfl (b + 1 + 1) 23 #[.int .i64 0, .int .i64 0, .int .i64 0, .int .i64 0] #[.int .i64 2, .int .i64 dl, .int .i64 ex, .int .i64 vs] rfl rfl HRr.out rfl (by kernel_rfl) (by simp [Value.oneCell']) ?_)
  refine bodyPost_ret (result_row rfl _ _ (b + 1 + 1) 23 #[.int .i64 2, .int .i64 dl, .int .i64 ex, .int .i64 vs] (0, 0) _ (.int .i64 0) rfl rfl HE.out Try.underlying23 rfl (by kernel_rfl)) rfl ?_
  exact ⟨rfl, HEF.out⟩
set_option maxRecDepth 20000 in
set_option maxHeartbeats 4000000 in
theorem step_cancel (dl ex vs n now : Int) (hr : life_Right.f 3 dl ex vs = some true) (ht0 : 0 ≤ now) (ht1 : now ≤ 1099511627776) (w : World) :
    Calls Try.prog 14 #[.agg #[.int .i64 3, .int .i64 dl, .int .i64 ex, .int .i64 vs], .agg #[.int .i64 4, .int .i64 n], .int .i64 now] w fun e w' => e = .returned (.tuple #[.agg #[.int .i64 2, .int .i64 0, .int .i64 ex, .int .i64 vs], .int .i64 0]) ∧ Fr (fun _ => False) w w' := by
  have HR := Lib.hid hr
  have HT := Lib.hid (And.intro ht0 ht1)
  clear hr
  go_enter Try.func14, Try.ntmps14
  go_wp2_with fail
  refine (right_calls 3 dl ex vs true HR.out _).mono ?_
  rintro e w1 ⟨rfl, f1⟩
  obtain ⟨hm, hf0⟩ := mem_start w 3 dl ex vs 4 n
  have HM1 := Lib.hid (hm.fr f1)
  have HF1 := Lib.hid (hf0.trans f1 (fun i hi => hi.elim))
  have HB := Lib.hid (Nat.le_refl w.heap.size)
  clear f1 hm hf0
  obtain ⟨b, hb⟩ : ∃ b, b = w.heap.size := ⟨_, rfl⟩
  rw [← hb] at HM1 ⊢
  have HBB := Lib.hid (show w.heap.size ≤ b by omega)
  clear hb HB
  go_wp2_with fail
  refine (time_calls now HT.out.1 HT.out.2 w1).mono ?_
  rintro e w2 ⟨rfl, f2⟩
  have HM2 := Lib.hid (HM1.out.fr f2)
  have HF2 := Lib.hid (HF1.out.trans f2 (fun i hi => hi.elim))
  clear f2 HM1 HF1
  have c0 : w2.cell? ⟨b, 0, none⟩ = some (.int .i64 3) := (cell_of_row w2 _ 0 _ _ _ HM2.out.l).trans rfl
  have c1 : w2.cell? ⟨b, 1, none⟩ = some (.int .i64 dl) := (cell_of_row w2 _ 1 _ _ _ HM2.out.l).trans rfl
  have c2 : w2.cell? ⟨b, 2, none⟩ = some (.int .i64 ex) := (cell_of_row w2 _ 2 _ _ _ HM2.out.l).trans rfl
  have c3 : w2.cell? ⟨b, 3, none⟩ = some (.int .i64 vs) := (cell_of_row w2 _ 3 _ _ _ HM2.out.l).trans rfl
  have x0 : w2.cell? ⟨b + 1, 0, none⟩ = some (.int .i64 4) := (cell_of_row w2 _ 0 _ _ _ HM2.out.x).trans rfl
  have x1 : w2.cell? ⟨b + 1, 1, none⟩ = some (.int .i64 n) := (cell_of_row w2 _ 1 _ _ _ HM2.out.x).trans rfl
  have q0 : w2.cell? ⟨b + 1 + 1 + 1, 0, none⟩ = some (.int .i64 3) := (cell_of_row w2 _ 0 _ _ _ HM2.out.s).trans rfl
  have q1 : w2.cell? ⟨b + 1 + 1 + 1, 1, none⟩ = some (.int .i64 dl) := (cell_of_row w2 _ 1 _ _ _ HM2.out.s).trans rfl
  have q2 : w2.cell? ⟨b + 1 + 1 + 1, 2, none⟩ = some (.int .i64 ex) := (cell_of_row w2 _ 2 _ _ _ HM2.out.s).trans rfl
  have q3 : w2.cell? ⟨b + 1 + 1 + 1, 3, none⟩ = some (.int .i64 vs) := (cell_of_row w2 _ 3 _ _ _ HM2.out.s).trans rfl
  go_wp2_with fail
  refine (from_calls 3 dl ex vs 3 3 0 (from_yes _ _ _ _ _ _ (.inl rfl) (by decide)) w2).mono ?_
  rintro e w3 ⟨rfl, f3⟩
  have HM3 := Lib.hid (HM2.out.fr f3)
  have HF3 := Lib.hid (HF2.out.trans f3 (fun i hi => hi.elim))
  clear f3 HM2 HF2 c0 c1 c2 c3 x0 x1 q0 q1 q2 q3
  have c0 : w3.cell? ⟨b, 0, none⟩ = some (.int .i64 3) := (cell_of_row w3 _ 0 _ _ _ HM3.out.l).trans rfl
  have c1 : w3.cell? ⟨b, 1, none⟩ = some (.int .i64 dl) := (cell_of_row w3 _ 1 _ _ _ HM3.out.l).trans rfl
  have c2 : w3.cell? ⟨b, 2, none⟩ = some (.int .i64 ex) := (cell_of_row w3 _ 2 _ _ _ HM3.out.l).trans rfl
  have c3 : w3.cell? ⟨b, 3, none⟩ = some (.int .i64 vs) := (cell_of_row w3 _ 3 _ _ _ HM3.out.l).trans rfl
  have x0 : w3.cell? ⟨b + 1, 0, none⟩ = some (.int .i64 4) := (cell_of_row w3 _ 0 _ _ _ HM3.out.x).trans rfl
  have x1 : w3.cell? ⟨b + 1, 1, none⟩ = some (.int .i64 n) := (cell_of_row w3 _ 1 _ _ _ HM3.out.x).trans rfl
  have q0 : w3.cell? ⟨b + 1 + 1 + 1, 0, none⟩ = some (.int .i64 3) := (cell_of_row w3 _ 0 _ _ _ HM3.out.s).trans rfl
  have q1 : w3.cell? ⟨b + 1 + 1 + 1, 1, none⟩ = some (.int .i64 dl) := (cell_of_row w3 _ 1 _ _ _ HM3.out.s).trans rfl
  have q2 : w3.cell? ⟨b + 1 + 1 + 1, 2, none⟩ = some (.int .i64 ex) := (cell_of_row w3 _ 2 _ _ _ HM3.out.s).trans rfl
  have q3 : w3.cell? ⟨b + 1 + 1 + 1, 3, none⟩ = some (.int .i64 vs) := (cell_of_row w3 _ 3 _ _ _ HM3.out.s).trans rfl
  have z0 : w3.frozen? ⟨b, 0, none⟩ = false := frozen_of_row w3 _ _ _ _ HM3.out.l
  have hl0 : (w3.setCell ⟨b, 0, none⟩ (.int .i64 2)).heap[b]? = some (.cells #[.int .i64 2, .int .i64 dl, .int .i64 ex, .int .i64 vs] 23 (0, 0)) := heap_setCell_same w3 b 0 _ _ _ HM3.out.l
  have hr0 : (w3.setCell ⟨b, 0, none⟩ (.int .i64 2)).heap[b + 1 + 1]? = some (.cells #[.int .i64 0, .int .i64 0, .int .i64 0, .int .i64 0] 23 (0, 0)) := ((Fr.refl (fun i => i = b) _).setCell _ _ (.inl rfl)).heap HM3.out.r (by omega)
  have hf0 : Fr (fun _ => False) w (w3.setCell ⟨b, 0, none⟩ (.int .i64 2)) := HF3.out.setCell _ _ (.inr HBB.out)
  have k00 : (w3.setCell ⟨b, 0, none⟩ (.int .i64 2)).cell? ⟨b, 0, none⟩ = some (.int .i64 2) := (cell_of_row (w3.setCell ⟨b, 0, none⟩ (.int .i64 2)) _ 0 _ _ _ hl0).trans rfl
  have k01 : (w3.setCell ⟨b, 0, none⟩ (.int .i64 2)).cell? ⟨b, 1, none⟩ = some (.int .i64 dl) := (cell_of_row (w3.setCell ⟨b, 0, none⟩ (.int .i64 2)) _ 1 _ _ _ hl0).trans rfl
  have k02 : (w3.setCell ⟨b, 0, none⟩ (.int .i64 2)).cell? ⟨b, 2, none⟩ = some (.int .i64 ex) := (cell_of_row (w3.setCell ⟨b, 0, none⟩ (.int .i64 2)) _ 2 _ _ _ hl0).trans rfl
  have k03 : (w3.setCell ⟨b, 0, none⟩ (.int .i64 2)).cell? ⟨b, 3, none⟩ = some (.int .i64 vs) := (cell_of_row (w3.setCell ⟨b, 0, none⟩ (.int .i64 2)) _ 3 _ _ _ hl0).trans rfl
  have z1 : (w3.setCell ⟨b, 0, none⟩ (.int .i64 2)).frozen? ⟨b, 1, none⟩ = false := frozen_of_row (w3.setCell ⟨b, 0, none⟩ (.int .i64 2)) _ _ _ _ hl0
  have hl1 : ((w3.setCell ⟨b, 0, none⟩ (.int .i64 2)).setCell ⟨b, 1, none⟩ (.int .i64 0)).heap[b]? = some (.cells #[.int .i64 2, .int .i64 0, .int .i64 ex, .int .i64 vs] 23 (0, 0)) := heap_setCell_same (w3.setCell ⟨b, 0, none⟩ (.int .i64 2)) b 1 _ _ _ hl0
  have hr1 : ((w3.setCell ⟨b, 0, none⟩ (.int .i64 2)).setCell ⟨b, 1, none⟩ (.int .i64 0)).heap[b + 1 + 1]? = some (.cells #[.int .i64 0, .int .i64 0, .int .i64 0, .int .i64 0] 23 (0, 0)) := ((Fr.refl (fun i => i = b) _).setCell _ _ (.inl rfl)).heap hr0 (by omega)
  have hf1 : Fr (fun _ => False) w ((w3.setCell ⟨b, 0, none⟩ (.int .i64 2)).setCell ⟨b, 1, none⟩ (.int .i64 0)) := hf0.setCell _ _ (.inr HBB.out)
  have k10 : ((w3.setCell ⟨b, 0, none⟩ (.int .i64 2)).setCell ⟨b, 1, none⟩ (.int .i64 0)).cell? ⟨b, 0, none⟩ = some (.int .i64 2) := (cell_of_row ((w3.setCell ⟨b, 0, none⟩ (.int .i64 2)).setCell ⟨b, 1, none⟩ (.int .i64 0)) _ 0 _ _ _ hl1).trans rfl
  have k11 : ((w3.setCell ⟨b, 0, none⟩ (.int .i64 2)).setCell ⟨b, 1, none⟩ (.int .i64 0)).cell? ⟨b, 1, none⟩ = some (.int .i64 0) := (cell_of_row ((w3.setCell ⟨b, 0, none⟩ (.int .i64 2)).setCell ⟨b, 1, none⟩ (.int .i64 0)) _ 1 _ _ _ hl1).trans rfl
  have k12 : ((w3.setCell ⟨b, 0, none⟩ (.int .i64 2)).setCell ⟨b, 1, none⟩ (.int .i64 0)).cell? ⟨b, 2, none⟩ = some (.int .i64 ex) := (cell_of_row ((w3.setCell ⟨b, 0, none⟩ (.int .i64 2)).setCell ⟨b, 1, none⟩ (.int .i64 0)) _ 2 _ _ _ hl1).trans rfl
  have k13 : ((w3.setCell ⟨b, 0, none⟩ (.int .i64 2)).setCell ⟨b, 1, none⟩ (.int .i64 0)).cell? ⟨b, 3, none⟩ = some (.int .i64 vs) := (cell_of_row ((w3.setCell ⟨b, 0, none⟩ (.int .i64 2)).setCell ⟨b, 1, none⟩ (.int .i64 0)) _ 3 _ _ _ hl1).trans rfl
  have HRr := Lib.hid (show ((w3.setCell ⟨b, 0, none⟩ (.int .i64 2)).setCell ⟨b, 1, none⟩ (.int .i64 0)).heap[b + 1 + 1]? = some (.cells #[.int .i64 0, .int .i64 0, .int .i64 0, .int .i64 0] 23 (0, 0)) from hr1)
  have HE := Lib.hid (show (((w3.setCell ⟨b, 0, none⟩ (.int .i64 2)).setCell ⟨b, 1, none⟩ (.int .i64 0)).setRow (b + 1 + 1) #[.int .i64 2, .int .i64 0, .int .i64 ex, .int .i64 vs]).heap[b + 1 + 1]? = some (.cells #[.int .i64 2, .int .i64 0, .int .i64 ex, .int .i64 vs] 23 (0, 0)) from row_set HRr.out)
  have HEF := Lib.hid (Fr.setRow (hf1) (b + 1 + 1) #[.int .i64 2, .int .i64 0, .int .i64 ex, .int .i64 vs] (.inr (by have := HBB.out; omega)))
  clear hf1 hr1 hl1 hf0 hr0 hl0
  go_wp2_with (with_reducible refine wpList_store_whole (op := ⟨none, .store 23 _ _, _, _, _, _⟩) rfl 23 _ _ rfl (b + 1 + 1) 23 #[.int .i64 0, .int .i64 0, .int .i64 0, .int .i64 0] #[.int .i64 2, .int .i64 0, .int .i64 ex, .int .i64 vs] rfl rfl HRr.out rfl (by kernel_rfl) (by simp [Value.oneCell']) ?_)
  refine bodyPost_ret (result_row rfl _ _ (b + 1 + 1) 23 #[.int .i64 2, .int .i64 0, .int .i64 ex, .int .i64 vs] (0, 0) _ (.int .i64 0) rfl rfl HE.out Try.underlying23 rfl (by kernel_rfl)) rfl ?_
  exact ⟨rfl, HEF.out⟩
set_option maxRecDepth 20000 in
set_option maxHeartbeats 4000000 in
theorem step_expire (dl ex vs n now : Int) (hr : life_Right.f 1 dl ex vs = some true) (ht0 : 0 ≤ now) (ht1 : now ≤ 1099511627776) (hn0 : 0 ≤ n) (hn1 : n ≤ 1099511627776) (w : World) :
    Calls Try.prog 14 #[.agg #[.int .i64 1, .int .i64 dl, .int .i64 ex, .int .i64 vs], .agg #[.int .i64 6, .int .i64 n], .int .i64 now] w fun e w' => e = .returned (.tuple #[.agg #[.int .i64 1, .int .i64 dl, .int .i64 n, .int .i64 vs], .int .i64 0]) ∧ Fr (fun _ => False) w w' := by
  have HR := Lib.hid hr
  have HT := Lib.hid (And.intro ht0 ht1)
  clear hr
  go_enter Try.func14, Try.ntmps14
  go_wp2_with fail
  refine (right_calls 1 dl ex vs true HR.out _).mono ?_
  rintro e w1 ⟨rfl, f1⟩
  obtain ⟨hm, hf0⟩ := mem_start w 1 dl ex vs 6 n
  have HM1 := Lib.hid (hm.fr f1)
  have HF1 := Lib.hid (hf0.trans f1 (fun i hi => hi.elim))
  have HB := Lib.hid (Nat.le_refl w.heap.size)
  clear f1 hm hf0
  obtain ⟨b, hb⟩ : ∃ b, b = w.heap.size := ⟨_, rfl⟩
  rw [← hb] at HM1 ⊢
  have HBB := Lib.hid (show w.heap.size ≤ b by omega)
  clear hb HB
  go_wp2_with fail
  refine (time_calls now HT.out.1 HT.out.2 w1).mono ?_
  rintro e w2 ⟨rfl, f2⟩
  have HM2 := Lib.hid (HM1.out.fr f2)
  have HF2 := Lib.hid (HF1.out.trans f2 (fun i hi => hi.elim))
  clear f2 HM1 HF1
  have c0 : w2.cell? ⟨b, 0, none⟩ = some (.int .i64 1) := (cell_of_row w2 _ 0 _ _ _ HM2.out.l).trans rfl
  have c1 : w2.cell? ⟨b, 1, none⟩ = some (.int .i64 dl) := (cell_of_row w2 _ 1 _ _ _ HM2.out.l).trans rfl
  have c2 : w2.cell? ⟨b, 2, none⟩ = some (.int .i64 ex) := (cell_of_row w2 _ 2 _ _ _ HM2.out.l).trans rfl
  have c3 : w2.cell? ⟨b, 3, none⟩ = some (.int .i64 vs) := (cell_of_row w2 _ 3 _ _ _ HM2.out.l).trans rfl
  have x0 : w2.cell? ⟨b + 1, 0, none⟩ = some (.int .i64 6) := (cell_of_row w2 _ 0 _ _ _ HM2.out.x).trans rfl
  have x1 : w2.cell? ⟨b + 1, 1, none⟩ = some (.int .i64 n) := (cell_of_row w2 _ 1 _ _ _ HM2.out.x).trans rfl
  have q0 : w2.cell? ⟨b + 1 + 1 + 1, 0, none⟩ = some (.int .i64 1) := (cell_of_row w2 _ 0 _ _ _ HM2.out.s).trans rfl
  have q1 : w2.cell? ⟨b + 1 + 1 + 1, 1, none⟩ = some (.int .i64 dl) := (cell_of_row w2 _ 1 _ _ _ HM2.out.s).trans rfl
  have q2 : w2.cell? ⟨b + 1 + 1 + 1, 2, none⟩ = some (.int .i64 ex) := (cell_of_row w2 _ 2 _ _ _ HM2.out.s).trans rfl
  have q3 : w2.cell? ⟨b + 1 + 1 + 1, 3, none⟩ = some (.int .i64 vs) := (cell_of_row w2 _ 3 _ _ _ HM2.out.s).trans rfl
  go_wp2_with fail
  refine (time_calls (n) hn0 hn1 w2).mono ?_
  rintro e w3 ⟨rfl, f3⟩
  have HM3 := Lib.hid (HM2.out.fr f3)
  have HF3 := Lib.hid (HF2.out.trans f3 (fun i hi => hi.elim))
  clear f3 HM2 HF2 c0 c1 c2 c3 x0 x1 q0 q1 q2 q3
  have c0 : w3.cell? ⟨b, 0, none⟩ = some (.int .i64 1) := (cell_of_row w3 _ 0 _ _ _ HM3.out.l).trans rfl
  have c1 : w3.cell? ⟨b, 1, none⟩ = some (.int .i64 dl) := (cell_of_row w3 _ 1 _ _ _ HM3.out.l).trans rfl
  have c2 : w3.cell? ⟨b, 2, none⟩ = some (.int .i64 ex) := (cell_of_row w3 _ 2 _ _ _ HM3.out.l).trans rfl
  have c3 : w3.cell? ⟨b, 3, none⟩ = some (.int .i64 vs) := (cell_of_row w3 _ 3 _ _ _ HM3.out.l).trans rfl
  have x0 : w3.cell? ⟨b + 1, 0, none⟩ = some (.int .i64 6) := (cell_of_row w3 _ 0 _ _ _ HM3.out.x).trans rfl
  have x1 : w3.cell? ⟨b + 1, 1, none⟩ = some (.int .i64 n) := (cell_of_row w3 _ 1 _ _ _ HM3.out.x).trans rfl
  have q0 : w3.cell? ⟨b + 1 + 1 + 1, 0, none⟩ = some (.int .i64 1) := (cell_of_row w3 _ 0 _ _ _ HM3.out.s).trans rfl
  have q1 : w3.cell? ⟨b + 1 + 1 + 1, 1, none⟩ = some (.int .i64 dl) := (cell_of_row w3 _ 1 _ _ _ HM3.out.s).trans rfl
  have q2 : w3.cell? ⟨b + 1 + 1 + 1, 2, none⟩ = some (.int .i64 ex) := (cell_of_row w3 _ 2 _ _ _ HM3.out.s).trans rfl
  have q3 : w3.cell? ⟨b + 1 + 1 + 1, 3, none⟩ = some (.int .i64 vs) := (cell_of_row w3 _ 3 _ _ _ HM3.out.s).trans rfl
  go_wp2_with fail
  refine (from_calls 1 dl ex vs 1 2 0 (from_yes _ _ _ _ _ _ (.inl rfl) (by decide)) w3).mono ?_
  rintro e w4 ⟨rfl, f4⟩
  have HM4 := Lib.hid (HM3.out.fr f4)
  have HF4 := Lib.hid (HF3.out.trans f4 (fun i hi => hi.elim))
  clear f4 HM3 HF3 c0 c1 c2 c3 x0 x1 q0 q1 q2 q3
  have c0 : w4.cell? ⟨b, 0, none⟩ = some (.int .i64 1) := (cell_of_row w4 _ 0 _ _ _ HM4.out.l).trans rfl
  have c1 : w4.cell? ⟨b, 1, none⟩ = some (.int .i64 dl) := (cell_of_row w4 _ 1 _ _ _ HM4.out.l).trans rfl
  have c2 : w4.cell? ⟨b, 2, none⟩ = some (.int .i64 ex) := (cell_of_row w4 _ 2 _ _ _ HM4.out.l).trans rfl
  have c3 : w4.cell? ⟨b, 3, none⟩ = some (.int .i64 vs) := (cell_of_row w4 _ 3 _ _ _ HM4.out.l).trans rfl
  have x0 : w4.cell? ⟨b + 1, 0, none⟩ = some (.int .i64 6) := (cell_of_row w4 _ 0 _ _ _ HM4.out.x).trans rfl
  have x1 : w4.cell? ⟨b + 1, 1, none⟩ = some (.int .i64 n) := (cell_of_row w4 _ 1 _ _ _ HM4.out.x).trans rfl
  have q0 : w4.cell? ⟨b + 1 + 1 + 1, 0, none⟩ = some (.int .i64 1) := (cell_of_row w4 _ 0 _ _ _ HM4.out.s).trans rfl
  have q1 : w4.cell? ⟨b + 1 + 1 + 1, 1, none⟩ = some (.int .i64 dl) := (cell_of_row w4 _ 1 _ _ _ HM4.out.s).trans rfl
  have q2 : w4.cell? ⟨b + 1 + 1 + 1, 2, none⟩ = some (.int .i64 ex) := (cell_of_row w4 _ 2 _ _ _ HM4.out.s).trans rfl
  have q3 : w4.cell? ⟨b + 1 + 1 + 1, 3, none⟩ = some (.int .i64 vs) := (cell_of_row w4 _ 3 _ _ _ HM4.out.s).trans rfl
  have z2 : w4.frozen? ⟨b, 2, none⟩ = false := frozen_of_row w4 _ _ _ _ HM4.out.l
  have hl2 : (w4.setCell ⟨b, 2, none⟩ (.int .i64 n)).heap[b]? = some (.cells #[.int .i64 1, .int .i64 dl, .int .i64 n, .int .i64 vs] 23 (0, 0)) := heap_setCell_same w4 b 2 _ _ _ HM4.out.l
  have hr2 : (w4.setCell ⟨b, 2, none⟩ (.int .i64 n)).heap[b + 1 + 1]? = some (.cells #[.int .i64 0, .int .i64 0, .int .i64 0, .int .i64 0] 23 (0, 0)) := ((Fr.refl (fun i => i = b) _).setCell _ _ (.inl rfl)).heap HM4.out.r (by omega)
  have hf2 : Fr (fun _ => False) w (w4.setCell ⟨b, 2, none⟩ (.int .i64 n)) := HF4.out.setCell _ _ (.inr HBB.out)
  have k20 : (w4.setCell ⟨b, 2, none⟩ (.int .i64 n)).cell? ⟨b, 0, none⟩ = some (.int .i64 1) := (cell_of_row (w4.setCell ⟨b, 2, none⟩ (.int .i64 n)) _ 0 _ _ _ hl2).trans rfl
  have k21 : (w4.setCell ⟨b, 2, none⟩ (.int .i64 n)).cell? ⟨b, 1, none⟩ = some (.int .i64 dl) := (cell_of_row (w4.setCell ⟨b, 2, none⟩ (.int .i64 n)) _ 1 _ _ _ hl2).trans rfl
  have k22 : (w4.setCell ⟨b, 2, none⟩ (.int .i64 n)).cell? ⟨b, 2, none⟩ = some (.int .i64 n) := (cell_of_row (w4.setCell ⟨b, 2, none⟩ (.int .i64 n)) _ 2 _ _ _ hl2).trans rfl
  have k23 : (w4.setCell ⟨b, 2, none⟩ (.int .i64 n)).cell? ⟨b, 3, none⟩ = some (.int .i64 vs) := (cell_of_row (w4.setCell ⟨b, 2, none⟩ (.int .i64 n)) _ 3 _ _ _ hl2).trans rfl
  have HRr := Lib.hid (show (w4.setCell ⟨b, 2, none⟩ (.int .i64 n)).heap[b + 1 + 1]? = some (.cells #[.int .i64 0, .int .i64 0, .int .i64 0, .int .i64 0] 23 (0, 0)) from hr2)
  have HE := Lib.hid (show ((w4.setCell ⟨b, 2, none⟩ (.int .i64 n)).setRow (b + 1 + 1) #[.int .i64 1, .int .i64 dl, .int .i64 n, .int .i64 vs]).heap[b + 1 + 1]? = some (.cells #[.int .i64 1, .int .i64 dl, .int .i64 n, .int .i64 vs] 23 (0, 0)) from row_set HRr.out)
  have HEF := Lib.hid (Fr.setRow (hf2) (b + 1 + 1) #[.int .i64 1, .int .i64 dl, .int .i64 n, .int .i64 vs] (.inr (by have := HBB.out; omega)))
  clear hf2 hr2 hl2
  go_wp2_with (with_reducible refine wpList_store_whole (op := ⟨none, .store 23 _ _, _, _, _, _⟩) rfl 23 _ _ rfl (b + 1 + 1) 23 #[.int .i64 0, .int .i64 0, .int .i64 0, .int .i64 0] #[.int .i64 1, .int .i64 dl, .int .i64 n, .int .i64 vs] rfl rfl HRr.out rfl (by kernel_rfl) (by simp [Value.oneCell']) ?_)
  refine bodyPost_ret (result_row rfl _ _ (b + 1 + 1) 23 #[.int .i64 1, .int .i64 dl, .int .i64 n, .int .i64 vs] (0, 0) _ (.int .i64 0) rfl rfl HE.out Try.underlying23 rfl (by kernel_rfl)) rfl ?_
  exact ⟨rfl, HEF.out⟩
set_option maxRecDepth 20000 in
set_option maxHeartbeats 4000000 in
theorem step_sweep1 (dl ex vs n now : Int) (hr : life_Right.f 1 dl ex vs = some true) (ht0 : 0 ≤ now) (ht1 : now ≤ 1099511627776) (w : World) :
    Calls Try.prog 14 #[.agg #[.int .i64 1, .int .i64 dl, .int .i64 ex, .int .i64 vs], .agg #[.int .i64 7, .int .i64 n], .int .i64 now] w fun e w' => e = .returned (.tuple #[.agg #[.int .i64 1, .int .i64 dl, .int .i64 ex, .int .i64 vs], .int .i64 0]) ∧ Fr (fun _ => False) w w' := by
  have HR := Lib.hid hr
  have HT := Lib.hid (And.intro ht0 ht1)
  clear hr
  go_enter Try.func14, Try.ntmps14
  go_wp2_with fail
  refine (right_calls 1 dl ex vs true HR.out _).mono ?_
  rintro e w1 ⟨rfl, f1⟩
  obtain ⟨hm, hf0⟩ := mem_start w 1 dl ex vs 7 n
  have HM1 := Lib.hid (hm.fr f1)
  have HF1 := Lib.hid (hf0.trans f1 (fun i hi => hi.elim))
  have HB := Lib.hid (Nat.le_refl w.heap.size)
  clear f1 hm hf0
  obtain ⟨b, hb⟩ : ∃ b, b = w.heap.size := ⟨_, rfl⟩
  rw [← hb] at HM1 ⊢
  have HBB := Lib.hid (show w.heap.size ≤ b by omega)
  clear hb HB
  go_wp2_with fail
  refine (time_calls now HT.out.1 HT.out.2 w1).mono ?_
  rintro e w2 ⟨rfl, f2⟩
  have HM2 := Lib.hid (HM1.out.fr f2)
  have HF2 := Lib.hid (HF1.out.trans f2 (fun i hi => hi.elim))
  clear f2 HM1 HF1
  have c0 : w2.cell? ⟨b, 0, none⟩ = some (.int .i64 1) := (cell_of_row w2 _ 0 _ _ _ HM2.out.l).trans rfl
  have c1 : w2.cell? ⟨b, 1, none⟩ = some (.int .i64 dl) := (cell_of_row w2 _ 1 _ _ _ HM2.out.l).trans rfl
  have c2 : w2.cell? ⟨b, 2, none⟩ = some (.int .i64 ex) := (cell_of_row w2 _ 2 _ _ _ HM2.out.l).trans rfl
  have c3 : w2.cell? ⟨b, 3, none⟩ = some (.int .i64 vs) := (cell_of_row w2 _ 3 _ _ _ HM2.out.l).trans rfl
  have x0 : w2.cell? ⟨b + 1, 0, none⟩ = some (.int .i64 7) := (cell_of_row w2 _ 0 _ _ _ HM2.out.x).trans rfl
  have x1 : w2.cell? ⟨b + 1, 1, none⟩ = some (.int .i64 n) := (cell_of_row w2 _ 1 _ _ _ HM2.out.x).trans rfl
  have q0 : w2.cell? ⟨b + 1 + 1 + 1, 0, none⟩ = some (.int .i64 1) := (cell_of_row w2 _ 0 _ _ _ HM2.out.s).trans rfl
  have q1 : w2.cell? ⟨b + 1 + 1 + 1, 1, none⟩ = some (.int .i64 dl) := (cell_of_row w2 _ 1 _ _ _ HM2.out.s).trans rfl
  have q2 : w2.cell? ⟨b + 1 + 1 + 1, 2, none⟩ = some (.int .i64 ex) := (cell_of_row w2 _ 2 _ _ _ HM2.out.s).trans rfl
  have q3 : w2.cell? ⟨b + 1 + 1 + 1, 3, none⟩ = some (.int .i64 vs) := (cell_of_row w2 _ 3 _ _ _ HM2.out.s).trans rfl
  have HRr := Lib.hid (show w2.heap[b + 1 + 1]? = some (.cells #[.int .i64 0, .int .i64 0, .int .i64 0, .int .i64 0] 23 (0, 0)) from HM2.out.r)
  have HE := Lib.hid (show (w2.setRow (b + 1 + 1) #[.int .i64 1, .int .i64 dl, .int .i64 ex, .int .i64 vs]).heap[b + 1 + 1]? = some (.cells #[.int .i64 1, .int .i64 dl, .int .i64 ex, .int .i64 vs] 23 (0, 0)) from row_set HRr.out)
  have HEF := Lib.hid (Fr.setRow (HF2.out) (b + 1 + 1) #[.int .i64 1, .int .i64 dl, .int .i64 ex, .int .i64 vs] (.inr (by have := HBB.out; omega)))
  go_wp2_with (with_reducible refine wpList_store_whole (op := ⟨none, .store 23 _ _, _, _, _, _⟩) rfl 23 _ _ rfl (b + 1 + 1) 23 #[.int .i64 0, .int .i64 0, .int .i64 0, .int .i64 0] #[.int .i64 1, .int .i64 dl, .int .i64 ex, .int .i64 vs] rfl rfl HRr.out rfl (by kernel_rfl) (by simp [Value.oneCell']) ?_)
  refine bodyPost_ret (result_row rfl _ _ (b + 1 + 1) 23 #[.int .i64 1, .int .i64 dl, .int .i64 ex, .int .i64 vs] (0, 0) _ (.int .i64 0) rfl rfl HE.out Try.underlying23 rfl (by kernel_rfl)) rfl ?_
  exact ⟨rfl, HEF.out⟩
set_option maxRecDepth 20000 in
set_option maxHeartbeats 4000000 in
theorem step_gone (dl ex vs n now : Int) (hr : life_Right.f 4 dl ex vs = some true) (ht0 : 0 ≤ now) (ht1 : now ≤ 1099511627776) (w : World) :
    Calls Try.prog 14 #[.agg #[.int .i64 4, .int .i64 dl, .int .i64 ex, .int .i64 vs], .agg #[.int .i64 1, .int .i64 n], .int .i64 now] w fun e w' => e = .returned (.tuple #[.agg #[.int .i64 0, .int .i64 0, .int .i64 0, .int .i64 0], .int .i64 4]) ∧ Fr (fun _ => False) w w' := by
  have HR := Lib.hid hr
  have HT := Lib.hid (And.intro ht0 ht1)
  clear hr
  go_enter Try.func14, Try.ntmps14
  go_wp2_with fail
  refine (right_calls 4 dl ex vs true HR.out _).mono ?_
  rintro e w1 ⟨rfl, f1⟩
  obtain ⟨hm, hf0⟩ := mem_start w 4 dl ex vs 1 n
  have HM1 := Lib.hid (hm.fr f1)
  have HF1 := Lib.hid (hf0.trans f1 (fun i hi => hi.elim))
  have HB := Lib.hid (Nat.le_refl w.heap.size)
  clear f1 hm hf0
  obtain ⟨b, hb⟩ : ∃ b, b = w.heap.size := ⟨_, rfl⟩
  rw [← hb] at HM1 ⊢
  have HBB := Lib.hid (show w.heap.size ≤ b by omega)
  clear hb HB
  go_wp2_with fail
  refine (time_calls now HT.out.1 HT.out.2 w1).mono ?_
  rintro e w2 ⟨rfl, f2⟩
  have HM2 := Lib.hid (HM1.out.fr f2)
  have HF2 := Lib.hid (HF1.out.trans f2 (fun i hi => hi.elim))
  clear f2 HM1 HF1
  have c0 : w2.cell? ⟨b, 0, none⟩ = some (.int .i64 4) := (cell_of_row w2 _ 0 _ _ _ HM2.out.l).trans rfl
  have c1 : w2.cell? ⟨b, 1, none⟩ = some (.int .i64 dl) := (cell_of_row w2 _ 1 _ _ _ HM2.out.l).trans rfl
  have c2 : w2.cell? ⟨b, 2, none⟩ = some (.int .i64 ex) := (cell_of_row w2 _ 2 _ _ _ HM2.out.l).trans rfl
  have c3 : w2.cell? ⟨b, 3, none⟩ = some (.int .i64 vs) := (cell_of_row w2 _ 3 _ _ _ HM2.out.l).trans rfl
  have x0 : w2.cell? ⟨b + 1, 0, none⟩ = some (.int .i64 1) := (cell_of_row w2 _ 0 _ _ _ HM2.out.x).trans rfl
  have x1 : w2.cell? ⟨b + 1, 1, none⟩ = some (.int .i64 n) := (cell_of_row w2 _ 1 _ _ _ HM2.out.x).trans rfl
  have q0 : w2.cell? ⟨b + 1 + 1 + 1, 0, none⟩ = some (.int .i64 4) := (cell_of_row w2 _ 0 _ _ _ HM2.out.s).trans rfl
  have q1 : w2.cell? ⟨b + 1 + 1 + 1, 1, none⟩ = some (.int .i64 dl) := (cell_of_row w2 _ 1 _ _ _ HM2.out.s).trans rfl
  have q2 : w2.cell? ⟨b + 1 + 1 + 1, 2, none⟩ = some (.int .i64 ex) := (cell_of_row w2 _ 2 _ _ _ HM2.out.s).trans rfl
  have q3 : w2.cell? ⟨b + 1 + 1 + 1, 3, none⟩ = some (.int .i64 vs) := (cell_of_row w2 _ 3 _ _ _ HM2.out.s).trans rfl
  go_wp2_with fail
  refine (from_calls 4 dl ex vs 2 2 4 (from_gone _ _ _ _ _ (by decide) (by decide)) w2).mono ?_
  rintro e w3 ⟨rfl, f3⟩
  have HM3 := Lib.hid (HM2.out.fr f3)
  have HF3 := Lib.hid (HF2.out.trans f3 (fun i hi => hi.elim))
  clear f3 HM2 HF2 c0 c1 c2 c3 x0 x1 q0 q1 q2 q3
  have c0 : w3.cell? ⟨b, 0, none⟩ = some (.int .i64 4) := (cell_of_row w3 _ 0 _ _ _ HM3.out.l).trans rfl
  have c1 : w3.cell? ⟨b, 1, none⟩ = some (.int .i64 dl) := (cell_of_row w3 _ 1 _ _ _ HM3.out.l).trans rfl
  have c2 : w3.cell? ⟨b, 2, none⟩ = some (.int .i64 ex) := (cell_of_row w3 _ 2 _ _ _ HM3.out.l).trans rfl
  have c3 : w3.cell? ⟨b, 3, none⟩ = some (.int .i64 vs) := (cell_of_row w3 _ 3 _ _ _ HM3.out.l).trans rfl
  have x0 : w3.cell? ⟨b + 1, 0, none⟩ = some (.int .i64 1) := (cell_of_row w3 _ 0 _ _ _ HM3.out.x).trans rfl
  have x1 : w3.cell? ⟨b + 1, 1, none⟩ = some (.int .i64 n) := (cell_of_row w3 _ 1 _ _ _ HM3.out.x).trans rfl
  have q0 : w3.cell? ⟨b + 1 + 1 + 1, 0, none⟩ = some (.int .i64 4) := (cell_of_row w3 _ 0 _ _ _ HM3.out.s).trans rfl
  have q1 : w3.cell? ⟨b + 1 + 1 + 1, 1, none⟩ = some (.int .i64 dl) := (cell_of_row w3 _ 1 _ _ _ HM3.out.s).trans rfl
  have q2 : w3.cell? ⟨b + 1 + 1 + 1, 2, none⟩ = some (.int .i64 ex) := (cell_of_row w3 _ 2 _ _ _ HM3.out.s).trans rfl
  have q3 : w3.cell? ⟨b + 1 + 1 + 1, 3, none⟩ = some (.int .i64 vs) := (cell_of_row w3 _ 3 _ _ _ HM3.out.s).trans rfl
  have z0 : w3.frozen? ⟨b, 0, none⟩ = false := frozen_of_row w3 _ _ _ _ HM3.out.l
  have hl0 : (w3.setCell ⟨b, 0, none⟩ (.int .i64 1)).heap[b]? = some (.cells #[.int .i64 1, .int .i64 dl, .int .i64 ex, .int .i64 vs] 23 (0, 0)) := heap_setCell_same w3 b 0 _ _ _ HM3.out.l
  have hr0 : (w3.setCell ⟨b, 0, none⟩ (.int .i64 1)).heap[b + 1 + 1]? = some (.cells #[.int .i64 0, .int .i64 0, .int .i64 0, .int .i64 0] 23 (0, 0)) := ((Fr.refl (fun i => i = b) _).setCell _ _ (.inl rfl)).heap HM3.out.r (by omega)
  have hf0 : Fr (fun _ => False) w (w3.setCell ⟨b, 0, none⟩ (.int .i64 1)) := HF3.out.setCell _ _ (.inr HBB.out)
  have k00 : (w3.setCell ⟨b, 0, none⟩ (.int .i64 1)).cell? ⟨b, 0, none⟩ = some (.int .i64 1) := (cell_of_row (w3.setCell ⟨b, 0, none⟩ (.int .i64 1)) _ 0 _ _ _ hl0).trans rfl
  have k01 : (w3.setCell ⟨b, 0, none⟩ (.int .i64 1)).cell? ⟨b, 1, none⟩ = some (.int .i64 dl) := (cell_of_row (w3.setCell ⟨b, 0, none⟩ (.int .i64 1)) _ 1 _ _ _ hl0).trans rfl
  have k02 : (w3.setCell ⟨b, 0, none⟩ (.int .i64 1)).cell? ⟨b, 2, none⟩ = some (.int .i64 ex) := (cell_of_row (w3.setCell ⟨b, 0, none⟩ (.int .i64 1)) _ 2 _ _ _ hl0).trans rfl
  have k03 : (w3.setCell ⟨b, 0, none⟩ (.int .i64 1)).cell? ⟨b, 3, none⟩ = some (.int .i64 vs) := (cell_of_row (w3.setCell ⟨b, 0, none⟩ (.int .i64 1)) _ 3 _ _ _ hl0).trans rfl
  have HRr := Lib.hid (show (w3.setCell ⟨b, 0, none⟩ (.int .i64 1)).heap[b + 1 + 1]? = some (.cells #[.int .i64 0, .int .i64 0, .int .i64 0, .int .i64 0] 23 (0, 0)) from hr0)
  have HE := Lib.hid (show ((w3.setCell ⟨b, 0, none⟩ (.int .i64 1)).setRow (b + 1 + 1) #[.int .i64 0, .int .i64 0, .int .i64 0, .int .i64 0]).heap[b + 1 + 1]? = some (.cells #[.int .i64 0, .int .i64 0, .int .i64 0, .int .i64 0] 23 (0, 0)) from row_set HRr.out)
  have HEF := Lib.hid (Fr.setRow (hf0) (b + 1 + 1) #[.int .i64 0, .int .i64 0, .int .i64 0, .int .i64 0] (.inr (by have := HBB.out; omega)))
  clear hf0 hr0 hl0
  go_wp2_with (with_reducible refine wpList_store_whole (op := ⟨none, .store 23 _ _, _, _, _, _⟩) rfl 23 _ _ rfl (b + 1 + 1) 23 #[.int .i64 0, .int .i64 0, .int .i64 0, .int .i64 0] #[.int .i64 0, .int .i64 0, .int .i64 0, .int .i64 0] rfl rfl HRr.out rfl (by kernel_rfl) (by simp [Value.oneCell']) ?_)
  refine bodyPost_ret (result_row rfl _ _ (b + 1 + 1) 23 #[.int .i64 0, .int .i64 0, .int .i64 0, .int .i64 0] (0, 0) _ (.int .i64 4) rfl rfl HE.out Try.underlying23 rfl (by kernel_rfl)) rfl ?_
  exact ⟨rfl, HEF.out⟩
set_option maxRecDepth 20000 in
set_option maxHeartbeats 4000000 in
theorem step_kind (st dl ex vs n now : Int) (hr : life_Right.f st dl ex vs = some true) (ht0 : 0 ≤ now) (ht1 : now ≤ 1099511627776) (w : World) :
    Calls Try.prog 14 #[.agg #[.int .i64 st, .int .i64 dl, .int .i64 ex, .int .i64 vs], .agg #[.int .i64 0, .int .i64 n], .int .i64 now] w fun e w' => e = .returned (.tuple #[.agg #[.int .i64 0, .int .i64 0, .int .i64 0, .int .i64 0], .int .i64 15]) ∧ Fr (fun _ => False) w w' := by
  have HR := Lib.hid hr
  have HT := Lib.hid (And.intro ht0 ht1)
  clear hr
  go_enter Try.func14, Try.ntmps14
  go_wp2_with fail
  refine (right_calls st dl ex vs true HR.out _).mono ?_
  rintro e w1 ⟨rfl, f1⟩
  obtain ⟨hm, hf0⟩ := mem_start w st dl ex vs 0 n
  have HM1 := Lib.hid (hm.fr f1)
  have HF1 := Lib.hid (hf0.trans f1 (fun i hi => hi.elim))
  have HB := Lib.hid (Nat.le_refl w.heap.size)
  clear f1 hm hf0
  obtain ⟨b, hb⟩ : ∃ b, b = w.heap.size := ⟨_, rfl⟩
  rw [← hb] at HM1 ⊢
  have HBB := Lib.hid (show w.heap.size ≤ b by omega)
  clear hb HB
  go_wp2_with fail
  refine (time_calls now HT.out.1 HT.out.2 w1).mono ?_
  rintro e w2 ⟨rfl, f2⟩
  have HM2 := Lib.hid (HM1.out.fr f2)
  have HF2 := Lib.hid (HF1.out.trans f2 (fun i hi => hi.elim))
  clear f2 HM1 HF1
  have c0 : w2.cell? ⟨b, 0, none⟩ = some (.int .i64 st) := (cell_of_row w2 _ 0 _ _ _ HM2.out.l).trans rfl
  have c1 : w2.cell? ⟨b, 1, none⟩ = some (.int .i64 dl) := (cell_of_row w2 _ 1 _ _ _ HM2.out.l).trans rfl
  have c2 : w2.cell? ⟨b, 2, none⟩ = some (.int .i64 ex) := (cell_of_row w2 _ 2 _ _ _ HM2.out.l).trans rfl
  have c3 : w2.cell? ⟨b, 3, none⟩ = some (.int .i64 vs) := (cell_of_row w2 _ 3 _ _ _ HM2.out.l).trans rfl
  have x0 : w2.cell? ⟨b + 1, 0, none⟩ = some (.int .i64 0) := (cell_of_row w2 _ 0 _ _ _ HM2.out.x).trans rfl
  have x1 : w2.cell? ⟨b + 1, 1, none⟩ = some (.int .i64 n) := (cell_of_row w2 _ 1 _ _ _ HM2.out.x).trans rfl
  have q0 : w2.cell? ⟨b + 1 + 1 + 1, 0, none⟩ = some (.int .i64 st) := (cell_of_row w2 _ 0 _ _ _ HM2.out.s).trans rfl
  have q1 : w2.cell? ⟨b + 1 + 1 + 1, 1, none⟩ = some (.int .i64 dl) := (cell_of_row w2 _ 1 _ _ _ HM2.out.s).trans rfl
  have q2 : w2.cell? ⟨b + 1 + 1 + 1, 2, none⟩ = some (.int .i64 ex) := (cell_of_row w2 _ 2 _ _ _ HM2.out.s).trans rfl
  have q3 : w2.cell? ⟨b + 1 + 1 + 1, 3, none⟩ = some (.int .i64 vs) := (cell_of_row w2 _ 3 _ _ _ HM2.out.s).trans rfl
  have HRr := Lib.hid (show w2.heap[b + 1 + 1]? = some (.cells #[.int .i64 0, .int .i64 0, .int .i64 0, .int .i64 0] 23 (0, 0)) from HM2.out.r)
  have HE := Lib.hid (show (w2.setRow (b + 1 + 1) #[.int .i64 0, .int .i64 0, .int .i64 0, .int .i64 0]).heap[b + 1 + 1]? = some (.cells #[.int .i64 0, .int .i64 0, .int .i64 0, .int .i64 0] 23 (0, 0)) from row_set HRr.out)
  have HEF := Lib.hid (Fr.setRow (HF2.out) (b + 1 + 1) #[.int .i64 0, .int .i64 0, .int .i64 0, .int .i64 0] (.inr (by have := HBB.out; omega)))
  go_wp2_with (with_reducible refine wpList_store_whole (op := ⟨none, .store 23 _ _, _, _, _, _⟩) rfl 23 _ _ rfl (b + 1 + 1) 23 #[.int .i64 0, .int .i64 0, .int .i64 0, .int .i64 0] #[.int .i64 0, .int .i64 0, .int .i64 0, .int .i64 0] rfl rfl HRr.out rfl (by kernel_rfl) (by simp [Value.oneCell']) ?_)
  refine bodyPost_ret (result_row rfl _ _ (b + 1 + 1) 23 #[.int .i64 0, .int .i64 0, .int .i64 0, .int .i64 0] (0, 0) _ (.int .i64 15) rfl rfl HE.out Try.underlying23 rfl (by kernel_rfl)) rfl ?_
  exact ⟨rfl, HEF.out⟩
set_option maxRecDepth 20000 in
set_option maxHeartbeats 4000000 in
theorem step_early (dl ex vs n now : Int) (hr : life_Right.f 3 dl ex vs = some true) (ht0 : 0 ≤ now) (ht1 : now ≤ 1099511627776) (hd : now < dl) (w : World) :
    Calls Try.prog 14 #[.agg #[.int .i64 3, .int .i64 dl, .int .i64 ex, .int .i64 vs], .agg #[.int .i64 7, .int .i64 n], .int .i64 now] w fun e w' => e = .returned (.tuple #[.agg #[.int .i64 3, .int .i64 dl, .int .i64 ex, .int .i64 vs], .int .i64 0]) ∧ Fr (fun _ => False) w w' := by
  have HR := Lib.hid hr
  have HT := Lib.hid (And.intro ht0 ht1)
  have dd : decide (dl ≤ now) = false := decide_eq_false (by omega)
  clear hd
  clear hr
  go_enter Try.func14, Try.ntmps14
  go_wp2_with fail
  refine (right_calls 3 dl ex vs true HR.out _).mono ?_
  rintro e w1 ⟨rfl, f1⟩
  obtain ⟨hm, hf0⟩ := mem_start w 3 dl ex vs 7 n
  have HM1 := Lib.hid (hm.fr f1)
  have HF1 := Lib.hid (hf0.trans f1 (fun i hi => hi.elim))
  have HB := Lib.hid (Nat.le_refl w.heap.size)
  clear f1 hm hf0
  obtain ⟨b, hb⟩ : ∃ b, b = w.heap.size := ⟨_, rfl⟩
  rw [← hb] at HM1 ⊢
  have HBB := Lib.hid (show w.heap.size ≤ b by omega)
  clear hb HB
  go_wp2_with fail
  refine (time_calls now HT.out.1 HT.out.2 w1).mono ?_
  rintro e w2 ⟨rfl, f2⟩
  have HM2 := Lib.hid (HM1.out.fr f2)
  have HF2 := Lib.hid (HF1.out.trans f2 (fun i hi => hi.elim))
  clear f2 HM1 HF1
  have c0 : w2.cell? ⟨b, 0, none⟩ = some (.int .i64 3) := (cell_of_row w2 _ 0 _ _ _ HM2.out.l).trans rfl
  have c1 : w2.cell? ⟨b, 1, none⟩ = some (.int .i64 dl) := (cell_of_row w2 _ 1 _ _ _ HM2.out.l).trans rfl
  have c2 : w2.cell? ⟨b, 2, none⟩ = some (.int .i64 ex) := (cell_of_row w2 _ 2 _ _ _ HM2.out.l).trans rfl
  have c3 : w2.cell? ⟨b, 3, none⟩ = some (.int .i64 vs) := (cell_of_row w2 _ 3 _ _ _ HM2.out.l).trans rfl
  have x0 : w2.cell? ⟨b + 1, 0, none⟩ = some (.int .i64 7) := (cell_of_row w2 _ 0 _ _ _ HM2.out.x).trans rfl
  have x1 : w2.cell? ⟨b + 1, 1, none⟩ = some (.int .i64 n) := (cell_of_row w2 _ 1 _ _ _ HM2.out.x).trans rfl
  have q0 : w2.cell? ⟨b + 1 + 1 + 1, 0, none⟩ = some (.int .i64 3) := (cell_of_row w2 _ 0 _ _ _ HM2.out.s).trans rfl
  have q1 : w2.cell? ⟨b + 1 + 1 + 1, 1, none⟩ = some (.int .i64 dl) := (cell_of_row w2 _ 1 _ _ _ HM2.out.s).trans rfl
  have q2 : w2.cell? ⟨b + 1 + 1 + 1, 2, none⟩ = some (.int .i64 ex) := (cell_of_row w2 _ 2 _ _ _ HM2.out.s).trans rfl
  have q3 : w2.cell? ⟨b + 1 + 1 + 1, 3, none⟩ = some (.int .i64 vs) := (cell_of_row w2 _ 3 _ _ _ HM2.out.s).trans rfl
  have HRr := Lib.hid (show w2.heap[b + 1 + 1]? = some (.cells #[.int .i64 0, .int .i64 0, .int .i64 0, .int .i64 0] 23 (0, 0)) from HM2.out.r)
  have HE := Lib.hid (show (w2.setRow (b + 1 + 1) #[.int .i64 3, .int .i64 dl, .int .i64 ex, .int .i64 vs]).heap[b + 1 + 1]? = some (.cells #[.int .i64 3, .int .i64 dl, .int .i64 ex, .int .i64 vs] 23 (0, 0)) from row_set HRr.out)
  have HEF := Lib.hid (Fr.setRow (HF2.out) (b + 1 + 1) #[.int .i64 3, .int .i64 dl, .int .i64 ex, .int .i64 vs] (.inr (by have := HBB.out; omega)))
  go_wp2_with (with_reducible refine wpList_store_whole (op := ⟨none, .store 23 _ _, _, _, _, _⟩) rfl 23 _ _ rfl (b + 1 + 1) 23 #[.int .i64 0, .int .i64 0, .int .i64 0, .int .i64 0] #[.int .i64 3, .int .i64 dl, .int .i64 ex, .int .i64 vs] rfl rfl HRr.out rfl (by kernel_rfl) (by simp [Value.oneCell']) ?_)
  refine bodyPost_ret (result_row rfl _ _ (b + 1 + 1) 23 #[.int .i64 3, .int .i64 dl, .int .i64 ex, .int .i64 vs] (0, 0) _ (.int .i64 0) rfl rfl HE.out Try.underlying23 rfl (by kernel_rfl)) rfl ?_
  exact ⟨rfl, HEF.out⟩
set_option maxRecDepth 20000 in
set_option maxHeartbeats 4000000 in
theorem step_due (dl ex vs n now : Int) (hr : life_Right.f 3 dl ex vs = some true) (ht0 : 0 ≤ now) (ht1 : now ≤ 1099511627776) (hd : dl ≤ now) (w : World) :
    Calls Try.prog 14 #[.agg #[.int .i64 3, .int .i64 dl, .int .i64 ex, .int .i64 vs], .agg #[.int .i64 7, .int .i64 n], .int .i64 now] w fun e w' => e = .returned (.tuple #[.agg #[.int .i64 4, .int .i64 0, .int .i64 ex, .int .i64 vs], .int .i64 0]) ∧ Fr (fun _ => False) w w' := by
  have HR := Lib.hid hr
  have HT := Lib.hid (And.intro ht0 ht1)
  have dd : decide (dl ≤ now) = true := decide_eq_true hd
  clear hd
  clear hr
  go_enter Try.func14, Try.ntmps14
  go_wp2_with fail
  refine (right_calls 3 dl ex vs true HR.out _).mono ?_
  rintro e w1 ⟨rfl, f1⟩
  obtain ⟨hm, hf0⟩ := mem_start w 3 dl ex vs 7 n
  have HM1 := Lib.hid (hm.fr f1)
  have HF1 := Lib.hid (hf0.trans f1 (fun i hi => hi.elim))
  have HB := Lib.hid (Nat.le_refl w.heap.size)
  clear f1 hm hf0
  obtain ⟨b, hb⟩ : ∃ b, b = w.heap.size := ⟨_, rfl⟩
  rw [← hb] at HM1 ⊢
  have HBB := Lib.hid (show w.heap.size ≤ b by omega)
  clear hb HB
  go_wp2_with fail
  refine (time_calls now HT.out.1 HT.out.2 w1).mono ?_
  rintro e w2 ⟨rfl, f2⟩
  have HM2 := Lib.hid (HM1.out.fr f2)
  have HF2 := Lib.hid (HF1.out.trans f2 (fun i hi => hi.elim))
  clear f2 HM1 HF1
  have c0 : w2.cell? ⟨b, 0, none⟩ = some (.int .i64 3) := (cell_of_row w2 _ 0 _ _ _ HM2.out.l).trans rfl
  have c1 : w2.cell? ⟨b, 1, none⟩ = some (.int .i64 dl) := (cell_of_row w2 _ 1 _ _ _ HM2.out.l).trans rfl
  have c2 : w2.cell? ⟨b, 2, none⟩ = some (.int .i64 ex) := (cell_of_row w2 _ 2 _ _ _ HM2.out.l).trans rfl
  have c3 : w2.cell? ⟨b, 3, none⟩ = some (.int .i64 vs) := (cell_of_row w2 _ 3 _ _ _ HM2.out.l).trans rfl
  have x0 : w2.cell? ⟨b + 1, 0, none⟩ = some (.int .i64 7) := (cell_of_row w2 _ 0 _ _ _ HM2.out.x).trans rfl
  have x1 : w2.cell? ⟨b + 1, 1, none⟩ = some (.int .i64 n) := (cell_of_row w2 _ 1 _ _ _ HM2.out.x).trans rfl
  have q0 : w2.cell? ⟨b + 1 + 1 + 1, 0, none⟩ = some (.int .i64 3) := (cell_of_row w2 _ 0 _ _ _ HM2.out.s).trans rfl
  have q1 : w2.cell? ⟨b + 1 + 1 + 1, 1, none⟩ = some (.int .i64 dl) := (cell_of_row w2 _ 1 _ _ _ HM2.out.s).trans rfl
  have q2 : w2.cell? ⟨b + 1 + 1 + 1, 2, none⟩ = some (.int .i64 ex) := (cell_of_row w2 _ 2 _ _ _ HM2.out.s).trans rfl
  have q3 : w2.cell? ⟨b + 1 + 1 + 1, 3, none⟩ = some (.int .i64 vs) := (cell_of_row w2 _ 3 _ _ _ HM2.out.s).trans rfl
  have z0 : w2.frozen? ⟨b, 0, none⟩ = false := frozen_of_row w2 _ _ _ _ HM2.out.l
  have hl0 : (w2.setCell ⟨b, 0, none⟩ (.int .i64 4)).heap[b]? = some (.cells #[.int .i64 4, .int .i64 dl, .int .i64 ex, .int .i64 vs] 23 (0, 0)) := heap_setCell_same w2 b 0 _ _ _ HM2.out.l
  have hr0 : (w2.setCell ⟨b, 0, none⟩ (.int .i64 4)).heap[b + 1 + 1]? = some (.cells #[.int .i64 0, .int .i64 0, .int .i64 0, .int .i64 0] 23 (0, 0)) := ((Fr.refl (fun i => i = b) _).setCell _ _ (.inl rfl)).heap HM2.out.r (by omega)
  have hf0 : Fr (fun _ => False) w (w2.setCell ⟨b, 0, none⟩ (.int .i64 4)) := HF2.out.setCell _ _ (.inr HBB.out)
  have k00 : (w2.setCell ⟨b, 0, none⟩ (.int .i64 4)).cell? ⟨b, 0, none⟩ = some (.int .i64 4) := (cell_of_row (w2.setCell ⟨b, 0, none⟩ (.int .i64 4)) _ 0 _ _ _ hl0).trans rfl
  have k01 : (w2.setCell ⟨b, 0, none⟩ (.int .i64 4)).cell? ⟨b, 1, none⟩ = some (.int .i64 dl) := (cell_of_row (w2.setCell ⟨b, 0, none⟩ (.int .i64 4)) _ 1 _ _ _ hl0).trans rfl
  have k02 : (w2.setCell ⟨b, 0, none⟩ (.int .i64 4)).cell? ⟨b, 2, none⟩ = some (.int .i64 ex) := (cell_of_row (w2.setCell ⟨b, 0, none⟩ (.int .i64 4)) _ 2 _ _ _ hl0).trans rfl
  have k03 : (w2.setCell ⟨b, 0, none⟩ (.int .i64 4)).cell? ⟨b, 3, none⟩ = some (.int .i64 vs) := (cell_of_row (w2.setCell ⟨b, 0, none⟩ (.int .i64 4)) _ 3 _ _ _ hl0).trans rfl
  have z1 : (w2.setCell ⟨b, 0, none⟩ (.int .i64 4)).frozen? ⟨b, 1, none⟩ = false := frozen_of_row (w2.setCell ⟨b, 0, none⟩ (.int .i64 4)) _ _ _ _ hl0
  have hl1 : ((w2.setCell ⟨b, 0, none⟩ (.int .i64 4)).setCell ⟨b, 1, none⟩ (.int .i64 0)).heap[b]? = some (.cells #[.int .i64 4, .int .i64 0, .int .i64 ex, .int .i64 vs] 23 (0, 0)) := heap_setCell_same (w2.setCell ⟨b, 0, none⟩ (.int .i64 4)) b 1 _ _ _ hl0
  have hr1 : ((w2.setCell ⟨b, 0, none⟩ (.int .i64 4)).setCell ⟨b, 1, none⟩ (.int .i64 0)).heap[b + 1 + 1]? = some (.cells #[.int .i64 0, .int .i64 0, .int .i64 0, .int .i64 0] 23 (0, 0)) := ((Fr.refl (fun i => i = b) _).setCell _ _ (.inl rfl)).heap hr0 (by omega)
  have hf1 : Fr (fun _ => False) w ((w2.setCell ⟨b, 0, none⟩ (.int .i64 4)).setCell ⟨b, 1, none⟩ (.int .i64 0)) := hf0.setCell _ _ (.inr HBB.out)
  have k10 : ((w2.setCell ⟨b, 0, none⟩ (.int .i64 4)).setCell ⟨b, 1, none⟩ (.int .i64 0)).cell? ⟨b, 0, none⟩ = some (.int .i64 4) := (cell_of_row ((w2.setCell ⟨b, 0, none⟩ (.int .i64 4)).setCell ⟨b, 1, none⟩ (.int .i64 0)) _ 0 _ _ _ hl1).trans rfl
  have k11 : ((w2.setCell ⟨b, 0, none⟩ (.int .i64 4)).setCell ⟨b, 1, none⟩ (.int .i64 0)).cell? ⟨b, 1, none⟩ = some (.int .i64 0) := (cell_of_row ((w2.setCell ⟨b, 0, none⟩ (.int .i64 4)).setCell ⟨b, 1, none⟩ (.int .i64 0)) _ 1 _ _ _ hl1).trans rfl
  have k12 : ((w2.setCell ⟨b, 0, none⟩ (.int .i64 4)).setCell ⟨b, 1, none⟩ (.int .i64 0)).cell? ⟨b, 2, none⟩ = some (.int .i64 ex) := (cell_of_row ((w2.setCell ⟨b, 0, none⟩ (.int .i64 4)).setCell ⟨b, 1, none⟩ (.int .i64 0)) _ 2 _ _ _ hl1).trans rfl
  have k13 : ((w2.setCell ⟨b, 0, none⟩ (.int .i64 4)).setCell ⟨b, 1, none⟩ (.int .i64 0)).cell? ⟨b, 3, none⟩ = some (.int .i64 vs) := (cell_of_row ((w2.setCell ⟨b, 0, none⟩ (.int .i64 4)).setCell ⟨b, 1, none⟩ (.int .i64 0)) _ 3 _ _ _ hl1).trans rfl
  have HRr := Lib.hid (show ((w2.setCell ⟨b, 0, none⟩ (.int .i64 4)).setCell ⟨b, 1, none⟩ (.int .i64 0)).heap[b + 1 + 1]? = some (.cells #[.int .i64 0, .int .i64 0, .int .i64 0, .int .i64 0] 23 (0, 0)) from hr1)
  have HE := Lib.hid (show (((w2.setCell ⟨b, 0, none⟩ (.int .i64 4)).setCell ⟨b, 1, none⟩ (.int .i64 0)).setRow (b + 1 + 1) #[.int .i64 4, .int .i64 0, .int .i64 ex, .int .i64 vs]).heap[b + 1 + 1]? = some (.cells #[.int .i64 4, .int .i64 0, .int .i64 ex, .int .i64 vs] 23 (0, 0)) from row_set HRr.out)
  have HEF := Lib.hid (Fr.setRow (hf1) (b + 1 + 1) #[.int .i64 4, .int .i64 0, .int .i64 ex, .int .i64 vs] (.inr (by have := HBB.out; omega)))
  clear hf1 hr1 hl1 hf0 hr0 hl0
  go_wp2_with (with_reducible refine wpList_store_whole (op := ⟨none, .store 23 _ _, _, _, _, _⟩) rfl 23 _ _ rfl (b + 1 + 1) 23 #[.int .i64 0, .int .i64 0, .int .i64 0, .int .i64 0] #[.int .i64 4, .int .i64 0, .int .i64 ex, .int .i64 vs] rfl rfl HRr.out rfl (by kernel_rfl) (by simp [Value.oneCell']) ?_)
  refine bodyPost_ret (result_row rfl _ _ (b + 1 + 1) 23 #[.int .i64 4, .int .i64 0, .int .i64 ex, .int .i64 vs] (0, 0) _ (.int .i64 0) rfl rfl HE.out Try.underlying23 rfl (by kernel_rfl)) rfl ?_
  exact ⟨rfl, HEF.out⟩
set_option maxRecDepth 20000 in
set_option maxHeartbeats 4000000 in
theorem step_schedule (dl ex vs n now : Int) (hr : life_Right.f 1 dl ex vs = some true) (ht0 : 0 ≤ now) (ht1 : now ≤ 1099511627776) (s : Int) (hn0 : 1 ≤ n) (hn1 : n ≤ 1000) (hs : s = now + n) (hs1 : s ≤ 1099511627776) (w : World) :
    Calls Try.prog 14 #[.agg #[.int .i64 1, .int .i64 dl, .int .i64 ex, .int .i64 vs], .agg #[.int .i64 3, .int .i64 n], .int .i64 now] w fun e w' => e = .returned (.tuple #[.agg #[.int .i64 3, .int .i64 s, .int .i64 ex, .int .i64 vs], .int .i64 0]) ∧ Fr (fun _ => False) w w' := by
  have HR := Lib.hid hr
  have HT := Lib.hid (And.intro ht0 ht1)
  have HS := Lib.hid (show 0 ≤ s ∧ s ≤ 1099511627776 by omega)
  have e1 : decide (n < 1) = false := decide_eq_false (by omega)
  have e2 : decide (1000 < n) = false := decide_eq_false (by omega)
  have e3 : IntKind.i64.wrap (now + n) = s := by rw [IntWalk.i64_in _ (by omega)]; exact hs.symm
  clear hs hs1 hn0 hn1
  clear hr
  go_enter Try.func14, Try.ntmps14
  go_wp2_with fail
  refine (right_calls 1 dl ex vs true HR.out _).mono ?_
  rintro e w1 ⟨rfl, f1⟩
  obtain ⟨hm, hf0⟩ := mem_start w 1 dl ex vs 3 n
  have HM1 := Lib.hid (hm.fr f1)
  have HF1 := Lib.hid (hf0.trans f1 (fun i hi => hi.elim))
  have HB := Lib.hid (Nat.le_refl w.heap.size)
  clear f1 hm hf0
  obtain ⟨b, hb⟩ : ∃ b, b = w.heap.size := ⟨_, rfl⟩
  rw [← hb] at HM1 ⊢
  have HBB := Lib.hid (show w.heap.size ≤ b by omega)
  clear hb HB
  go_wp2_with fail
  refine (time_calls now HT.out.1 HT.out.2 w1).mono ?_
  rintro e w2 ⟨rfl, f2⟩
  have HM2 := Lib.hid (HM1.out.fr f2)
  have HF2 := Lib.hid (HF1.out.trans f2 (fun i hi => hi.elim))
  clear f2 HM1 HF1
  have c0 : w2.cell? ⟨b, 0, none⟩ = some (.int .i64 1) := (cell_of_row w2 _ 0 _ _ _ HM2.out.l).trans rfl
  have c1 : w2.cell? ⟨b, 1, none⟩ = some (.int .i64 dl) := (cell_of_row w2 _ 1 _ _ _ HM2.out.l).trans rfl
  have c2 : w2.cell? ⟨b, 2, none⟩ = some (.int .i64 ex) := (cell_of_row w2 _ 2 _ _ _ HM2.out.l).trans rfl
  have c3 : w2.cell? ⟨b, 3, none⟩ = some (.int .i64 vs) := (cell_of_row w2 _ 3 _ _ _ HM2.out.l).trans rfl
  have x0 : w2.cell? ⟨b + 1, 0, none⟩ = some (.int .i64 3) := (cell_of_row w2 _ 0 _ _ _ HM2.out.x).trans rfl
  have x1 : w2.cell? ⟨b + 1, 1, none⟩ = some (.int .i64 n) := (cell_of_row w2 _ 1 _ _ _ HM2.out.x).trans rfl
  have q0 : w2.cell? ⟨b + 1 + 1 + 1, 0, none⟩ = some (.int .i64 1) := (cell_of_row w2 _ 0 _ _ _ HM2.out.s).trans rfl
  have q1 : w2.cell? ⟨b + 1 + 1 + 1, 1, none⟩ = some (.int .i64 dl) := (cell_of_row w2 _ 1 _ _ _ HM2.out.s).trans rfl
  have q2 : w2.cell? ⟨b + 1 + 1 + 1, 2, none⟩ = some (.int .i64 ex) := (cell_of_row w2 _ 2 _ _ _ HM2.out.s).trans rfl
  have q3 : w2.cell? ⟨b + 1 + 1 + 1, 3, none⟩ = some (.int .i64 vs) := (cell_of_row w2 _ 3 _ _ _ HM2.out.s).trans rfl
  go_wp2_with fail
  refine (time_calls (s) HS.out.1 HS.out.2 w2).mono ?_
  rintro e w3 ⟨rfl, f3⟩
  have HM3 := Lib.hid (HM2.out.fr f3)
  have HF3 := Lib.hid (HF2.out.trans f3 (fun i hi => hi.elim))
  clear f3 HM2 HF2 c0 c1 c2 c3 x0 x1 q0 q1 q2 q3
  have c0 : w3.cell? ⟨b, 0, none⟩ = some (.int .i64 1) := (cell_of_row w3 _ 0 _ _ _ HM3.out.l).trans rfl
  have c1 : w3.cell? ⟨b, 1, none⟩ = some (.int .i64 dl) := (cell_of_row w3 _ 1 _ _ _ HM3.out.l).trans rfl
  have c2 : w3.cell? ⟨b, 2, none⟩ = some (.int .i64 ex) := (cell_of_row w3 _ 2 _ _ _ HM3.out.l).trans rfl
  have c3 : w3.cell? ⟨b, 3, none⟩ = some (.int .i64 vs) := (cell_of_row w3 _ 3 _ _ _ HM3.out.l).trans rfl
  have x0 : w3.cell? ⟨b + 1, 0, none⟩ = some (.int .i64 3) := (cell_of_row w3 _ 0 _ _ _ HM3.out.x).trans rfl
  have x1 : w3.cell? ⟨b + 1, 1, none⟩ = some (.int .i64 n) := (cell_of_row w3 _ 1 _ _ _ HM3.out.x).trans rfl
  have q0 : w3.cell? ⟨b + 1 + 1 + 1, 0, none⟩ = some (.int .i64 1) := (cell_of_row w3 _ 0 _ _ _ HM3.out.s).trans rfl
  have q1 : w3.cell? ⟨b + 1 + 1 + 1, 1, none⟩ = some (.int .i64 dl) := (cell_of_row w3 _ 1 _ _ _ HM3.out.s).trans rfl
  have q2 : w3.cell? ⟨b + 1 + 1 + 1, 2, none⟩ = some (.int .i64 ex) := (cell_of_row w3 _ 2 _ _ _ HM3.out.s).trans rfl
  have q3 : w3.cell? ⟨b + 1 + 1 + 1, 3, none⟩ = some (.int .i64 vs) := (cell_of_row w3 _ 3 _ _ _ HM3.out.s).trans rfl
  go_wp2_with fail
  refine (from_calls 1 dl ex vs 1 2 0 (from_yes _ _ _ _ _ _ (.inl rfl) (by decide)) w3).mono ?_
  rintro e w4 ⟨rfl, f4⟩
  have HM4 := Lib.hid (HM3.out.fr f4)
  have HF4 := Lib.hid (HF3.out.trans f4 (fun i hi => hi.elim))
  clear f4 HM3 HF3 c0 c1 c2 c3 x0 x1 q0 q1 q2 q3
  have c0 : w4.cell? ⟨b, 0, none⟩ = some (.int .i64 1) := (cell_of_row w4 _ 0 _ _ _ HM4.out.l).trans rfl
  have c1 : w4.cell? ⟨b, 1, none⟩ = some (.int .i64 dl) := (cell_of_row w4 _ 1 _ _ _ HM4.out.l).trans rfl
  have c2 : w4.cell? ⟨b, 2, none⟩ = some (.int .i64 ex) := (cell_of_row w4 _ 2 _ _ _ HM4.out.l).trans rfl
  have c3 : w4.cell? ⟨b, 3, none⟩ = some (.int .i64 vs) := (cell_of_row w4 _ 3 _ _ _ HM4.out.l).trans rfl
  have x0 : w4.cell? ⟨b + 1, 0, none⟩ = some (.int .i64 3) := (cell_of_row w4 _ 0 _ _ _ HM4.out.x).trans rfl
  have x1 : w4.cell? ⟨b + 1, 1, none⟩ = some (.int .i64 n) := (cell_of_row w4 _ 1 _ _ _ HM4.out.x).trans rfl
  have q0 : w4.cell? ⟨b + 1 + 1 + 1, 0, none⟩ = some (.int .i64 1) := (cell_of_row w4 _ 0 _ _ _ HM4.out.s).trans rfl
  have q1 : w4.cell? ⟨b + 1 + 1 + 1, 1, none⟩ = some (.int .i64 dl) := (cell_of_row w4 _ 1 _ _ _ HM4.out.s).trans rfl
  have q2 : w4.cell? ⟨b + 1 + 1 + 1, 2, none⟩ = some (.int .i64 ex) := (cell_of_row w4 _ 2 _ _ _ HM4.out.s).trans rfl
  have q3 : w4.cell? ⟨b + 1 + 1 + 1, 3, none⟩ = some (.int .i64 vs) := (cell_of_row w4 _ 3 _ _ _ HM4.out.s).trans rfl
  go_wp2_with fail
  clear c0 c1 c2 c3 x0 x1 q0 q1 q2 q3
  refine wp_region_any (by kernel_rfl) ?_
  change wpAny _ _ _ _ _ _ _ w4.drew
  have HMd := Lib.hid (show Mem w4.drew b 1 dl ex vs 3 n from HM4.out.fr (Fr.refl _ _).drew)
  have HFd := Lib.hid HF4.out.drew
  generalize w4.drew = wd at HMd HFd ⊢
  refine wpAny_take (i := 0) (v := .int .i64 now) rfl (by kernel_rfl) (by kernel_rfl) (by kernel_rfl) (fun _ _ _ h => h) (.inl ⟨rfl, fun W' => by go_simp⟩) ?_
  simp only [List.getElem_toArray, List.getElem_cons_succ, List.getElem_cons_zero, Act.put, List.setIfInBounds_toArray, List.set_cons_zero, List.set_cons_succ]
  refine wpAny_take (i := 1) (v := .pointer (some ⟨b + 1, 1, none⟩)) rfl (by kernel_rfl) (by kernel_rfl) (by kernel_rfl) (fun _ _ _ h => h) (.inl ⟨rfl, fun W' => by go_simp⟩) ?_
  simp only [List.getElem_toArray, List.getElem_cons_succ, List.getElem_cons_zero, Act.put, List.setIfInBounds_toArray, List.set_cons_zero, List.set_cons_succ]
  refine wpAny_take (i := 4) (v := .pointer (some ⟨b, 0, none⟩)) rfl (by kernel_rfl) (by kernel_rfl) (by kernel_rfl) (fun _ _ _ h => h) (.inl ⟨rfl, fun W' => by go_simp⟩) ?_
  simp only [List.getElem_toArray, List.getElem_cons_succ, List.getElem_cons_zero, Act.put, List.setIfInBounds_toArray, List.set_cons_zero, List.set_cons_succ]
  refine wpAny_of_till (S := fun W' => W'.heap[b + 1]? = some (.cells #[.int .i64 3, .int .i64 n] 27 (0, 0))) (e := 6) _ _ _ _ ?_
  refine wpAnyT_take (i := 2) (n := 8) (v := .int .i64 n) rfl (by kernel_rfl) (fun _ _ _ h => h) HMd.out.x (yieldsIf_plain rfl (fun W' hW => by have h1 := (cell_of_row W' _ 1 _ _ _ hW).trans (show _ = some (.int .i64 n) from rfl); clear hW; go_simp)) ?_
  simp only [List.getElem_toArray, List.getElem_cons_succ, List.getElem_cons_zero, Act.put, List.setIfInBounds_toArray, List.set_cons_zero, List.set_cons_succ]
  refine wpAnyT_take (i := 3) (n := 8) (v := .int .i64 s) rfl (by kernel_rfl) (fun _ _ _ h => h) HMd.out.x (yieldsIf_plain rfl (fun W' hW => by clear hW; go_simp)) ?_
  simp only [List.getElem_toArray, List.getElem_cons_succ, List.getElem_cons_zero, Act.put, List.setIfInBounds_toArray, List.set_cons_zero, List.set_cons_succ]
  have g0 : wd.cell? ⟨b, 0, none⟩ = some (.int .i64 1) := (cell_of_row wd _ 0 _ _ _ HMd.out.l).trans rfl
  have g1 : wd.cell? ⟨b, 1, none⟩ = some (.int .i64 dl) := (cell_of_row wd _ 1 _ _ _ HMd.out.l).trans rfl
  have z0 : wd.frozen? ⟨b, 0, none⟩ = false := frozen_of_row wd _ _ _ _ HMd.out.l
  have z1 : wd.frozen? ⟨b, 1, none⟩ = false := frozen_of_row wd _ _ _ _ HMd.out.l
  refine wpAnyT_one (i := 5) rfl (by kernel_rfl) (wpOp_plain rfl rfl (fun K hK => ?_))
  simp only [List.getElem_toArray, List.getElem_cons_succ, List.getElem_cons_zero, Act.put, List.setIfInBounds_toArray, List.set_cons_zero, List.set_cons_succ]
  have HKK := Lib.hid hK
  clear hK
  go_wp2_with fail
  refine HKK.out _ _ ⟨fun _ => ((Fr.refl (fun i => i = b) _).setCell _ _ (.inl rfl)).heap HMd.out.x (by omega), ?_⟩
  clear HKK K
  try simp only [List.getElem_toArray, List.getElem_cons_succ, List.getElem_cons_zero, Act.put, List.setIfInBounds_toArray, List.set_cons_zero, List.set_cons_succ]
  refine wpAnyT_of_any trivial [6, 7] _ _ _ _ (by kernel_rfl) (by simp) (.inr rfl) ?_
  simp only [List.filterMap_cons, List.filterMap_nil, List.getElem?_toArray, List.getElem?_cons_zero, List.getElem?_cons_succ]
  have hl0 : (wd.setCell ⟨b, 0, none⟩ (.int .i64 3)).heap[b]? = some (.cells #[.int .i64 3, .int .i64 dl, .int .i64 ex, .int .i64 vs] 23 (0, 0)) := heap_setCell_same wd b 0 _ _ _ HMd.out.l
  have hr0 : (wd.setCell ⟨b, 0, none⟩ (.int .i64 3)).heap[b + 1 + 1]? = some (.cells #[.int .i64 0, .int .i64 0, .int .i64 0, .int .i64 0] 23 (0, 0)) := ((Fr.refl (fun i => i = b) _).setCell _ _ (.inl rfl)).heap HMd.out.r (by omega)
  have hf0 : Fr (fun _ => False) w (wd.setCell ⟨b, 0, none⟩ (.int .i64 3)) := HFd.out.setCell _ _ (.inr HBB.out)
  have y1 : (wd.setCell ⟨b, 0, none⟩ (.int .i64 3)).frozen? ⟨b, 1, none⟩ = false := frozen_of_row (wd.setCell ⟨b, 0, none⟩ (.int .i64 3)) _ _ _ _ hl0
  have k00 : (wd.setCell ⟨b, 0, none⟩ (.int .i64 3)).cell? ⟨b, 0, none⟩ = some (.int .i64 3) := (cell_of_row (wd.setCell ⟨b, 0, none⟩ (.int .i64 3)) _ 0 _ _ _ hl0).trans rfl
  have k01 : (wd.setCell ⟨b, 0, none⟩ (.int .i64 3)).cell? ⟨b, 1, none⟩ = some (.int .i64 dl) := (cell_of_row (wd.setCell ⟨b, 0, none⟩ (.int .i64 3)) _ 1 _ _ _ hl0).trans rfl
  have k02 : (wd.setCell ⟨b, 0, none⟩ (.int .i64 3)).cell? ⟨b, 2, none⟩ = some (.int .i64 ex) := (cell_of_row (wd.setCell ⟨b, 0, none⟩ (.int .i64 3)) _ 2 _ _ _ hl0).trans rfl
  have k03 : (wd.setCell ⟨b, 0, none⟩ (.int .i64 3)).cell? ⟨b, 3, none⟩ = some (.int .i64 vs) := (cell_of_row (wd.setCell ⟨b, 0, none⟩ (.int .i64 3)) _ 3 _ _ _ hl0).trans rfl
  have hl1 : ((wd.setCell ⟨b, 0, none⟩ (.int .i64 3)).setCell ⟨b, 1, none⟩ (.int .i64 s)).heap[b]? = some (.cells #[.int .i64 3, .int .i64 s, .int .i64 ex, .int .i64 vs] 23 (0, 0)) := heap_setCell_same (wd.setCell ⟨b, 0, none⟩ (.int .i64 3)) b 1 _ _ _ hl0
  have hr1 : ((wd.setCell ⟨b, 0, none⟩ (.int .i64 3)).setCell ⟨b, 1, none⟩ (.int .i64 s)).heap[b + 1 + 1]? = some (.cells #[.int .i64 0, .int .i64 0, .int .i64 0, .int .i64 0] 23 (0, 0)) := ((Fr.refl (fun i => i = b) _).setCell _ _ (.inl rfl)).heap hr0 (by omega)
  have hf1 : Fr (fun _ => False) w ((wd.setCell ⟨b, 0, none⟩ (.int .i64 3)).setCell ⟨b, 1, none⟩ (.int .i64 s)) := hf0.setCell _ _ (.inr HBB.out)
  have k10 : ((wd.setCell ⟨b, 0, none⟩ (.int .i64 3)).setCell ⟨b, 1, none⟩ (.int .i64 s)).cell? ⟨b, 0, none⟩ = some (.int .i64 3) := (cell_of_row ((wd.setCell ⟨b, 0, none⟩ (.int .i64 3)).setCell ⟨b, 1, none⟩ (.int .i64 s)) _ 0 _ _ _ hl1).trans rfl
  have k11 : ((wd.setCell ⟨b, 0, none⟩ (.int .i64 3)).setCell ⟨b, 1, none⟩ (.int .i64 s)).cell? ⟨b, 1, none⟩ = some (.int .i64 s) := (cell_of_row ((wd.setCell ⟨b, 0, none⟩ (.int .i64 3)).setCell ⟨b, 1, none⟩ (.int .i64 s)) _ 1 _ _ _ hl1).trans rfl
  have k12 : ((wd.setCell ⟨b, 0, none⟩ (.int .i64 3)).setCell ⟨b, 1, none⟩ (.int .i64 s)).cell? ⟨b, 2, none⟩ = some (.int .i64 ex) := (cell_of_row ((wd.setCell ⟨b, 0, none⟩ (.int .i64 3)).setCell ⟨b, 1, none⟩ (.int .i64 s)) _ 2 _ _ _ hl1).trans rfl
  have k13 : ((wd.setCell ⟨b, 0, none⟩ (.int .i64 3)).setCell ⟨b, 1, none⟩ (.int .i64 s)).cell? ⟨b, 3, none⟩ = some (.int .i64 vs) := (cell_of_row ((wd.setCell ⟨b, 0, none⟩ (.int .i64 3)).setCell ⟨b, 1, none⟩ (.int .i64 s)) _ 3 _ _ _ hl1).trans rfl
  clear hl0 hr0 hf0
  have HRr := Lib.hid (show ((wd.setCell ⟨b, 0, none⟩ (.int .i64 3)).setCell ⟨b, 1, none⟩ (.int .i64 s)).heap[b + 1 + 1]? = some (.cells #[.int .i64 0, .int .i64 0, .int .i64 0, .int .i64 0] 23 (0, 0)) from hr1)
  have HE := Lib.hid (show (((wd.setCell ⟨b, 0, none⟩ (.int .i64 3)).setCell ⟨b, 1, none⟩ (.int .i64 s)).setRow (b + 1 + 1) #[.int .i64 3, .int .i64 s, .int .i64 ex, .int .i64 vs]).heap[b + 1 + 1]? = some (.cells #[.int .i64 3, .int .i64 s, .int .i64 ex, .int .i64 vs] 23 (0, 0)) from row_set HRr.out)
  have HEF := Lib.hid (Fr.setRow hf1 (b + 1 + 1) #[.int .i64 3, .int .i64 s, .int .i64 ex, .int .i64 vs] (.inr (by have := HBB.out; omega)))
  clear hr1 hf1 hl1
  go_wp2_with (with_reducible refine wpList_store_whole (op := ⟨none, .store 23 _ _, _, _, _, _⟩) rfl 23 _ _ rfl (b + 1 + 1) 23 #[.int .i64 0, .int .i64 0, .int .i64 0, .int .i64 0] #[.int .i64 3, .int .i64 s, .int .i64 ex, .int .i64 vs] rfl rfl HRr.out rfl (by kernel_rfl) (by simp [Value.oneCell']) ?_)
  refine bodyPost_ret (result_row rfl _ _ (b + 1 + 1) 23 #[.int .i64 3, .int .i64 s, .int .i64 ex, .int .i64 vs] (0, 0) _ (.int .i64 0) rfl rfl HE.out Try.underlying23 rfl (by kernel_rfl)) rfl ?_
  exact ⟨rfl, HEF.out⟩
/-- A life, an event at a time, and what comes of it: the ways that are gone here. -/
abbrev StepR (st dl ex vs kd n now r0 r1 r2 r3 c : Int) : Prop :=
  life_Right.f st dl ex vs = some true ∧ 0 ≤ now ∧ now ≤ 1099511627776 ∧
  ((kd = 1 ∧ st = 2 ∧ r0 = 1 ∧ r1 = dl ∧ r2 = ex ∧ r3 = vs ∧ c = 0) ∨ (kd = 2 ∧ st = 1 ∧ r0 = 2 ∧ r1 = dl ∧ r2 = ex ∧ r3 = vs ∧ c = 0) ∨
   (kd = 4 ∧ st = 3 ∧ r0 = 2 ∧ r1 = 0 ∧ r2 = ex ∧ r3 = vs ∧ c = 0) ∨ (kd = 6 ∧ st = 1 ∧ 0 ≤ n ∧ n ≤ 1099511627776 ∧ r0 = 1 ∧ r1 = dl ∧ r2 = n ∧ r3 = vs ∧ c = 0) ∨
   (kd = 7 ∧ st = 1 ∧ r0 = 1 ∧ r1 = dl ∧ r2 = ex ∧ r3 = vs ∧ c = 0) ∨ (kd = 7 ∧ st = 3 ∧ now < dl ∧ r0 = 3 ∧ r1 = dl ∧ r2 = ex ∧ r3 = vs ∧ c = 0) ∨
   (kd = 7 ∧ st = 3 ∧ dl ≤ now ∧ r0 = 4 ∧ r1 = 0 ∧ r2 = ex ∧ r3 = vs ∧ c = 0) ∨ (kd = 3 ∧ st = 1 ∧ 1 ≤ n ∧ n ≤ 1000 ∧ now + n ≤ 1099511627776 ∧ r0 = 3 ∧ r1 = now + n ∧ r2 = ex ∧ r3 = vs ∧ c = 0) ∨
   (kd = 1 ∧ st = 4 ∧ r0 = 0 ∧ r1 = 0 ∧ r2 = 0 ∧ r3 = 0 ∧ c = 4) ∨ (kd = 0 ∧ r0 = 0 ∧ r1 = 0 ∧ r2 = 0 ∧ r3 = 0 ∧ c = 15))
theorem step_calls (k : Nat) (st dl ex vs kd n now r0 r1 r2 r3 c : Int) (h : StepR st dl ex vs kd n now r0 r1 r2 r3 c) (w : World) :
    Calls Try.prog 14 #[.agg #[.int .i64 st, .int .i64 dl, .int .i64 ex, .int .i64 vs], .agg #[.int .i64 kd, .int .i64 n], .int .i64 now] w fun e w' => e = .returned (.tuple #[.agg #[.int .i64 r0, .int .i64 r1, .int .i64 r2, .int .i64 r3], .int .i64 c]) ∧ Fr (fun _ => False) w w' := by
  obtain ⟨hr, h0, h1, h⟩ := h
  rcases h with ⟨rfl, rfl, rfl, rfl, rfl, rfl, rfl⟩ | ⟨rfl, rfl, rfl, rfl, rfl, rfl, rfl⟩ | ⟨rfl, rfl, rfl, rfl, rfl, rfl, rfl⟩ | ⟨rfl, rfl, g0, g1, rfl, rfl, rfl, rfl, rfl⟩ | ⟨rfl, rfl, rfl, rfl, rfl, rfl, rfl⟩ | ⟨rfl, rfl, g0, rfl, rfl, rfl, rfl, rfl⟩ | ⟨rfl, rfl, g0, rfl, rfl, rfl, rfl, rfl⟩ | ⟨rfl, rfl, g0, g1, g2, rfl, rfl, rfl, rfl, rfl⟩ | ⟨rfl, rfl, rfl, rfl, rfl, rfl, rfl⟩ | ⟨rfl, rfl, rfl, rfl, rfl, rfl⟩
  · exact step_enable _ _ _ _ _ hr h0 h1 w
  · exact step_disable _ _ _ _ _ hr h0 h1 w
  · exact step_cancel _ _ _ _ _ hr h0 h1 w
  · exact step_expire _ _ _ _ _ hr h0 h1 g0 g1 w
  · exact step_sweep1 _ _ _ _ _ hr h0 h1 w
  · exact step_early _ _ _ _ _ hr h0 h1 g0 w
  · exact step_due _ _ _ _ _ hr h0 h1 g0 w
  · exact step_schedule _ _ _ _ _ hr h0 h1 (now + n) g0 g1 rfl g2 w
  · exact step_gone _ _ _ _ _ hr h0 h1 w
  · exact step_kind _ _ _ _ _ _ hr h0 h1 w
end Go.Proofs.Ythmpmpepokeedaa
