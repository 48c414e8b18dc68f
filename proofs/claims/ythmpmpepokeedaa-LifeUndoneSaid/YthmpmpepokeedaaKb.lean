/- A life printed and parsed, where awake asks it. -/
import Derived.Test.YthmpmpepokeedaaKa
import Derived.Test.YthmpmpepokeedaaL1
set_option linter.unusedVariables false
set_option linter.unusedSimpArgs false
set_option pp.deepTerms true
set_option pp.maxSteps 100000
namespace Go.Proofs.Ythmpmpepokeedaa
open Go.RowKit PLifeUndone Go.Proofs.YthmpmpepokeedaaW.PrintWords
/-- A life in memory. -/
def Lf (w : World) (B : Nat) (a b c d : Int) : Prop := w.heap[B]? = some (.cells #[.int .i64 a, .int .i64 b, .int .i64 c, .int .i64 d] 23 (0, 0))
theorem Lf.c0 {w : World} {B : Nat} {a b c d : Int} (h : Lf w B a b c d) : w.cell? ⟨B, 0, none⟩ = some (.int .i64 a) := (cell_of_row w B 0 _ _ _ h).trans rfl
theorem Lf.c1 {w : World} {B : Nat} {a b c d : Int} (h : Lf w B a b c d) : w.cell? ⟨B, 1, none⟩ = some (.int .i64 b) := (cell_of_row w B 1 _ _ _ h).trans rfl
theorem Lf.c2 {w : World} {B : Nat} {a b c d : Int} (h : Lf w B a b c d) : w.cell? ⟨B, 2, none⟩ = some (.int .i64 c) := (cell_of_row w B 2 _ _ _ h).trans rfl
theorem Lf.c3 {w : World} {B : Nat} {a b c d : Int} (h : Lf w B a b c d) : w.cell? ⟨B, 3, none⟩ = some (.int .i64 d) := (cell_of_row w B 3 _ _ _ h).trans rfl
theorem Lf.fr {F : Nat → Prop} {w w' : World} {B : Nat} {a b c d : Int} (h : Lf w B a b c d) (hf : Fr F w w') (hn : ¬ F B) : Lf w' B a b c d := hf.heap h hn
set_option maxRecDepth 20000 in
set_option maxHeartbeats 4000000 in
theorem print_calls (st dl ex vs : Int) (h : life_Right.f st dl ex vs = some true) (w : World) :
    Calls Try.prog 46 #[.agg #[.int .i64 st, .int .i64 dl, .int .i64 ex, .int .i64 vs]] w fun e w' => ∃ B, e = .returned (.tuple #[.slice (some ⟨B, 0, none⟩) 4 4, .int .i64 0]) ∧ w'.heap[B]? = some (.cells #[.iface 3 (.int .i64 st), .iface 3 (.int .i64 dl), .iface 3 (.int .i64 ex), .iface 3 (.int .i64 vs)] 20 (0, 0)) ∧ Fr (fun _ => False) w w' := by
  go_enter Try.func46, Try.ntmps46
  go_wp2_with fail
  refine (right_calls st dl ex vs true h _).mono ?_
  rintro e w1 ⟨rfl, hf⟩
  have hl : Lf w1 w.heap.size st dl ex vs := hf.heap (heap_alloc_new w _) id
  have HF := Lib.hid (((Fr.refl (fun _ => False) w).alloc _).trans hf (fun i hi => hi.elim))
  have c0 := hl.c0
  have c1 := hl.c1
  have c2 := hl.c2
  have c3 := hl.c3
  clear hl hf
  go_wp2_with fail
  go_ret2
  exact ⟨_, rfl, heap_alloc_new w1 _, HF.out.alloc _⟩
theorem ta58 (v : Value) (W : World) : (Instr.typeAssert (.iface 58 v) 20 58 true).run Try.prog W = .ok (.tuple #[v, .bool true]) W := by
  simp [Instr.typeAssert, run_underlying Try.underlying58, go_sem, Result.andThen]
theorem ta3 (v : Value) (W : World) : (Instr.typeAssert (.iface 3 v) 20 3 true).run Try.prog W = .ok (.tuple #[v, .bool true]) W := by
  simp [Instr.typeAssert, run_underlying Try.underlying3, go_sem, Result.andThen]
theorem results_cell_tmp_row {P : Program} {fn : Func} {p u : Tmp} {ty : TypeId} (h : fn.results = #[.cell p ty, .tmp u]) (tmps : Array Value) (w : World) (g : Nat) (t : TypeId) (cs : Array Value) (fr : Nat × Nat) (d : TypeDesc) (x : Value)
    (hp : tmps.getD p undef = .pointer (some ⟨g, 0, none⟩)) (hx : tmps.getD u undef = x) (hg : w.heap[g]? = some (.cells cs t fr))
    (hu : P.underlying ty = some d) (hd : (match d with | .struct _ | .array _ _ => true | _ => false) = true) (hi : (P.info? ty).map (·.size) = some cs.size) :
    (results fn tmps).run P w = .ok (.tuple #[.agg cs, x]) w := by
  rw [results_cell_tmp h, hp, hx]
  simp [asAddr, Result.andThen, run_loadVar_row w g t ty cs fr d hg hu hd hi]
def fL (st dl ex vs : Int) (i j : Nat) : Int := if j < i then [st, dl, ex, vs].getD j 0 else 0
def rowL (st dl ex vs : Int) (i : Nat) : Array Value := #[.int .i64 (fL st dl ex vs i 0), .int .i64 (fL st dl ex vs i 1), .int .i64 (fL st dl ex vs i 2), .int .i64 (fL st dl ex vs i 3)]
theorem rowL_set (st dl ex vs : Int) (i : Nat) (hi : i < 4) : (rowL st dl ex vs i).setIfInBounds i (.int .i64 ([st, dl, ex, vs].getD i 0)) = rowL st dl ex vs (i + 1) := by
  have : i = 0 ∨ i = 1 ∨ i = 2 ∨ i = 3 := by omega
  rcases this with rfl | rfl | rfl | rfl <;> simp [rowL, fL]
theorem rowL_get (st dl ex vs : Int) (i : Nat) (hi : i < 4) : (rowL st dl ex vs i)[i]? = some (.int .i64 0) := by
  have : i = 0 ∨ i = 1 ∨ i = 2 ∨ i = 3 := by omega
  rcases this with rfl | rfl | rfl | rfl <;> simp [rowL, fL]
theorem ifc_get (st dl ex vs : Int) (i : Nat) (hi : i < 4) : (#[.iface 3 (.int .i64 st), .iface 3 (.int .i64 dl), .iface 3 (.int .i64 ex), .iface 3 (.int .i64 vs)] : Array Value)[i]? = some (.iface 3 (.int .i64 ([st, dl, ex, vs].getD i 0))) := by
  have : i = 0 ∨ i = 1 ∨ i = 2 ∨ i = 3 := by omega
  rcases this with rfl | rfl | rfl | rfl <;> rfl
set_option maxRecDepth 20000 in
set_option maxHeartbeats 4000000 in
theorem parse_calls (B : Nat) (st dl ex vs : Int) (h : life_Right.f st dl ex vs = some true) (w : World) (hB : w.heap[B]? = some (.cells #[.iface 3 (.int .i64 st), .iface 3 (.int .i64 dl), .iface 3 (.int .i64 ex), .iface 3 (.int .i64 vs)] 20 (0, 0))) :
    Calls Try.prog 47 #[.iface 58 (.slice (some ⟨B, 0, none⟩) 4 4)] w fun e w' => e = .returned (.tuple #[.agg #[.int .i64 st, .int .i64 dl, .int .i64 ex, .int .i64 vs], .int .i64 0]) ∧ Fr (fun _ => False) w w' := by
  have HB := Lib.hid hB
  clear hB
  have hu58 := ta58
  have hu3 := ta3
  go_enter Try.func47, Try.ntmps47
  go_wp2_with fail
  have hf : Fr (fun _ => False) w ((w.alloc (.cells #[.int .i64 0, .int .i64 0, .int .i64 0, .int .i64 0] 23)).alloc (.cells #[.int .i64 0, .int .i64 0, .int .i64 0, .int .i64 0] 117)) := ((Fr.refl _ _).alloc _).alloc _
  have hR : ((w.alloc (.cells #[.int .i64 0, .int .i64 0, .int .i64 0, .int .i64 0] 23)).alloc (.cells #[.int .i64 0, .int .i64 0, .int .i64 0, .int .i64 0] 117)).heap[w.heap.size]? = some (.cells #[.int .i64 0, .int .i64 0, .int .i64 0, .int .i64 0] 23 (0, 0)) := ((Fr.refl (fun _ => False) _).alloc _).heap (heap_alloc_new w _) id
  have hN := heap_alloc_new (w.alloc (.cells #[.int .i64 0, .int .i64 0, .int .i64 0, .int .i64 0] 23)) (.cells #[.int .i64 0, .int .i64 0, .int .i64 0, .int .i64 0] 117)
  simp only [World.size_alloc] at hN
  generalize (w.alloc (.cells #[.int .i64 0, .int .i64 0, .int .i64 0, .int .i64 0] 23)).alloc (.cells #[.int .i64 0, .int .i64 0, .int .i64 0, .int .i64 0] 117) = w1 at hf hR hN ⊢
  obtain ⟨R, hRd⟩ : ∃ R, R = w.heap.size := ⟨_, rfl⟩
  rw [← hRd] at hR hN ⊢
  have HRd := Lib.hid hRd
  have HR := Lib.hid (show Lf w1 R 0 0 0 0 from hR)
  have HN := Lib.hid (show w1.heap[R + 1]? = some (.cells (rowL st dl ex vs 0) 117 (0, 0)) from hN)
  have HF := Lib.hid hf
  have hBR : B < R := by rw [hRd]; exact lt_of_heap HB.out
  clear hf hR hN hRd
  go_loopw [16] (fun v wr => ∃ i : Nat, i ≤ 4 ∧ v = .int .i64 i ∧ Lf wr R 0 0 0 0 ∧ wr.heap[R + 1]? = some (.cells (rowL st dl ex vs i) 117 (0, 0)) ∧ Fr (fun _ => False) w wr) (fun v _ => 4 - (intOf v).toNat)
  case atStart => exact ⟨0, Nat.zero_le _, rfl, HR.out, HN.out, HF.out⟩
  case round =>
    obtain ⟨i, hi, rfl, hR, hN, hf⟩ := hrel
    have HR' := Lib.hid hR
    have HN' := Lib.hid hN
    have HF' := Lib.hid hf
    clear hR hN hf HR HN HF
    by_cases hlt : i < 4
    · obtain ⟨x, hx⟩ : ∃ x, x = [st, dl, ex, vs].getD i 0 := ⟨_, rfl⟩
      have hb := HF'.out.heap HB.out id
      have c1 : wr.cell? ⟨B, i, none⟩ = some (.iface 3 (.int .i64 x)) := by
        rw [cell_of_row wr B i _ _ _ hb, hx]
        exact ifc_get st dl ex vs i hlt
      have c2 : wr.cell? ⟨R + 1, i, none⟩ = some (.int .i64 0) := by
        rw [cell_of_row wr (R + 1) i _ _ _ HN'.out]
        exact rowL_get st dl ex vs i hlt
      have hz : wr.frozen? ⟨R + 1, i, none⟩ = false := frozen_of_row wr _ _ _ _ HN'.out
      have HN1 := Lib.hid (show (wr.setCell ⟨R + 1, i, none⟩ (.int .i64 x)).heap[R + 1]? = some (.cells (rowL st dl ex vs (i + 1)) 117 (0, 0)) by
        rw [heap_setCell_same wr (R + 1) i _ _ _ HN'.out, hx, rowL_set st dl ex vs i hlt])
      have HR1 := Lib.hid (show Lf (wr.setCell ⟨R + 1, i, none⟩ (.int .i64 x)) R 0 0 0 0 from (heap_setCell_other wr _ R _ (by simp)).trans HR'.out)
      have HF1 := Lib.hid (HF'.out.setCell ⟨R + 1, i, none⟩ (.int .i64 x) (.inr (by have := HRd.out; simp; omega)))
      clear hx hb
      go_wp2_with fail
      go_roundw
      case rel => exact ⟨i + 1, by omega, by go_num, HR1.out, HN1.out, HF1.out⟩
      case measure => simp [intOf]; omega
    · have h4 : i = 4 := by omega
      rw [h4] at HN'
      have HN4 := Lib.hid (show wr.heap[R + 1]? = some (.cells #[.int .i64 st, .int .i64 dl, .int .i64 ex, .int .i64 vs] 117 (0, 0)) from HN'.out)
      clear h4 HN'
      have d0 : wr.cell? ⟨R + 1, 0, none⟩ = some (.int .i64 st) := (cell_of_row wr _ 0 _ _ _ HN4.out).trans rfl
      have d1 : wr.cell? ⟨R + 1, 1, none⟩ = some (.int .i64 dl) := (cell_of_row wr _ 1 _ _ _ HN4.out).trans rfl
      have d2 : wr.cell? ⟨R + 1, 2, none⟩ = some (.int .i64 ex) := (cell_of_row wr _ 2 _ _ _ HN4.out).trans rfl
      have d3 : wr.cell? ⟨R + 1, 3, none⟩ = some (.int .i64 vs) := (cell_of_row wr _ 3 _ _ _ HN4.out).trans rfl
      go_wp2_with fail
      refine (right_calls st dl ex vs true h _).mono ?_
      rintro e w3 ⟨rfl, h3⟩
      have hl : Lf w3 wr.heap.size st dl ex vs := h3.heap (heap_alloc_new wr _) id
      have hr3 : Lf w3 R 0 0 0 0 := h3.heap (((Fr.refl (fun _ => False) wr).alloc _).heap HR'.out id) id
      have HF3 := Lib.hid ((HF'.out.alloc _).trans h3 (fun i hi => hi.elim))
      have HR3 := Lib.hid (show w3.heap[R]? = some (.cells #[.int .i64 0, .int .i64 0, .int .i64 0, .int .i64 0] 23 (0, 0)) from hr3)
      have e0 := hl.c0
      have e1 := hl.c1
      have e2 := hl.c2
      have e3 := hl.c3
      have HE := Lib.hid (show Lf (w3.setRow R #[.int .i64 st, .int .i64 dl, .int .i64 ex, .int .i64 vs]) R st dl ex vs from by
        have hlt2 := (Array.getElem?_eq_some_iff.1 hr3).1
        show (w3.heap.modify R _)[R]? = _
        have hr4 : w3.heap[R]? = _ := hr3
        simp [Array.getElem?_modify, hr4])
      have HEF := Lib.hid (HF3.out.setRow R #[.int .i64 st, .int .i64 dl, .int .i64 ex, .int .i64 vs] (.inr (by have := HRd.out; omega)))
      clear hl hr3 h3 d0 d1 d2 d3
      go_wp2_with (with_reducible refine wpList_store_whole (op := ⟨none, .store 23 _ _, _, _, _, _⟩) rfl 23 _ _ rfl R 23 #[.int .i64 0, .int .i64 0, .int .i64 0, .int .i64 0] #[.int .i64 st, .int .i64 dl, .int .i64 ex, .int .i64 vs] rfl rfl HR3.out rfl (by kernel_rfl) (by simp [Value.oneCell']) ?_)
      refine bodyPost_ret (results_cell_tmp_row rfl _ _ R 23 #[.int .i64 st, .int .i64 dl, .int .i64 ex, .int .i64 vs] (0, 0) _ (.int .i64 0) rfl rfl HE.out Try.underlying23 rfl (by kernel_rfl)) rfl ?_
      exact ⟨rfl, HEF.out⟩
end Go.Proofs.Ythmpmpepokeedaa
