/- Disks: the document's counted and Crash, walked (no printed text). -/
import Derived.Test.YthlngbdbmnnnaaaQi
import Derived.Laws.ResultCell
set_option linter.unusedVariables false
set_option linter.unusedSimpArgs false
set_option pp.deepTerms true
set_option pp.maxSteps 100000
namespace Go.Proofs.Ythlngbdbmnnnaaa
open Go.RowKit
theorem RdV.sl {α : Type} {w : World} {k : Nat} {f : α → List Value} {v : Value} {l : List α} (h : RdV w k f v l) : ∃ A c, v = .slice A l.length c := by
  obtain ⟨A, c, e, _⟩ := h
  exact ⟨A, c, e⟩
theorem RD.sl {w : World} {E : Dk} {u v : Value} (h : RD w E u v) : ∃ A1 n1 c1 A2 n2 c2, u = .slice A1 n1 c1 ∧ v = .slice A2 n2 c2 := by
  obtain ⟨A, c, e⟩ := h.u.sl
  obtain ⟨A', c', e'⟩ := h.v.sl
  exact ⟨_, _, _, _, _, _, e, e'⟩
/-- A row of texts does not lie in a block without texts. -/
theorem RdV.aside {α : Type} {w w' : World} {k : Nat} {f : α → List Value} {v : Value} {l : List α} {B : Nat} {r : Array Value} {t : TypeId} {fr : Nat × Nat} (h : RdV w k f v l) (hs : ∀ x, ∃ (j : Nat) (s : ByteArray), (f x)[j]? = some (Value.string s)) (hB : w.heap[B]? = some (.cells r t fr)) (hr : ∀ (j : Nat) (s : ByteArray), r[j]? ≠ some (.string s))
    (hf : Fr (fun i => i = B) w w') : RdV w' k f v l := by
  obtain ⟨A, c, e, hsl, h1, h2⟩ := h
  refine ⟨A, c, e, fun i x hx => ?_, h1, h2⟩
  obtain ⟨b, off, rfl, hra⟩ := hsl i x hx
  refine ⟨b, off, rfl, fun j u hj => ?_⟩
  by_cases hb : b = B
  · subst hb
    obtain ⟨j', s, hj'⟩ := hs x
    have := hra j' _ hj'
    rw [cell_of_row w b _ _ _ _ hB] at this
    exact absurd this (hr _ _)
  · exact hf.cell (hra j u hj) hb
theorem strC_text (x : ByteArray) : ∃ (j : Nat) (s : ByteArray), (strC x)[j]? = some (Value.string s) := ⟨0, x, rfl⟩
theorem wrC_text (x : Wr) : ∃ (j : Nat) (s : ByteArray), (wrC x)[j]? = some (Value.string s) := ⟨1, str x.data, rfl⟩
theorem RD.aside {w w' : World} {E : Dk} {u v : Value} {B : Nat} {r : Array Value} {t : TypeId} {fr : Nat × Nat} (h : RD w E u v) (hB : w.heap[B]? = some (.cells r t fr)) (hr : ∀ (j : Nat) (s : ByteArray), r[j]? ≠ some (.string s)) (hf : Fr (fun i => i = B) w w') : RD w' E u v :=
  ⟨h.u.aside strC_text hB hr hf, h.v.aside wrC_text hB hr hf⟩
theorem seven_no (A1 A2 : Option Addr) (n1 c1 n2 c2 : Nat) (a k t c : Int) (d : Bool) : ∀ (j : Nat) (s : ByteArray), (#[.slice A1 n1 c1, .slice A2 n2 c2, .int .i64 a, .int .u64 k, .int .i64 t, .int .i64 c, .bool d] : Array Value)[j]? ≠ some (.string s) := fun j s h => by
  match j with
  | 0 => simp at h
  | 1 => simp at h
  | 2 => simp at h
  | 3 => simp at h
  | 4 => simp at h
  | 5 => simp at h
  | 6 => simp at h
  | j + 7 => simp at h
theorem results_two {P : Program} {fn : Func} {p u : Tmp} {ty : TypeId} (h : fn.results = #[.cell p ty, .tmp u]) (tmps : Array Value) (w : World) (g : Nat) (t : TypeId) (cs : Array Value) (fr : Nat × Nat) (d : TypeDesc) (x : Value)
    (hp : tmps.getD p undef = .pointer (some ⟨g, 0, none⟩)) (hx : tmps.getD u undef = x) (hg : w.heap[g]? = some (.cells cs t fr))
    (hu : P.underlying ty = some d) (hd : (match d with | .struct _ | .array _ _ => true | _ => false) = true) (hi : (P.info? ty).map (·.size) = some cs.size) :
    (results fn tmps).run P w = .ok (.tuple #[.agg cs, x]) w := by
  rw [results_cell_tmp h, hp, hx]
  simp [asAddr, Result.andThen, run_loadVar_row w g t ty cs fr d hg hu hd hi]
/-- The row of a box that was made, and one of noughts behind it. -/
theorem two_rows (w : World) (r z : Array Value) : ∃ w0, w0 = (w.alloc (.cells r 48)).alloc (.cells z 48) ∧ Fr (fun _ => False) w w0 ∧ w0.heap[w.heap.size]? = some (.cells r 48 (0, 0)) ∧ w0.heap[w.heap.size + 1]? = some (.cells z 48 (0, 0)) := by
  refine ⟨_, rfl, ((Fr.refl _ _).alloc _).alloc _, ((Fr.refl (fun _ => False) _).alloc _).heap (heap_alloc_new w _) id, ?_⟩
  have h := heap_alloc_new (w.alloc (.cells r 48)) (.cells z 48)
  rw [World.size_alloc] at h
  exact h
set_option maxRecDepth 20000 in
set_option maxHeartbeats 8000000 in
theorem refcounted_calls (E : Dk) {n m : Nat} (hW : Wd n m E) (hm : m < 100000) (hn : n ≤ 100000) (hd : E.down = false) (u v : Value) (w : World) (hR : RD w E u v) :
    Calls Try.prog 47 #[.agg (refRow E u v)] w fun e w' => ∃ u' v', e = .returned (.tuple #[.agg (refRow E.counted u' v'), .bool E.failing]) ∧ RD w' E.counted u' v' ∧ Fr (fun _ => False) w w' ∧ Yg w w' u v u' v' := by
  obtain ⟨A1, n1, c1, A2, n2, c2, rfl, rfl⟩ := hR.sl
  have hc0 := hW.c0
  have hc1 := hW.c1
  have hW1 : Wd n m { E with count := E.count } := hW
  obtain ⟨E1, hE1⟩ : ∃ E1, E1 = { E with count := E.count + 1 } := ⟨_, rfl⟩
  have hWE : Wd n (m + 1) E1 := by rw [hE1]; exact ⟨hW.nn, hW.L, hW.W, by have := hW.len; show E.wait.length ≤ m + 1; omega, by show 0 ≤ E.count + 1; omega, by show E.count + 1 ≤ ((m + 1 : Nat) : Int); omega, hW.k0, hW.k1⟩
  have hRE : RD w E1 (.slice A1 n1 c1) (.slice A2 n2 c2) := by rw [hE1]; exact ⟨hR.u, hR.v⟩
  have hco : E.counted = if E.cutAt = E.count + 1 then failD E1 E.keep E.torn else E1 := by
    unfold Dk.counted
    by_cases h : E.cutAt = E.count + 1
    · rw [if_pos h, if_pos h, hE1]; unfold Dk.crash failD; rw [if_neg (by show ¬ E.down = true; rw [hd]; decide)]
    · rw [if_neg h, if_neg h, hE1]
  have hfa : E.failing = decide (E.cutAt = E.count + 1) := rfl
  have hrow1 : refRow E1 (.slice A1 n1 c1) (.slice A2 n2 c2) = #[.slice A1 n1 c1, .slice A2 n2 c2, .int .i64 E.cutAt, .int .u64 E.keep, .int .i64 E.torn, .int .i64 (E.count + 1), .bool E.down] := by rw [hE1]; rfl
  rw [hco, hfa]
  unfold refRow at hrow1 ⊢
  obtain ⟨ca, hca⟩ : ∃ x, x = E.cutAt := ⟨_, rfl⟩
  obtain ⟨ck, hck⟩ : ∃ x, x = E.keep := ⟨_, rfl⟩
  obtain ⟨ct, hct⟩ : ∃ x, x = E.torn := ⟨_, rfl⟩
  obtain ⟨cc, hcc⟩ : ∃ x, x = E.count := ⟨_, rfl⟩
  obtain ⟨dn, hdn⟩ : ∃ x, x = E.down := ⟨_, rfl⟩
  obtain ⟨cd, hcd⟩ : ∃ x, x = cc + 1 := ⟨_, rfl⟩
  have hw : IntKind.i64.wrap (cc + 1) = cd := by rw [IntWalk.i64_in _ (by omega), hcd]
  have hcd0 : 1 ≤ cd := by omega
  obtain ⟨BX, hBX⟩ : ∃ b, b = w.heap.size := ⟨_, rfl⟩
  obtain ⟨w0, hw0, hf0, hb0, hz0⟩ := two_rows w #[.slice A1 n1 c1, .slice A2 n2 c2, .int .i64 ca, .int .u64 ck, .int .i64 ct, .int .i64 cc, .bool dn] #[.slice none 0 0, .slice none 0 0, .int .i64 0, .int .u64 0, .int .i64 0, .int .i64 0, .bool false]
  rw [← hBX] at hb0 hz0
  have hb1 := heap_setCell_same w0 BX 5 _ _ (.int .i64 cd) hb0
  have hf1 : Fr (fun i => i = BX) w0 (w0.setCell ⟨BX, 5, none⟩ (.int .i64 cd)) := (Fr.refl (fun i => i = BX) w0).setCell ⟨BX, 5, none⟩ _ (.inl rfl)
  obtain ⟨w1, hw1⟩ : ∃ x, x = w0.setCell ⟨BX, 5, none⟩ (.int .i64 cd) := ⟨_, rfl⟩
  rw [← hw1] at hb1 hf1
  have hb1' : w1.heap[BX]? = some (.cells #[.slice A1 n1 c1, .slice A2 n2 c2, .int .i64 ca, .int .u64 ck, .int .i64 ct, .int .i64 cd, .bool dn] 48 (0, 0)) := hb1
  have hz1 := hf1.heap hz0 (by omega)
  have hF1 : Fr (fun _ => False) w w1 := hf0.trans hf1 (fun i hi => .inr (by omega))
  have HF1 := Lib.hid hF1
  have HB1 := Lib.hid hb1'
  have HZ1 := Lib.hid hz1
  have HFail := Lib.hid (show ∀ w', Fr (fun _ => False) w w' → Calls Try.prog 48 #[.agg #[.slice A1 n1 c1, .slice A2 n2 c2, .int .i64 ca, .int .u64 ck, .int .i64 ct, .int .i64 cd, .bool dn], .int .u64 ck, .int .i64 ct] w' fun e w2 => ∃ u', e = .returned (.agg (refRow (failD E1 ck ct) u' (.slice none 0 0))) ∧ RD w2 (failD E1 ck ct) u' (.slice none 0 0) ∧ Fr (fun _ => False) w' w2 ∧ ∀ b, u'.ownBlock = some b → w'.heap.size ≤ b ∧ b < w2.heap.size from fun w' hf => by
    have h := reffail_calls E1 hWE (by omega) hn ck ct (by rw [hck]; exact hW.k0) (by rw [hck]; exact hW.k1) _ _ w' (hRE.frF hf)
    unfold refRow at h
    rw [hrow1, ← hca, ← hck, ← hct, ← hcc, ← hdn, ← hcd] at h
    exact h)
  have HRE := Lib.hid hRE
  have HE1c := Lib.hid (show failD E1 ck ct = failD E1 ck ct from rfl)
  rw [← hca, ← hck, ← hct, ← hcc, ← hdn, ← hcd]
  have HRow1 := Lib.hid (show (#[.slice A1 n1 c1, .slice A2 n2 c2, .int .i64 E1.cutAt, .int .u64 E1.keep, .int .i64 E1.torn, .int .i64 E1.count, .bool E1.down] : Array Value) = #[.slice A1 n1 c1, .slice A2 n2 c2, .int .i64 ca, .int .u64 ck, .int .i64 ct, .int .i64 cd, .bool dn] from by rw [hrow1, ← hca, ← hck, ← hct, ← hcc, ← hdn, ← hcd])
  have k0 : w0.cell? ⟨BX, 0, none⟩ = some (.slice A1 n1 c1) := (cell_of_row w0 _ 0 _ _ _ hb0).trans rfl
  have f0 : w0.frozen? ⟨BX, 0, none⟩ = false := frozen_of_row w0 _ _ _ _ hb0
  have k1 : w0.cell? ⟨BX, 1, none⟩ = some (.slice A2 n2 c2) := (cell_of_row w0 _ 1 _ _ _ hb0).trans rfl
  have f1 : w0.frozen? ⟨BX, 1, none⟩ = false := frozen_of_row w0 _ _ _ _ hb0
  have k2 : w0.cell? ⟨BX, 2, none⟩ = some (.int .i64 ca) := (cell_of_row w0 _ 2 _ _ _ hb0).trans rfl
  have f2 : w0.frozen? ⟨BX, 2, none⟩ = false := frozen_of_row w0 _ _ _ _ hb0
  have k3 : w0.cell? ⟨BX, 3, none⟩ = some (.int .u64 ck) := (cell_of_row w0 _ 3 _ _ _ hb0).trans rfl
  have f3 : w0.frozen? ⟨BX, 3, none⟩ = false := frozen_of_row w0 _ _ _ _ hb0
  have k4 : w0.cell? ⟨BX, 4, none⟩ = some (.int .i64 ct) := (cell_of_row w0 _ 4 _ _ _ hb0).trans rfl
  have f4 : w0.frozen? ⟨BX, 4, none⟩ = false := frozen_of_row w0 _ _ _ _ hb0
  have k5 : w0.cell? ⟨BX, 5, none⟩ = some (.int .i64 cc) := (cell_of_row w0 _ 5 _ _ _ hb0).trans rfl
  have f5 : w0.frozen? ⟨BX, 5, none⟩ = false := frozen_of_row w0 _ _ _ _ hb0
  have k6 : w0.cell? ⟨BX, 6, none⟩ = some (.bool dn) := (cell_of_row w0 _ 6 _ _ _ hb0).trans rfl
  have f6 : w0.frozen? ⟨BX, 6, none⟩ = false := frozen_of_row w0 _ _ _ _ hb0
  have l0 : w1.cell? ⟨BX, 0, none⟩ = some (.slice A1 n1 c1) := (cell_of_row w1 _ 0 _ _ _ hb1').trans rfl
  have g0 : w1.frozen? ⟨BX, 0, none⟩ = false := frozen_of_row w1 _ _ _ _ hb1'
  have l1 : w1.cell? ⟨BX, 1, none⟩ = some (.slice A2 n2 c2) := (cell_of_row w1 _ 1 _ _ _ hb1').trans rfl
  have g1 : w1.frozen? ⟨BX, 1, none⟩ = false := frozen_of_row w1 _ _ _ _ hb1'
  have l2 : w1.cell? ⟨BX, 2, none⟩ = some (.int .i64 ca) := (cell_of_row w1 _ 2 _ _ _ hb1').trans rfl
  have g2 : w1.frozen? ⟨BX, 2, none⟩ = false := frozen_of_row w1 _ _ _ _ hb1'
  have l3 : w1.cell? ⟨BX, 3, none⟩ = some (.int .u64 ck) := (cell_of_row w1 _ 3 _ _ _ hb1').trans rfl
  have g3 : w1.frozen? ⟨BX, 3, none⟩ = false := frozen_of_row w1 _ _ _ _ hb1'
  have l4 : w1.cell? ⟨BX, 4, none⟩ = some (.int .i64 ct) := (cell_of_row w1 _ 4 _ _ _ hb1').trans rfl
  have g4 : w1.frozen? ⟨BX, 4, none⟩ = false := frozen_of_row w1 _ _ _ _ hb1'
  have l5 : w1.cell? ⟨BX, 5, none⟩ = some (.int .i64 cd) := (cell_of_row w1 _ 5 _ _ _ hb1').trans rfl
  have g5 : w1.frozen? ⟨BX, 5, none⟩ = false := frozen_of_row w1 _ _ _ _ hb1'
  have l6 : w1.cell? ⟨BX, 6, none⟩ = some (.bool dn) := (cell_of_row w1 _ 6 _ _ _ hb1').trans rfl
  have g6 : w1.frozen? ⟨BX, 6, none⟩ = false := frozen_of_row w1 _ _ _ _ hb1'
  have z0 : w1.cell? ⟨BX + 1, 0, none⟩ = some (.slice none 0 0) := (cell_of_row w1 _ 0 _ _ _ hz1).trans rfl
  have y0 : w1.frozen? ⟨BX + 1, 0, none⟩ = false := frozen_of_row w1 _ _ _ _ hz1
  have z1 : w1.cell? ⟨BX + 1, 1, none⟩ = some (.slice none 0 0) := (cell_of_row w1 _ 1 _ _ _ hz1).trans rfl
  have y1 : w1.frozen? ⟨BX + 1, 1, none⟩ = false := frozen_of_row w1 _ _ _ _ hz1
  have z2 : w1.cell? ⟨BX + 1, 2, none⟩ = some (.int .i64 0) := (cell_of_row w1 _ 2 _ _ _ hz1).trans rfl
  have y2 : w1.frozen? ⟨BX + 1, 2, none⟩ = false := frozen_of_row w1 _ _ _ _ hz1
  have z3 : w1.cell? ⟨BX + 1, 3, none⟩ = some (.int .u64 0) := (cell_of_row w1 _ 3 _ _ _ hz1).trans rfl
  have y3 : w1.frozen? ⟨BX + 1, 3, none⟩ = false := frozen_of_row w1 _ _ _ _ hz1
  have z4 : w1.cell? ⟨BX + 1, 4, none⟩ = some (.int .i64 0) := (cell_of_row w1 _ 4 _ _ _ hz1).trans rfl
  have y4 : w1.frozen? ⟨BX + 1, 4, none⟩ = false := frozen_of_row w1 _ _ _ _ hz1
  have z5 : w1.cell? ⟨BX + 1, 5, none⟩ = some (.int .i64 0) := (cell_of_row w1 _ 5 _ _ _ hz1).trans rfl
  have y5 : w1.frozen? ⟨BX + 1, 5, none⟩ = false := frozen_of_row w1 _ _ _ _ hz1
  have z6 : w1.cell? ⟨BX + 1, 6, none⟩ = some (.bool false) := (cell_of_row w1 _ 6 _ _ _ hz1).trans rfl
  have y6 : w1.frozen? ⟨BX + 1, 6, none⟩ = false := frozen_of_row w1 _ _ _ _ hz1
  have hBXw : w.heap.size ≤ BX := Nat.le_of_eq hBX.symm
  have HW0 := hw0.symm
  have HW1 := hw1.symm
  clear hR hc0 hc1 hW1 hW hE1 hWE hRE hco hfa hrow1 hca hck hct hcc hdn hcd hw0 hw1 hf0 hb0 hz0 hb1 hf1 hb1' hz1 hF1 hd
  subst hBX
  by_cases hcut : ca = cd
  · have d1 : decide (1 ≤ ca) = true := decide_eq_true (by omega)
    have d2 : (ca == cd) = true := beq_iff_eq.2 hcut
    have d3 : decide (ca = cd) = true := decide_eq_true hcut
    rw [if_pos hcut, d3]
    clear hcut hcd0 d3
    go_enter Try.func47, Try.ntmps47
    go_wp2_with fail
    refine (HFail.out w1 HF1.out).mono ?_
    rintro e w2 ⟨u', rfl, hrd, f2, hy⟩
    obtain ⟨A3, c3, rfl⟩ := hrd.u.sl
    generalize (secs (failD E1 ck ct).n (failD E1 ck ct).lasts).length = n3 at hrd hy ⊢
    have HY := Lib.hid hy
    clear hy
    unfold refRow
    obtain ⟨ca', hca'⟩ : ∃ x, x = (failD E1 ck ct).cutAt := ⟨_, rfl⟩
    obtain ⟨ck', hck'⟩ : ∃ x, x = (failD E1 ck ct).keep := ⟨_, rfl⟩
    obtain ⟨ct', hct'⟩ : ∃ x, x = (failD E1 ck ct).torn := ⟨_, rfl⟩
    obtain ⟨cc', hcc'⟩ : ∃ x, x = (failD E1 ck ct).count := ⟨_, rfl⟩
    obtain ⟨dn', hdn'⟩ : ∃ x, x = (failD E1 ck ct).down := ⟨_, rfl⟩
    rw [← hca', ← hck', ← hct', ← hcc', ← hdn']
    have hz2 := f2.heap HZ1.out id
    have zz0 : w2.cell? ⟨w.heap.size + 1, 0, none⟩ = some (.slice none 0 0) := (cell_of_row w2 _ 0 _ _ _ hz2).trans rfl
    have yy0 : w2.frozen? ⟨w.heap.size + 1, 0, none⟩ = false := frozen_of_row w2 _ _ _ _ hz2
    have zz1 : w2.cell? ⟨w.heap.size + 1, 1, none⟩ = some (.slice none 0 0) := (cell_of_row w2 _ 1 _ _ _ hz2).trans rfl
    have yy1 : w2.frozen? ⟨w.heap.size + 1, 1, none⟩ = false := frozen_of_row w2 _ _ _ _ hz2
    have zz2 : w2.cell? ⟨w.heap.size + 1, 2, none⟩ = some (.int .i64 0) := (cell_of_row w2 _ 2 _ _ _ hz2).trans rfl
    have yy2 : w2.frozen? ⟨w.heap.size + 1, 2, none⟩ = false := frozen_of_row w2 _ _ _ _ hz2
    have zz3 : w2.cell? ⟨w.heap.size + 1, 3, none⟩ = some (.int .u64 0) := (cell_of_row w2 _ 3 _ _ _ hz2).trans rfl
    have yy3 : w2.frozen? ⟨w.heap.size + 1, 3, none⟩ = false := frozen_of_row w2 _ _ _ _ hz2
    have zz4 : w2.cell? ⟨w.heap.size + 1, 4, none⟩ = some (.int .i64 0) := (cell_of_row w2 _ 4 _ _ _ hz2).trans rfl
    have yy4 : w2.frozen? ⟨w.heap.size + 1, 4, none⟩ = false := frozen_of_row w2 _ _ _ _ hz2
    have zz5 : w2.cell? ⟨w.heap.size + 1, 5, none⟩ = some (.int .i64 0) := (cell_of_row w2 _ 5 _ _ _ hz2).trans rfl
    have yy5 : w2.frozen? ⟨w.heap.size + 1, 5, none⟩ = false := frozen_of_row w2 _ _ _ _ hz2
    have zz6 : w2.cell? ⟨w.heap.size + 1, 6, none⟩ = some (.bool false) := (cell_of_row w2 _ 6 _ _ _ hz2).trans rfl
    have yy6 : w2.frozen? ⟨w.heap.size + 1, 6, none⟩ = false := frozen_of_row w2 _ _ _ _ hz2
    have hput := put7_heap hz2 (.slice A3 n3 c3) (.slice none 0 0) (.int .i64 ca') (.int .u64 ck') (.int .i64 ct') (.int .i64 cc') (.bool dn')
    have hpf := put7_fr w2 (w.heap.size + 1) (.slice A3 n3 c3) (.slice none 0 0) (.int .i64 ca') (.int .u64 ck') (.int .i64 ct') (.int .i64 cc') (.bool dn')
    have HSz := Lib.hid hpf.size
    have hlt := lt_of_heap hz2
    have HRd := Lib.hid (hrd.aside hz2 (seven_no _ _ _ _ _ _ _ _ _ _ _) hpf)
    have HPF := Lib.hid hpf
    have HF2 := Lib.hid (HF1.out.trans f2 (fun i hi => hi.elim))
    have HPut := Lib.hid hput
    have HQ := Lib.hid (And.intro hca' (And.intro hck' (And.intro hct' (And.intro hcc' hdn'))))
    have HPF := Lib.hid (HF2.out.trans hpf (fun i hi => .inr (by omega)))
    unfold put7 at HPF HPut HRd HSz
    clear hz2 hput hpf hrd f2 hca' hck' hct' hcc' hdn'
    go_wp2_with fail
    refine bodyPost_ret (results_two rfl _ _ (w.heap.size + 1) 48 _ (0, 0) _ (.bool true) rfl rfl HPut.out Try.underlying48 rfl (by kernel_rfl)) rfl ?_
    refine ⟨_, _, ?_, HRd.out, HPF.out, fun b hb => .inr (by rcases hb with hb | hb; have h1 := HY.out b hb; have h2 := HF1.out.size; have h3 := HSz.out; exact ⟨by omega, by omega⟩; cases hb)⟩
    rw [← HQ.out.1, ← HQ.out.2.1, ← HQ.out.2.2.1, ← HQ.out.2.2.2.1, ← HQ.out.2.2.2.2]
  · have d1 : decide (1 ≤ ca) = decide (1 ≤ ca) := rfl
    have d2 : (ca == cd) = false := beq_eq_false_iff_ne.2 hcut
    rw [if_neg hcut, show decide (ca = cd) = false from decide_eq_false hcut]
    have hput := put7_heap HZ1.out (.slice A1 n1 c1) (.slice A2 n2 c2) (.int .i64 ca) (.int .u64 ck) (.int .i64 ct) (.int .i64 cd) (.bool dn)
    have hpf := put7_fr w1 (w.heap.size + 1) (.slice A1 n1 c1) (.slice A2 n2 c2) (.int .i64 ca) (.int .u64 ck) (.int .i64 ct) (.int .i64 cd) (.bool dn)
    have HRd := Lib.hid ((HRE.out.frF HF1.out).aside HZ1.out (seven_no _ _ _ _ _ _ _ _ _ _ _) hpf)
    have HPut := Lib.hid hput
    have HPF := Lib.hid (HF1.out.trans hpf (fun i hi => .inr (by omega)))
    unfold put7 at HPF HPut HRd
    clear hput hpf hcut d1
    by_cases h1 : 1 ≤ ca
    · have d1 : decide (1 ≤ ca) = true := decide_eq_true h1
      clear h1 hcd0
      go_enter Try.func47, Try.ntmps47
      go_wp2_with fail
      refine bodyPost_ret (results_two rfl _ _ (w.heap.size + 1) 48 _ (0, 0) _ (.bool false) rfl rfl HPut.out Try.underlying48 rfl (by kernel_rfl)) rfl ?_
      refine ⟨_, _, ?_, HRd.out, HPF.out, fun b hb => .inl hb⟩
      rw [HRow1.out]
    · have d1 : decide (1 ≤ ca) = false := decide_eq_false h1
      clear h1 hcd0
      go_enter Try.func47, Try.ntmps47
      go_wp2_with fail
      refine bodyPost_ret (results_two rfl _ _ (w.heap.size + 1) 48 _ (0, 0) _ (.bool false) rfl rfl HPut.out Try.underlying48 rfl (by kernel_rfl)) rfl ?_
      refine ⟨_, _, ?_, HRd.out, HPF.out, fun b hb => .inl hb⟩
      rw [HRow1.out]
set_option maxRecDepth 20000 in
set_option maxHeartbeats 8000000 in
theorem refcrash_calls (E : Dk) {n m : Nat} (hW : Wd n m E) (hm : m ≤ 100000) (hn : n ≤ 100000) (keep torn : Int) (hk0 : 0 ≤ keep) (hk1 : keep ≤ 18446744073709551615) (u v : Value) (w : World) (hR : RD w E u v) :
    Calls Try.prog 24 #[.agg (refRow E u v), .int .u64 keep, .int .i64 torn] w fun e w' => ∃ u' v', e = .returned (.agg (refRow (E.crash keep torn) u' v')) ∧ RD w' (E.crash keep torn) u' v' ∧ Fr (fun _ => False) w w' ∧ Yg w w' u v u' v' := by
  obtain ⟨A1, n1, c1, A2, n2, c2, rfl, rfl⟩ := hR.sl
  have hco : E.crash keep torn = if E.down = true then E else failD E keep torn := rfl
  rw [hco]
  have HFail := Lib.hid (show ∀ w', Fr (fun _ => False) w w' → Calls Try.prog 48 #[.agg (refRow E (.slice A1 n1 c1) (.slice A2 n2 c2)), .int .u64 keep, .int .i64 torn] w' fun e w2 => ∃ u', e = .returned (.agg (refRow (failD E keep torn) u' (.slice none 0 0))) ∧ RD w2 (failD E keep torn) u' (.slice none 0 0) ∧ Fr (fun _ => False) w' w2 ∧ ∀ b, u'.ownBlock = some b → w'.heap.size ≤ b ∧ b < w2.heap.size from fun w' hf => reffail_calls E hW hm hn keep torn hk0 hk1 _ _ w' (hR.frF hf))
  unfold refRow at HFail ⊢
  obtain ⟨ca, hca⟩ : ∃ x, x = E.cutAt := ⟨_, rfl⟩
  obtain ⟨ck, hck⟩ : ∃ x, x = E.keep := ⟨_, rfl⟩
  obtain ⟨ct, hct⟩ : ∃ x, x = E.torn := ⟨_, rfl⟩
  obtain ⟨cc, hcc⟩ : ∃ x, x = E.count := ⟨_, rfl⟩
  obtain ⟨dn, hdn⟩ : ∃ x, x = E.down := ⟨_, rfl⟩
  have HQ := Lib.hid (And.intro hca (And.intro hck (And.intro hct (And.intro hcc hdn))))
  obtain ⟨w0, hw0, hf0, hb0, hz0⟩ := two_rows w #[.slice A1 n1 c1, .slice A2 n2 c2, .int .i64 ca, .int .u64 ck, .int .i64 ct, .int .i64 cc, .bool dn] #[.slice none 0 0, .slice none 0 0, .int .i64 0, .int .u64 0, .int .i64 0, .int .i64 0, .bool false]
  have HF0 := Lib.hid hf0
  have HB0 := Lib.hid hb0
  have HZ0 := Lib.hid hz0
  have HR0 := Lib.hid (hR.frF hf0)
  rw [← hca, ← hck, ← hct, ← hcc, ← hdn] at HFail ⊢
  have k0 : w0.cell? ⟨w.heap.size, 0, none⟩ = some (.slice A1 n1 c1) := (cell_of_row w0 _ 0 _ _ _ hb0).trans rfl
  have k1 : w0.cell? ⟨w.heap.size, 1, none⟩ = some (.slice A2 n2 c2) := (cell_of_row w0 _ 1 _ _ _ hb0).trans rfl
  have k2 : w0.cell? ⟨w.heap.size, 2, none⟩ = some (.int .i64 ca) := (cell_of_row w0 _ 2 _ _ _ hb0).trans rfl
  have k3 : w0.cell? ⟨w.heap.size, 3, none⟩ = some (.int .u64 ck) := (cell_of_row w0 _ 3 _ _ _ hb0).trans rfl
  have k4 : w0.cell? ⟨w.heap.size, 4, none⟩ = some (.int .i64 ct) := (cell_of_row w0 _ 4 _ _ _ hb0).trans rfl
  have k5 : w0.cell? ⟨w.heap.size, 5, none⟩ = some (.int .i64 cc) := (cell_of_row w0 _ 5 _ _ _ hb0).trans rfl
  have k6 : w0.cell? ⟨w.heap.size, 6, none⟩ = some (.bool dn) := (cell_of_row w0 _ 6 _ _ _ hb0).trans rfl
  have z0 : w0.cell? ⟨w.heap.size + 1, 0, none⟩ = some (.slice none 0 0) := (cell_of_row w0 _ 0 _ _ _ hz0).trans rfl
  have y0 : w0.frozen? ⟨w.heap.size + 1, 0, none⟩ = false := frozen_of_row w0 _ _ _ _ hz0
  have z1 : w0.cell? ⟨w.heap.size + 1, 1, none⟩ = some (.slice none 0 0) := (cell_of_row w0 _ 1 _ _ _ hz0).trans rfl
  have y1 : w0.frozen? ⟨w.heap.size + 1, 1, none⟩ = false := frozen_of_row w0 _ _ _ _ hz0
  have z2 : w0.cell? ⟨w.heap.size + 1, 2, none⟩ = some (.int .i64 0) := (cell_of_row w0 _ 2 _ _ _ hz0).trans rfl
  have y2 : w0.frozen? ⟨w.heap.size + 1, 2, none⟩ = false := frozen_of_row w0 _ _ _ _ hz0
  have z3 : w0.cell? ⟨w.heap.size + 1, 3, none⟩ = some (.int .u64 0) := (cell_of_row w0 _ 3 _ _ _ hz0).trans rfl
  have y3 : w0.frozen? ⟨w.heap.size + 1, 3, none⟩ = false := frozen_of_row w0 _ _ _ _ hz0
  have z4 : w0.cell? ⟨w.heap.size + 1, 4, none⟩ = some (.int .i64 0) := (cell_of_row w0 _ 4 _ _ _ hz0).trans rfl
  have y4 : w0.frozen? ⟨w.heap.size + 1, 4, none⟩ = false := frozen_of_row w0 _ _ _ _ hz0
  have z5 : w0.cell? ⟨w.heap.size + 1, 5, none⟩ = some (.int .i64 0) := (cell_of_row w0 _ 5 _ _ _ hz0).trans rfl
  have y5 : w0.frozen? ⟨w.heap.size + 1, 5, none⟩ = false := frozen_of_row w0 _ _ _ _ hz0
  have z6 : w0.cell? ⟨w.heap.size + 1, 6, none⟩ = some (.bool false) := (cell_of_row w0 _ 6 _ _ _ hz0).trans rfl
  have y6 : w0.frozen? ⟨w.heap.size + 1, 6, none⟩ = false := frozen_of_row w0 _ _ _ _ hz0
  have HW0 := hw0.symm
  clear hR hW hco hca hck hct hcc hdn hw0 hf0 hb0 hz0
  cases dn with
  | true =>
    have hput := put7_heap HZ0.out (.slice A1 n1 c1) (.slice A2 n2 c2) (.int .i64 ca) (.int .u64 ck) (.int .i64 ct) (.int .i64 cc) (.bool true)
    have hpf := put7_fr w0 (w.heap.size + 1) (.slice A1 n1 c1) (.slice A2 n2 c2) (.int .i64 ca) (.int .u64 ck) (.int .i64 ct) (.int .i64 cc) (.bool true)
    have HRd := Lib.hid (HR0.out.aside HZ0.out (seven_no _ _ _ _ _ _ _ _ _ _ _) hpf)
    have HPut := Lib.hid hput
    have HPF := Lib.hid (HF0.out.trans hpf (fun i hi => .inr (by omega)))
    unfold put7 at HPF HPut HRd
    clear hput hpf
    go_enter Try.func24, Try.ntmps24
    go_wp2_with fail
    refine bodyPost_ret (results_cell_row rfl _ _ (w.heap.size + 1) 48 _ (0, 0) _ rfl HPut.out Try.underlying48 rfl (by kernel_rfl)) rfl ?_
    refine ⟨_, _, ?_, HRd.out, HPF.out, fun b hb => .inl hb⟩
    rw [← HQ.out.1, ← HQ.out.2.1, ← HQ.out.2.2.1, ← HQ.out.2.2.2.1, ← HQ.out.2.2.2.2]
  | false =>
    rw [if_neg (by decide)]
    go_enter Try.func24, Try.ntmps24
    go_wp2_with fail
    refine (HFail.out w0 HF0.out).mono ?_
    rintro e w2 ⟨u', rfl, hrd, f2, hy⟩
    obtain ⟨A3, c3, rfl⟩ := hrd.u.sl
    generalize (secs (failD E keep torn).n (failD E keep torn).lasts).length = n3 at hrd hy ⊢
    have HY := Lib.hid hy
    clear hy
    obtain ⟨ca', hca'⟩ : ∃ x, x = (failD E keep torn).cutAt := ⟨_, rfl⟩
    obtain ⟨ck', hck'⟩ : ∃ x, x = (failD E keep torn).keep := ⟨_, rfl⟩
    obtain ⟨ct', hct'⟩ : ∃ x, x = (failD E keep torn).torn := ⟨_, rfl⟩
    obtain ⟨cc', hcc'⟩ : ∃ x, x = (failD E keep torn).count := ⟨_, rfl⟩
    obtain ⟨dn', hdn'⟩ : ∃ x, x = (failD E keep torn).down := ⟨_, rfl⟩
    rw [← hca', ← hck', ← hct', ← hcc', ← hdn']
    have hz2 := f2.heap HZ0.out id
    have zz0 : w2.cell? ⟨w.heap.size + 1, 0, none⟩ = some (.slice none 0 0) := (cell_of_row w2 _ 0 _ _ _ hz2).trans rfl
    have yy0 : w2.frozen? ⟨w.heap.size + 1, 0, none⟩ = false := frozen_of_row w2 _ _ _ _ hz2
    have zz1 : w2.cell? ⟨w.heap.size + 1, 1, none⟩ = some (.slice none 0 0) := (cell_of_row w2 _ 1 _ _ _ hz2).trans rfl
    have yy1 : w2.frozen? ⟨w.heap.size + 1, 1, none⟩ = false := frozen_of_row w2 _ _ _ _ hz2
    have zz2 : w2.cell? ⟨w.heap.size + 1, 2, none⟩ = some (.int .i64 0) := (cell_of_row w2 _ 2 _ _ _ hz2).trans rfl
    have yy2 : w2.frozen? ⟨w.heap.size + 1, 2, none⟩ = false := frozen_of_row w2 _ _ _ _ hz2
    have zz3 : w2.cell? ⟨w.heap.size + 1, 3, none⟩ = some (.int .u64 0) := (cell_of_row w2 _ 3 _ _ _ hz2).trans rfl
    have yy3 : w2.frozen? ⟨w.heap.size + 1, 3, none⟩ = false := frozen_of_row w2 _ _ _ _ hz2
    have zz4 : w2.cell? ⟨w.heap.size + 1, 4, none⟩ = some (.int .i64 0) := (cell_of_row w2 _ 4 _ _ _ hz2).trans rfl
    have yy4 : w2.frozen? ⟨w.heap.size + 1, 4, none⟩ = false := frozen_of_row w2 _ _ _ _ hz2
    have zz5 : w2.cell? ⟨w.heap.size + 1, 5, none⟩ = some (.int .i64 0) := (cell_of_row w2 _ 5 _ _ _ hz2).trans rfl
    have yy5 : w2.frozen? ⟨w.heap.size + 1, 5, none⟩ = false := frozen_of_row w2 _ _ _ _ hz2
    have zz6 : w2.cell? ⟨w.heap.size + 1, 6, none⟩ = some (.bool false) := (cell_of_row w2 _ 6 _ _ _ hz2).trans rfl
    have yy6 : w2.frozen? ⟨w.heap.size + 1, 6, none⟩ = false := frozen_of_row w2 _ _ _ _ hz2
    have hput := put7_heap hz2 (.slice A3 n3 c3) (.slice none 0 0) (.int .i64 ca') (.int .u64 ck') (.int .i64 ct') (.int .i64 cc') (.bool dn')
    have hpf := put7_fr w2 (w.heap.size + 1) (.slice A3 n3 c3) (.slice none 0 0) (.int .i64 ca') (.int .u64 ck') (.int .i64 ct') (.int .i64 cc') (.bool dn')
    have HSz := Lib.hid hpf.size
    have HRd := Lib.hid (hrd.aside hz2 (seven_no _ _ _ _ _ _ _ _ _ _ _) hpf)
    have HPF := Lib.hid ((HF0.out.trans f2 (fun i hi => hi.elim)).trans hpf (fun i hi => .inr (by omega)))
    have HPut := Lib.hid hput
    have HQ2 := Lib.hid (And.intro hca' (And.intro hck' (And.intro hct' (And.intro hcc' hdn'))))
    unfold put7 at HPF HPut HRd HSz
    clear hz2 hput hpf hrd f2 hca' hck' hct' hcc' hdn'
    go_wp2_with fail
    refine bodyPost_ret (results_cell_row rfl _ _ (w.heap.size + 1) 48 _ (0, 0) _ rfl HPut.out Try.underlying48 rfl (by kernel_rfl)) rfl ?_
    refine ⟨_, _, ?_, HRd.out, HPF.out, fun b hb => .inr (by rcases hb with hb | hb; have h1 := HY.out b hb; have h2 := HF0.out.size; have h3 := HSz.out; exact ⟨by omega, by omega⟩; cases hb)⟩
    rw [← HQ2.out.1, ← HQ2.out.2.1, ← HQ2.out.2.2.1, ← HQ2.out.2.2.2.1, ← HQ2.out.2.2.2.2]
end Go.Proofs.Ythlngbdbmnnnaaa
