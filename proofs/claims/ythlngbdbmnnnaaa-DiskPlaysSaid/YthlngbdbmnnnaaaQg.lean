/- Rows that are appended to: laws over any element. -/
import Derived.Test.YthlngbdbmnnnaaaQb
import Derived.OwnWalk
import Derived.Laws.AppendOwn
set_option linter.unusedVariables false
set_option linter.unusedSimpArgs false
set_option pp.deepTerms true
set_option pp.maxSteps 100000
namespace Go.Proofs.Ythlngbdbmnnnaaa
open Go.RowKit
/-- What is known of a type of elements: its cells, its nought. -/
structure RowT {α : Type} (t e : TypeId) (k nb : Nat) (z : Value) (f : α → List Value) : Prop where
  u : Try.prog.underlying t = some (.slice e)
  i : (Try.prog.info? e).map (fun i => (i.zero, i.size, i.bytes)) = some (some z, k, nb)
  cz : z.cells.size = k
  pk : 0 < k
  nb : nb ≤ 64
  len : ∀ x, (f x).length = k
  one : ∀ x, ∀ v ∈ f x, v.oneCell' = true
/-- A value that reads as a row. -/
def RdV {α : Type} (w : World) (k : Nat) (f : α → List Value) (v : Value) (l : List α) : Prop := ∃ A cap, v = .slice A l.length cap ∧ SlR w A k f l ∧ l.length ≤ cap ∧ cap ≤ 9223372036854775807
section
variable {α : Type} {t e : TypeId} {k nb : Nat} {z : Value} {f : α → List Value}
theorem RdV.fr {w w' : World} {v : Value} {l : List α} {F : Nat → Prop} (h : RdV w k f v l) (hf : Fr F w w') (hF : ∀ b, v.ownBlock = some b → ¬ F b) : RdV w' k f v l := by
  obtain ⟨A, cap, rfl, hs, h1, h2⟩ := h
  exact ⟨A, cap, rfl, hs.fr hf (fun b off e => hF b (by rw [e]; rfl)), h1, h2⟩
theorem RdV.frF {w w' : World} {v : Value} {l : List α} (h : RdV w k f v l) (hf : Fr (fun _ => False) w w') : RdV w' k f v l := h.fr hf (fun _ _ => id)
theorem flat_rows (hl : ∀ x, (f x).length = k) (l : List α) : (l.flatMap f).length = l.length * k := by
  induction l with
  | nil => simp
  | cons x r ih => rw [List.flatMap_cons, List.length_append, ih, hl, List.length_cons, Nat.succ_mul, Nat.add_comm]
theorem flat_at (hl : ∀ x, (f x).length = k) : ∀ (l : List α) (i : Nat) (x : α), l[i]? = some x → ∀ j u, (f x)[j]? = some u → (l.flatMap f)[i * k + j]? = some u
  | [], _, _, h, _, _, _ => by simp at h
  | y :: r, 0, x, h, j, u, hj => by
    obtain rfl : y = x := by simpa using h
    rw [List.flatMap_cons, Nat.zero_mul, Nat.zero_add, List.getElem?_append_left (List.getElem?_eq_some_iff.1 hj).1]
    exact hj
  | y :: r, i + 1, x, h, j, u, hj => by
    have := flat_at hl r i x (by simpa using h) j u hj
    rw [List.flatMap_cons, List.getElem?_append_right (by rw [hl, Nat.succ_mul]; omega), hl, show (i + 1) * k + j - k = i * k + j by rw [Nat.succ_mul]; omega]
    exact this
theorem SlR.range {w : World} {b off : Nat} (hl : ∀ x, (f x).length = k) (hk : 0 < k) : ∀ {l : List α}, SlR w (some ⟨b, off, none⟩) k f l → w.rangeAt b off (l.flatMap f) := fun {l} h j v hj => by
  have hjl : j < l.length * k := by rw [← flat_rows hl]; exact (List.getElem?_eq_some_iff.1 hj).1
  have hq : j / k < l.length := (Nat.div_lt_iff_lt_mul hk).2 hjl
  obtain ⟨x, hx⟩ : ∃ x, l[j / k]? = some x := ⟨_, List.getElem?_eq_getElem hq⟩
  have hm : j % k < (f x).length := by rw [hl]; exact Nat.mod_lt _ hk
  obtain ⟨u, hu⟩ : ∃ u, (f x)[j % k]? = some u := ⟨_, List.getElem?_eq_getElem hm⟩
  have h1 := flat_at hl l (j / k) x hx (j % k) u hu
  have hjj : j / k * k + j % k = j := by rw [Nat.mul_comm]; exact Nat.div_add_mod j k
  rw [hjj, hj] at h1
  obtain rfl : v = u := by simpa using h1
  obtain ⟨b', off', e, hr⟩ := h _ x hx
  cases e
  have := hr _ _ hu
  rwa [Nat.add_assoc, hjj] at this
theorem rows_build0 (hR : RowT t e k nb z f) (w : World) : (Instr.buildSlice t 0 #[]).run Try.prog w = .ok (.slice (some ⟨w.heap.size, 0, none⟩) 0 0) (w.alloc (.cells #[] e)) := by
  obtain ⟨i0, hi, hz0, hz1, hz2⟩ := info_parts hR.i
  simp [Instr.buildSlice, run_underlying hR.u, sizeOf, typeInfo, hi, hz1, Instr.fill, newRow]
  rw [show Array.range 0 = #[] by decide +kernel, Array.map_empty]
theorem rows_own0 (w : World) (B : Nat) (hB : B ≤ w.heap.size) : (w.alloc (.cells #[] e)).ownsRow B e k (.slice (some ⟨w.heap.size, 0, none⟩) 0 0) 0 [] :=
  ⟨by simp, .inr ⟨w.heap.size, 0, #[], rfl, hB, heap_alloc_new w _, Nat.le_refl _, Nat.zero_le _, by simp, by simp⟩⟩
/-- A whole row behind an owned one. -/
theorem rows_append (hR : RowT t e k nb z f) (B : Nat) (v : Value) (n : Nat) (xs : List Value) (y : Value) (l : List α) (ty : TypeId) (w : World) (hown : w.ownsRow B e k v n xs) (hl : RdV w k f y l) (hB : B ≤ w.heap.size) (hn : n + l.length ≤ 1000000) :
    ∃ v' w', (Builtin.append_ #[t, t] ty #[v, y]).run Try.prog w = .ok v' w' ∧ w'.ownsRow B e k v' (n + l.length) (xs ++ l.flatMap f) ∧ w.grownBy w' v.ownBlock := by
  obtain ⟨i0, hi, hz0, hz1, hz2⟩ := info_parts hR.i
  obtain ⟨A, cap, rfl, hs, hlc, hcap⟩ := hl
  cases l with
  | nil =>
    refine ⟨v, w, ?_, by simpa using hown, ⟨rfl, rfl, rfl, Nat.le_refl _, fun _ _ _ => rfl⟩⟩
    have hk := hR.pk
    rcases hown.2 with ⟨rfl, rfl⟩ | ⟨g, cap', cur, rfl, hg, hgg, hnc, hrest⟩
    · cases A <;> simp [Builtin.append_, run_underlying hR.u, sizeOf, typeInfo, hi, Builtin.lenOf, Builtin.firstCells, loadCells, loadCellsFrom]
    · cases A <;> simp [Builtin.append_, run_underlying hR.u, sizeOf, typeInfo, hi, Builtin.lenOf, Builtin.firstCells, hnc, loadCells, loadCellsFrom, storeCells]
  | cons x r =>
    obtain ⟨b, off, rfl, _⟩ := hs 0 x rfl
    have hra := SlR.range hR.len hR.pk hs
    obtain ⟨v', w', hr, h1, h2, _⟩ := run_append_own (P := Try.prog) (w := w) B t ty e i0 _ k nb hR.u hi hz0 hz1 hz2 hR.cz hR.pk v n xs hown ⟨b, off, none⟩ (x :: r).length cap ((x :: r).flatMap f)
      (flat_rows hR.len _) (fun j u hj => by rw [Addr.add_mid]; exact hra j u hj) (fun u hu => by
        obtain ⟨p, _, hp⟩ := List.mem_flatMap.1 hu
        exact hR.one p u hp) (by unfold maxLen; omega) (Nat.le_trans (Nat.mul_le_mul hn hR.nb) (by decide)) hB
    exact ⟨v', w', hr, h1, h2⟩
/-- An owned row reads as its elements. -/
theorem RdV.of_own (hR : RowT t e k nb z f) {B : Nat} {w : World} {v : Value} {l : List α} (h : w.ownsRow B e k v l.length (l.flatMap f)) : RdV w k f v l := by
  rcases h.2 with ⟨rfl, h0⟩ | ⟨g, cap, cur, rfl, hb, hg, hnc, hcm, hcs, ht⟩
  · obtain rfl : l = [] := List.eq_nil_of_length_eq_zero h0
    exact ⟨none, 0, rfl, fun i x hx => by simp at hx, Nat.le_refl _, Nat.zero_le _⟩
  · refine ⟨_, cap, rfl, fun i x hx => ⟨g, 0, rfl, fun j u hj => ?_⟩, hnc, hcm⟩
    rw [Nat.zero_add, cell_of_row w g _ _ _ _ hg]
    have h1 := flat_at hR.len l i x hx j u hj
    rw [← ht, List.getElem?_take] at h1
    split at h1
    · rw [← h1]; simp
    · cases h1
end
theorem wp_append_run {op : Oper} {a : Act} {w : World} {K : Act → World → Prop} {Q : Exit → Act → World → Prop} {t : TypeId} (s y : Operand) (ho : op.op = .call { callee := .builtin .append, args := #[s, y], argTypes := #[t, t] })
    (v' : Value) (w' : World) (hr : (Builtin.append_ #[t, t] op.type #[a.eval s, a.eval y]).run Try.prog w = .ok v' w') (h : K (a.put op.dst v') w') : op.wp Try.prog a w K Q := by
  unfold Oper.wp execOp
  simp only [ho, resolve, invoke, builtin, Sem.run_bind, Sem.run_pure, Result.andThen_ok, List.map_toArray, List.map_cons, List.map_nil, hr]
  exact h
theorem wpList_append_run {ops : Array Oper} {rest : List Oper} {op : Oper} {a : Act} {w : World} {Q : Exit → Act → World → Prop} {t : TypeId} (hgd : op.guard = none) (s y : Operand) (ho : op.op = .call { callee := .builtin .append, args := #[s, y], argTypes := #[t, t] })
    (v' : Value) (w' : World) (hr : (Builtin.append_ #[t, t] op.type #[a.eval s, a.eval y]).run Try.prog w = .ok v' w') (h : wpList Try.prog ops Q rest (a.put op.dst v') w') : wpList Try.prog ops Q (op :: rest) a w :=
  wpList_plain hgd fun _ hK => wp_append_run s y ho v' w' hr (hK _ _ h)
theorem wp_build0 {op : Oper} {a : Act} {w : World} {K : Act → World → Prop} {Q : Exit → Act → World → Prop} {t : TypeId} (ho : op.op = .buildSlice t 0 #[]) (v' : Value) (w' : World)
    (hr : (Instr.buildSlice t 0 #[]).run Try.prog w = .ok v' w') (h : K (a.put op.dst v') w') : op.wp Try.prog a w K Q := by
  unfold Oper.wp execOp
  simp only [ho, List.map_toArray, List.map_nil, Sem.run_bind, hr, Result.andThen_ok]
  exact h
theorem wpList_build0 {ops : Array Oper} {rest : List Oper} {op : Oper} {a : Act} {w : World} {Q : Exit → Act → World → Prop} {t : TypeId} (hgd : op.guard = none) (ho : op.op = .buildSlice t 0 #[]) (v' : Value) (w' : World)
    (hr : (Instr.buildSlice t 0 #[]).run Try.prog w = .ok v' w') (h : wpList Try.prog ops Q rest (a.put op.dst v') w') : wpList Try.prog ops Q (op :: rest) a w :=
  wpList_plain hgd fun _ hK => wp_build0 ho v' w' hr (hK _ _ h)
/-- Rows of texts. -/
def strC (s : ByteArray) : List Value := [.string s]
theorem rowS : RowT 37 9 1 16 (.string ⟨#[]⟩) strC := ⟨Try.underlying37, by kernel_rfl, rfl, by decide, by decide, fun _ => rfl, fun x v hv => by
  obtain rfl : v = .string x := by simpa [strC] using hv
  rfl⟩
/-- Rows of writes. -/
def wrC (x : Wr) : List Value := [.int .i64 x.place, .string (str x.data)]
theorem rowW : RowT 46 94 2 24 (.agg #[.int .i64 0, .string ⟨#[]⟩]) wrC := ⟨Try.underlying46, by kernel_rfl, rfl, by decide, by decide, fun _ => rfl, fun x v hv => by
  rcases (by simpa [wrC] using hv : v = .int .i64 x.place ∨ v = .string (str x.data)) with rfl | rfl <;> rfl⟩
end Go.Proofs.Ythlngbdbmnnnaaa
