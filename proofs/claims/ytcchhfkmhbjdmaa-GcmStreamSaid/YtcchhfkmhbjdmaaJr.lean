/- Rows of bytes that began as a conversion: append. -/
import Derived.Test.YtcchhfkmhbjdmaaKe
import Derived.Lib.ConvBytes
import Derived.Laws.IdiomCopy
import Derived.Laws.AppendOwn
set_option linter.unusedVariables false
set_option linter.unusedSimpArgs false
namespace Go.Proofs.Ytcchhfkmhbjdmaa
open Go.RowKit
theorem xbytesWorld_fr (w : World) (e : TypeId) (s : ByteArray) : Fr (fun _ => False) w (Lib.bytesWorld w e s) :=
  ⟨by simp [Lib.bytesWorld, World.freeze] <;> rfl, by simp [Lib.bytesWorld, World.freeze] <;> rfl, by simp [Lib.bytesWorld, World.freeze] <;> rfl, by rw [Lib.bytesWorld_size]; omega, fun i hi _ => Lib.bytesWorld_at_old w e s i hi⟩
/-- A row of bytes: xs, and room behind them. -/
def XRow (w : World) (g cap : Nat) (xs : List UInt8) : Prop :=
  ∃ (cur : List Value) (fr : Nat × Nat), w.heap[g]? = some (.cells (bcells xs ++ cur).toArray 5 fr) ∧ cap = xs.length + cur.length ∧ (fr = (0, 0) ∨ cap ≤ fr.1)
theorem XRow.cell {w : World} {g cap : Nat} {xs : List UInt8} (h : XRow w g cap xs) (k : Nat) (x : UInt8) (hx : xs[k]? = some x) : w.cell? ⟨g, k, none⟩ = some (.int .u8 (x.toNat : Int)) := by
  obtain ⟨cur, fr, hg, _, _⟩ := h
  have hk : k < xs.length := (List.getElem?_eq_some_iff.1 hx).1
  rw [cell_of_row w g k _ _ _ hg]
  simp only [List.getElem?_toArray]
  rw [List.getElem?_append_left (by rw [bcells_length]; exact hk)]
  simp [bcells, hx]
theorem XRow.lt {w : World} {g cap : Nat} {xs : List UInt8} (h : XRow w g cap xs) : g < w.heap.size := by
  obtain ⟨cur, fr, hg, _, _⟩ := h
  exact lt_of_heap hg
theorem XRow.fr {F : Nat → Prop} {w w' : World} {g cap : Nat} {xs : List UInt8} (h : XRow w g cap xs) (hf : Fr F w w') (hn : ¬ F g) : XRow w' g cap xs := by
  obtain ⟨cur, fr, hg, h1, h2⟩ := h
  exact ⟨cur, fr, hf.heap hg hn, h1, h2⟩
theorem xrow_conv (w : World) (l : List UInt8) : XRow (Lib.bytesWorld w 5 (str l)) w.heap.size (grownCap w (str l).size 0 5) l := by
  have h := Lib.bytesWorld_at_new w 5 (str l)
  have hle : (str l).size ≤ grownCap w (str l).size 0 5 := grownCap_ge w _ _ _
  have hc : Lib.bytesCells w 5 (str l) = (bcells l ++ List.replicate (grownCap w (str l).size 0 5 - (str l).size) (Value.int .u8 0)).toArray := by
    unfold Lib.bytesCells
    apply Array.ext'
    simp [bcells, str]
  refine ⟨List.replicate (grownCap w (str l).size 0 5 - (str l).size) (Value.int .u8 0), _, h.trans (by rw [← hc]), ?_, .inr ?_⟩
  · rw [List.length_replicate, ← str_size l]; omega
  · rw [hc, List.size_toArray, List.length_append, bcells_length, List.length_replicate, ← str_size l]; omega
theorem xsetCell_row (w : World) (g i : Nat) (cs : Array Value) (t : TypeId) (fr : Nat × Nat) (v : Value) (hg : w.heap[g]? = some (.cells cs t fr)) :
    (w.setCell ⟨g, i, none⟩ v).heap[g]? = some (.cells (cs.setIfInBounds i v) t fr) := by
  rw [setCell_eq_setRow w g i cs t fr v hg]
  show (w.heap.modify g _)[g]? = _
  simp [Array.getElem?_modify, hg]
set_option maxRecDepth 20000 in
theorem xappend_byte (w : World) (g cap : Nat) (xs : List UInt8) (h : XRow w g cap xs) (hx : xs.length ≤ 100000) (B : Nat) (x : UInt8) (ha : w.cell? ⟨B, 0, none⟩ = some (.int .u8 (x.toNat : Int))) (c : Nat) (ty : TypeId) :
    ∃ g' cap' w', (Builtin.append_ #[27, 27] ty #[.slice (some ⟨g, 0, none⟩) xs.length cap, .slice (some ⟨B, 0, none⟩) 1 c]).run Try.prog w = .ok (.slice (some ⟨g', 0, none⟩) (xs.length + 1) cap') w' ∧
      XRow w' g' cap' (xs ++ [x]) ∧ w.grownBy w' (some g) ∧ (g' = g ∨ g' = w.heap.size) := by
  obtain ⟨i0, hi0⟩ : ∃ i0, Try.prog.info? 5 = some i0 := ⟨_, rfl⟩
  have hz0 : (Try.prog.info? 5).map (fun i => (i.zero, i.size, i.bytes)) = some (some (.int .u8 0), 1, 1) := by kernel_rfl
  rw [hi0] at hz0
  simp only [Option.map_some, Option.some.injEq, Prod.mk.injEq] at hz0
  have hnews : ∀ j u, ([.int .u8 (x.toNat : Int)] : List Value)[j]? = some u → w.cell? ((⟨B, 0, none⟩ : Addr).add j) = some u := fun j u hj => by
    have : j = 0 := by
      have := (List.getElem?_eq_some_iff.1 hj).1
      simpa using this
    subst this
    simp at hj
    rw [← hj, Addr.add_mid]; exact ha
  by_cases hroom : xs.length + 1 ≤ cap
  · obtain ⟨cur, fr, hg, h1, h2⟩ := h
    obtain ⟨y, cur', rfl⟩ : ∃ y c, cur = y :: c := by
      cases cur with
      | nil => simp at h1; omega
      | cons y c => exact ⟨y, c, rfl⟩
    have hf := run_firstCells_some (P := Try.prog) w 1 1 ⟨B, 0, none⟩ 1 c [.int .u8 (x.toNat : Int)] rfl hnews
    have hcell : (w.cell? ⟨g, xs.length, none⟩).isSome = true := by
      rw [cell_of_row w g _ _ _ _ hg]
      simp [bcells_length]
    have hfz : w.frozen? ⟨g, xs.length, none⟩ = false := by
      simp only [World.frozen?, hg]
      rcases h2 with h2 | h2
      · rw [h2]; simp
      · simp; omega
    have hst := run_storeCells_cells (P := Try.prog) g xs.length [.int .u8 (x.toNat : Int)] 0 w (fun j hj => by
      have : j = 0 := by simpa using hj
      subst this; simpa using hcell) (fun j hj => by
      have : j = 0 := by simpa using hj
      subst this; simpa using hfz) (by simp [Value.oneCell'])
    refine ⟨g, cap, w.setCell ⟨g, xs.length, none⟩ (.int .u8 (x.toNat : Int)), ?_, ?_, ?_, .inl rfl⟩
    · simp only [Nat.add_zero, World.setCells] at hst
      simp [Builtin.append_, run_underlying Try.underlying27, sizeOf, typeInfo, hi0, hz0, Builtin.lenOf, hroom, hf, Addr.add_lit, hst]
    · refine ⟨cur', fr, ?_, ?_, h2⟩
      · rw [xsetCell_row w g _ _ _ _ _ hg]
        congr 2
        apply Array.ext'
        simp [bcells, List.set_append]
      · simp at h1 ⊢; omega
    · exact ⟨rfl, rfl, rfl, by simp [World.setCell], fun k hk hne => heap_setCell_other w _ k _ (fun e => hne (by rw [e]))⟩
  · have hgr := run_append_grow (P := Try.prog) w 27 ty 5 i0 (.int .u8 0) Try.underlying27 hi0 hz0.1 ⟨g, 0, none⟩ xs.length cap (bcells xs) (by rw [bcells_length, hz0.2.1]; omega) (fun j v hj => by
      rw [Addr.add_mid, Nat.zero_add]
      rw [bcells_get] at hj
      cases hxj : xs[j]? with
      | none => simp [hxj] at hj
      | some b =>
        simp [hxj] at hj
        rw [← hj]; exact h.cell j b hxj) ⟨B, 0, none⟩ 1 c [.int .u8 (x.toNat : Int)] (by simp [hz0.2.1]) hnews (by omega) (by omega) (by
      have := nextslicecap_le (need := xs.length + 1) (old := cap) (by omega)
      rw [hz0.2.2]; omega)
    refine ⟨w.heap.size, _, _, hgr, ?_, ?_, .inr rfl⟩
    · refine ⟨List.replicate (grownCap w (xs.length + 1) cap 5 - (xs.length + 1)) (.int .u8 0), (0, 0), ?_, ?_, .inl rfl⟩
      · have hn := heap_alloc_new w.drew (.cells ((bcells xs).toArray ++ [Value.int .u8 (x.toNat : Int)].toArray ++ Builtin.zeroCells (Value.int .u8 0).cells (grownCap w (xs.length + 1) cap 5 - (xs.length + 1))) 5)
        have hs : w.drew.heap.size = w.heap.size := rfl
        rw [hs] at hn
        rw [hn]
        congr 2
        apply Array.ext'
        simp [bcells, Builtin.zeroCells, Value.cells]
        apply List.ext_getElem (by simp)
        intro i h1 h2
        simp [Nat.mod_one]
      · have := grownCap_ge w (xs.length + 1) cap 5
        simp; omega
    · exact ⟨rfl, rfl, rfl, by simp, fun k hk hne => Below.heap_alloc w.drew _ k hk⟩
section
variable {ops : Array Oper} {rest : List Oper} {op : Oper} {a : Act} {w : World} {Q : Exit → Act → World → Prop}
theorem wpList_xappend (hgd : op.guard = none) (s y : Operand) (ho : op.op = .call { callee := .builtin .append, args := #[s, y], argTypes := #[27, 27] })
    (g cap : Nat) (xs : List UInt8) (h : XRow w g cap xs) (hx : xs.length ≤ 100000) (n : Nat) (hn : n = xs.length) (hs : a.eval s = .slice (some ⟨g, 0, none⟩) n cap) (B c : Nat) (hy : a.eval y = .slice (some ⟨B, 0, none⟩) 1 c)
    (x : UInt8) (ha : w.cell? ⟨B, 0, none⟩ = some (.int .u8 (x.toNat : Int)))
    (hk : ∀ g' cap' w', XRow w' g' cap' (xs ++ [x]) → w.grownBy w' (some g) → (g' = g ∨ g' = w.heap.size) → wpList Try.prog ops Q rest (a.put op.dst (.slice (some ⟨g', 0, none⟩) (n + 1) cap')) w') : wpList Try.prog ops Q (op :: rest) a w := by
  refine wpList_plain hgd fun K hK => ?_
  obtain ⟨g', cap', w', hr, h1, h2, h3⟩ := xappend_byte w g cap xs h hx B x ha c op.type
  subst hn
  unfold Oper.wp execOp
  simp only [ho, resolve, invoke, builtin, Sem.run_bind, Sem.run_pure, Result.andThen_ok, List.map_toArray, List.map_cons, List.map_nil, hs, hy, hr]
  exact hK _ _ (hk g' cap' w' h1 h2 h3)
end
end Go.Proofs.Ytcchhfkmhbjdmaa
