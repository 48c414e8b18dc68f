/- Laws on operations over whole blocks, over any program; frames. -/
import Derived.WalkKit
import Derived.KernelRfl
import Derived.Lib.Hide
import Derived.Deep.QuietTactic
import Derived.BigQuiet
import Derived.Deep.RegionHeld3
import Derived.Deep.MidRow
import Derived.StillTailTactics
import Derived.Lib.BufferWrite
import Derived.Laws.CopyOwn
import Derived.Deep.AppendLies
import Derived.WalkSmall
import Derived.Deep.OwnRows
set_option linter.unusedVariables false
set_option linter.unusedSimpArgs false
namespace Go.Proofs.Ythmpmpepokeedaa
open Go.RowKit

/-- As it was, but for the blocks of F and new ones. -/
structure Fr (F : Nat → Prop) (w w' : World) : Prop where
  os : w'.os = w.os
  tape : w'.tape = w.tape
  output : w'.output = w.output
  size : w.heap.size ≤ w'.heap.size
  block : ∀ k, k < w.heap.size → ¬ F k → w'.heap[k]? = w.heap[k]?
theorem Fr.refl (F : Nat → Prop) (w : World) : Fr F w w := ⟨rfl, rfl, rfl, Nat.le_refl _, fun _ _ _ => rfl⟩
theorem Fr.trans {F G : Nat → Prop} {a b c : World} (h : Fr F a b) (k : Fr G b c) (hG : ∀ i, G i → F i ∨ a.heap.size ≤ i) : Fr F a c :=
  ⟨k.os.trans h.os, k.tape.trans h.tape, k.output.trans h.output, Nat.le_trans h.size k.size, fun i hi hF =>
    (k.block i (Nat.lt_of_lt_of_le hi h.size) (fun hg => (hG i hg).elim hF (fun hge => by omega))).trans (h.block i hi hF)⟩
theorem Fr.mono {F G : Nat → Prop} {a b : World} (h : Fr F a b) (hF : ∀ i, F i → G i ∨ a.heap.size ≤ i) : Fr G a b :=
  ⟨h.os, h.tape, h.output, h.size, fun i hi hg => h.block i hi (fun hf => (hF i hf).elim hg (fun hge => by omega))⟩
theorem Fr.drew {F : Nat → Prop} {a b : World} (h : Fr F a b) : Fr F a b.drew := ⟨h.os, h.tape, h.output, h.size, h.block⟩
theorem Fr.drewN {F : Nat → Prop} {a b : World} (h : Fr F a b) (n : Nat) : Fr F a (b.drewN n) := ⟨h.os, h.tape, h.output, h.size, h.block⟩
theorem Fr.alloc {F : Nat → Prop} {a b : World} (h : Fr F a b) (o : Obj) : Fr F a (b.alloc o) :=
  ⟨h.os, h.tape, h.output, by have := h.size; simp; omega, fun i hi hF => (Below.heap_alloc b o i (by have := h.size; omega)).trans (h.block i hi hF)⟩
theorem Fr.setCell {F : Nat → Prop} {a b : World} (h : Fr F a b) (p : Addr) (v : Value) (hp : F p.block ∨ a.heap.size ≤ p.block) : Fr F a (b.setCell p v) :=
  ⟨h.os, h.tape, h.output, by have := h.size; simp [World.setCell]; omega, fun i hi hF => (Below.heap_setCell b p v i (fun e => by subst e; rcases hp with hp | hp; exact hF hp; omega)).trans (h.block i hi hF)⟩
theorem Fr.setRow {F : Nat → Prop} {a b : World} (h : Fr F a b) (g : Nat) (cs : Array Value) (hp : F g ∨ a.heap.size ≤ g) : Fr F a (b.setRow g cs) :=
  ⟨h.os, h.tape, h.output, by have := h.size; simp; omega, fun i hi hF => (setRow_other b g i cs (fun e => by subst e; rcases hp with hp | hp; exact hF hp; omega)).trans (h.block i hi hF)⟩
theorem Fr.grown {F : Nat → Prop} {a b c : World} (h : Fr F a b) {row : Option Nat} (hg : b.grownBy c row) (hr : ∀ k, row = some k → F k ∨ a.heap.size ≤ k) : Fr F a c :=
  ⟨hg.os.trans h.os, hg.tape.trans h.tape, hg.output.trans h.output, Nat.le_trans h.size hg.size, fun i hi hF => (hg.block i (by have := h.size; omega) (fun e => by
    rcases hr i e.symm with hk | hk
    · exact hF hk
    · omega)).trans (h.block i hi hF)⟩
theorem Fr.below {F : Nat → Prop} {a b : World} (h : Fr F a b) {B : Nat} (hB : B ≤ a.heap.size) (hF : ∀ i, i < B → ¬ F i) : Below B a b :=
  ⟨h.os, h.tape, h.output, h.size, fun i hi => h.block i (by omega) (hF i hi)⟩
theorem Fr.of_below {F : Nat → Prop} {a b : World} (h : Below a.heap.size a b) : Fr F a b := ⟨h.os, h.tape, h.output, h.size, fun i hi _ => h.block i hi⟩
theorem Fr.heap {F : Nat → Prop} {a b : World} (h : Fr F a b) {g : Nat} {o : Obj} (hg : a.heap[g]? = some o) (hF : ¬ F g) : b.heap[g]? = some o :=
  (h.block g (Array.getElem?_eq_some_iff.1 hg).1 hF).trans hg
theorem Fr.own {F : Nat → Prop} {a b : World} (h : Fr F a b) {base : Nat} {e : TypeId} {size n : Nat} {v : Value} {xs : List Value} (ho : a.ownsRow base e size v n xs) (hF : ∀ k, v.ownBlock = some k → ¬ F k) : b.ownsRow base e size v n xs := by
  refine ⟨ho.1, ?_⟩
  rcases ho.2 with hn | ⟨g, cap, cur, rfl, hb, hg, rest⟩
  · exact .inl hn
  · exact .inr ⟨g, cap, cur, rfl, hb, h.heap hg (hF g rfl), rest⟩
theorem Fr.cell {F : Nat → Prop} {a b : World} (h : Fr F a b) {p : Addr} {v : Value} (hc : a.cell? p = some v) (hF : ¬ F p.block) : b.cell? p = some v :=
  (World.cell?_of_block (h.block p.block (World.block_lt_of_cell? a p hc) hF)).trans hc
theorem lt_of_heap {w : World} {g : Nat} {o : Obj} (h : w.heap[g]? = some o) : g < w.heap.size := (Array.getElem?_eq_some_iff.1 h).1

/-! ### whole blocks -/
section
variable {P : Program} {ops : Array Oper} {rest : List Oper} {op : Oper} {a : Act} {w : World} {Q : Exit → Act → World → Prop}

theorem push_modify {α : Type} (A : Array α) (o : α) (f : α → α) : (A.push o).modify A.size f = A.push (f o) := by
  apply Array.ext
  · simp
  · intro k h1 h2
    simp only [Array.getElem_modify, Array.getElem_push]
    simp at h2
    by_cases hk : k = A.size
    · subst hk; simp
    · have : k < A.size := by omega
      simp [this, Ne.symm hk]
theorem alloc_setRow (w : World) (Z cs : Array Value) (t : TypeId) : (w.alloc (.cells Z t)).setRow w.heap.size cs = w.alloc (.cells cs t) := by
  show ({ w with heap := (w.heap.push (.cells Z t)).modify w.heap.size _ } : World) = { w with heap := w.heap.push (.cells cs t) }
  rw [push_modify]

theorem run_storeVar_whole (g : Nat) (ty t : TypeId) (Z cs : Array Value) (hg : w.heap[g]? = some (.cells Z t (0, 0))) (hZ : Z.size = cs.size) (hi : (P.info? ty).map (·.size) = some cs.size) (h1 : ∀ v ∈ cs.toList, v.oneCell' = true) :
    (storeVar ty ⟨g, 0, none⟩ (.agg cs)).run P w = .ok () (w.setRow g cs) := by
  have := run_storeCells_at P g 0 t cs.toList 0 Z w hg (by simp [hZ]) h1
  cases hq : P.info? ty with
  | none => simp [hq] at hi
  | some i =>
    have hs : cs.size = i.size := by simp [hq] at hi; omega
    have hd : Z.toList.drop cs.size = [] := by apply List.drop_eq_nil_of_le; simp [hZ]
    simp only [Nat.zero_add, Nat.add_zero, List.take_zero, List.nil_append, Array.length_toList, hd, List.append_nil, Array.toArray_toList] at this
    simp [storeVar, sizeOf, typeInfo, hq, Value.cells, hs, this]

theorem wpList_store_whole (hgd : op.guard = none) (ty : TypeId) (x y : Operand) (ho : op.op = .store ty x y) (g : Nat) (t : TypeId) (Z cs : Array Value)
    (hx : a.eval x = .pointer (some ⟨g, 0, none⟩)) (hy : a.eval y = .agg cs) (hg : w.heap[g]? = some (.cells Z t (0, 0))) (hZ : Z.size = cs.size) (hi : (P.info? ty).map (·.size) = some cs.size) (h1 : ∀ v ∈ cs.toList, v.oneCell' = true)
    (h : wpList P ops Q rest (a.put op.dst undef) (w.setRow g cs)) : wpList P ops Q (op :: rest) a w := by
  refine wpList_plain hgd fun K hK => ?_
  unfold Oper.wp execOp
  simp only [ho, hx, hy, Instr.storeAt, Instr.sureAddr, Sem.run_bind, Sem.run_pure, Result.andThen_ok, run_storeVar_whole g ty t Z cs hg hZ hi h1]
  exact hK _ _ h

theorem wpList_store_fresh (hgd : op.guard = none) (ty : TypeId) (x y : Operand) (ho : op.op = .store ty x y) (w0 : World) (Z cs : Array Value) (hw : w = w0.alloc (.cells Z ty))
    (hx : a.eval x = .pointer (some ⟨w0.heap.size, 0, none⟩)) (hy : a.eval y = .agg cs) (hZ : Z.size = cs.size) (hi : (P.info? ty).map (·.size) = some cs.size) (h1 : ∀ v ∈ cs.toList, v.oneCell' = true)
    (h : wpList P ops Q rest (a.put op.dst undef) (w0.alloc (.cells cs ty))) : wpList P ops Q (op :: rest) a w := by
  subst hw
  refine wpList_store_whole hgd ty x y ho w0.heap.size ty Z cs hx hy (heap_alloc_new w0 _) hZ hi h1 ?_
  rw [alloc_setRow]
  exact h
end

/-! ### bytes -/
def bcells (l : List UInt8) : List Value := l.map fun b => .int .u8 (b.toNat : Int)
theorem bcells_length (l : List UInt8) : (bcells l).length = l.length := by simp [bcells]
theorem bcells_one (l : List UInt8) : ∀ v ∈ bcells l, v.oneCell' = true := by
  intro v hv
  simp only [bcells, List.mem_map] at hv
  obtain ⟨b, _, rfl⟩ := hv
  rfl
theorem bcells_append (l m : List UInt8) : bcells (l ++ m) = bcells l ++ bcells m := by simp [bcells]
theorem bcells_take (l : List UInt8) (n : Nat) : bcells (l.take n) = (bcells l).take n := by simp [bcells]
theorem bcells_drop (l : List UInt8) (n : Nat) : bcells (l.drop n) = (bcells l).drop n := by simp [bcells]
theorem bcells_get (l : List UInt8) (i : Nat) : (bcells l)[i]? = (l[i]?).map fun b => .int .u8 (b.toNat : Int) := by simp [bcells]
theorem splice_cells (L : List UInt8) (o : Nat) (cs : List UInt8) : (bcells L).toArray.toList.take o ++ (bcells cs ++ (bcells L).toArray.toList.drop (o + (bcells cs).length)) = bcells (splice L o cs) := by simp [bcells, splice]
theorem flat_take {α : Type} (f : α → List Value) (n : Nat) : ∀ (l : List α), (∀ x ∈ l, (f x).length = n) → ∀ (k : Nat) (x : α), l[k]? = some x → ∀ j v, (f x)[j]? = some v → (l.flatMap f)[k * n + j]? = some v
  | [], _, k, x, hk, _, _, _ => by simp at hk
  | y :: l, h, 0, x, hk, j, v, hj => by
    simp at hk; subst hk
    have hl : j < (f y).length := (List.getElem?_eq_some_iff.1 hj).1
    rw [List.flatMap_cons, Nat.zero_mul, Nat.zero_add, List.getElem?_append_left hl]; exact hj
  | y :: l, h, k + 1, x, hk, j, v, hj => by
    have hy := h y (by simp)
    rw [List.flatMap_cons, List.getElem?_append_right (by rw [hy, Nat.succ_mul]; omega), hy, show (k + 1) * n + j - n = k * n + j by rw [Nat.succ_mul]; omega]
    exact flat_take f n l (fun z hz => h z (by simp [hz])) k x (by simpa using hk) j v hj
theorem flat_length {α : Type} (f : α → List Value) (n : Nat) : ∀ (l : List α), (∀ x ∈ l, (f x).length = n) → (l.flatMap f).length = l.length * n
  | [], _ => by simp
  | y :: l, h => by rw [List.flatMap_cons, List.length_append, flat_length f n l (fun z hz => h z (by simp [hz])), h y (by simp), List.length_cons, Nat.succ_mul]; omega
/-- A string of bytes. -/
def str (l : List UInt8) : ByteArray := ⟨l.toArray⟩
theorem str_size (l : List UInt8) : (str l).size = l.length := by simp [str, ByteArray.size]
theorem str_list (l : List UInt8) : (str l).data.toList = l := by simp [str]
theorem str_toList (l : List UInt8) : (str l).toList = l := by rw [ByteArray.toList_eq]; exact str_list l
theorem bcells_byteCells (l : List UInt8) : Lib.byteCells l = bcells l := rfl
section
variable {P : Program} {ops : Array Oper} {rest : List Oper} {op : Oper} {a : Act} {w : World} {Q : Exit → Act → World → Prop}
/-- 'copy(row[o:], s)': a string's bytes into a block that was made last. -/
theorem wpList_copy_str_fresh (hgd : op.guard = none) (d s : Operand) (dT sT : TypeId)
    (ho : op.op = .call { callee := .builtin .copy, args := #[d, s], argTypes := #[dT, sT] }) (elem : TypeId) (hu : P.underlying dT = some (.slice elem)) (hsz : (P.info? elem).map (·.size) = some 1)
    (w0 : World) (Z Z' : Array Value) (t : TypeId) (hw : w = w0.alloc (.cells Z t)) (off dLen dCap : Nat) (st : ByteArray) (hd : a.eval d = .slice (some ⟨w0.heap.size, off, none⟩) dLen dCap) (hs : a.eval s = .string st)
    (hle : st.size ≤ dLen) (hfit : off + st.size ≤ Z.size) (hZ : (Z.toList.take off ++ bcells st.data.toList ++ Z.toList.drop (off + st.size)).toArray = Z')
    (h : wpList P ops Q rest (a.put op.dst (goInt st.size)) (w0.alloc (.cells Z' t))) : wpList P ops Q (op :: rest) a w := by
  subst hw
  refine wpList_plain hgd fun K hK => ?_
  have hrun := Lib.run_copy_row_string (P := P) (w0.alloc (.cells Z t)) dT sT op.type elem w0.heap.size off dLen dCap st Z t hu hsz (heap_alloc_new w0 _) hle hfit
  rw [alloc_setRow, bcells_byteCells, hZ] at hrun
  unfold Oper.wp
  simp [execOp, ho, resolve, invoke, builtin, hd, hs, hrun, Result.andThen]
  exact hK _ _ h
end
/-! ### building -/
theorem fold_fill (off : Nat) : ∀ (l : List Value) (k : Nat) (Z : Array Value), off + k + l.length ≤ Z.size →
    (l.zipIdx k).foldl (fun A p => A.setIfInBounds (off + p.2) p.1) Z = (Z.toList.take (off + k) ++ l ++ Z.toList.drop (off + k + l.length)).toArray
  | [], k, Z, _ => by simp
  | v :: l, k, Z, h => by
    have hl : off + k + (l.length + 1) ≤ Z.size := by simpa using h
    rw [List.zipIdx_cons, List.foldl_cons, fold_fill off l (k + 1) (Z.setIfInBounds (off + k) v) (by simp; omega)]
    have e := list_seg_step Z.toList (off + k) v l (by simpa using hl)
    rw [Array.toList_setIfInBounds, show off + (k + 1) = off + k + 1 by omega, e, List.length_cons]
theorem zipIdx_arr (cs : Array Value) (f : Array Value → Value × Nat → Array Value) (Z : Array Value) : cs.zipIdx.foldl f Z = (cs.toList.zipIdx 0).foldl f Z := by
  rw [← Array.foldl_toList]; simp
theorem fill_one (place : Nat → Option (Nat × Nat)) (i off : Nat) (cs Z : Array Value) (rest : List (Nat × Value)) (hp : place i = some (off, cs.size)) (hz : off + cs.size ≤ Z.size) :
    Instr.fill place Z ((i, .agg cs) :: rest) = Instr.fill place (Z.toList.take off ++ cs.toList ++ Z.toList.drop (off + cs.size)).toArray rest := by
  have h1 := fold_fill off cs.toList 0 Z (by simpa using hz)
  simp only [Nat.add_zero, Array.length_toList] at h1
  have hz' : ¬ Z.size < off + cs.size := by omega
  simp only [Instr.fill, hp, Value.cells, ne_eq, not_true_eq_false, decide_false, Bool.false_or, gt_iff_lt, hz', Bool.false_eq_true, if_false, zipIdx_arr, h1]
theorem run_buildSlice_one {P : Program} (w : World) (t e : TypeId) (cs Z : Array Value) (hu : P.underlying t = some (.slice e)) (hi : (P.info? e).map (fun i => (i.size, i.zero)) = some (cs.size, some (.agg Z))) (h0 : 0 < cs.size) (h1 : cs.size ≤ 10000) :
    (Instr.buildSlice t 1 #[(0, .agg cs)]).run P w = .ok (.slice (some ⟨w.heap.size, 0, none⟩) 1 1) (w.alloc (.cells cs e)) := by
  cases hq : P.info? e with
  | none => simp [hq] at hi
  | some i =>
    simp only [hq, Option.map_some, Option.some.injEq, Prod.mk.injEq] at hi
    obtain ⟨hs, hz⟩ := hi
    have h2 : ¬ (1 * cs.size > 2 ^ 24) := by omega
    have h3 : ¬ (1 * cs.size = 0) := by omega
    have hf := fill_one (fun i => some (i * cs.size, cs.size)) 0 0 cs ((Array.range (1 * cs.size)).map (Z[· % Z.size]!)) [] (by simp) (by simp)
    have hd : ((Array.range (1 * cs.size)).map (Z[· % Z.size]!)).toList.drop (0 + cs.size) = [] := by apply List.drop_eq_nil_of_le; simp
    rw [hd] at hf
    simp only [List.take_zero, List.nil_append, List.append_nil, Array.toArray_toList] at hf
    have hf0 := hf.trans (show Instr.fill _ cs [] = some cs from rfl)
    rw [← hs] at h2 h3 hf0
    simp only [Nat.one_mul] at h2 h3 hf0
    have h4 : ¬ 16777216 < i.size := by omega
    simp [Instr.buildSlice, run_underlying hu, sizeOf, typeInfo, zeroValue, hq, hz, Value.cells]
    rw [if_neg h4, if_neg h3, hf0]
    simp [newRow, newObj]
    rfl
theorem wp_buildSlice_one {P : Program} {op : Oper} {a : Act} {w : World} {K : Act → World → Prop} {Q : Exit → Act → World → Prop} (t : TypeId) (x : Operand) (ho : op.op = .buildSlice t 1 #[(0, x)]) (e : TypeId) (cs Z : Array Value)
    (hx : a.eval x = .agg cs) (hu : P.underlying t = some (.slice e)) (hi : (P.info? e).map (fun i => (i.size, i.zero)) = some (cs.size, some (.agg Z))) (h0 : 0 < cs.size) (h1 : cs.size ≤ 10000)
    (h : K (a.put op.dst (.slice (some ⟨w.heap.size, 0, none⟩) 1 1)) (w.alloc (.cells cs e))) : op.wp P a w K Q := by
  unfold Oper.wp execOp
  simp only [ho, hx, List.map_toArray, List.map_cons, List.map_nil, Sem.run_bind, Sem.run_pure, Result.andThen_ok, run_buildSlice_one w t e cs Z hu hi h0 h1]
  exact h
/-! ### bytes as a string -/
theorem strOf_bytes (l : List UInt8) : strOfNums (l.map fun b => (b.toNat : Int)) = str l := by
  have h : ((fun n : Int => UInt8.ofNat n.toNat) ∘ fun b : UInt8 => (b.toNat : Int)) = id := by funext b; simp
  simp [strOfNums, str, h]
theorem run_convert_str {P : Program} (w : World) (src e : TypeId) (hs : P.underlying src = some (.slice e)) (he : P.underlying e = some (.int .u8)) (b off len cap : Nat) (l : List UInt8) (hl : l.length = len) (hc : w.rangeAt b off (bcells l)) (dst : TypeId) (hd : P.underlying dst = some .string) :
    (convert src dst (.slice (some ⟨b, off, none⟩) len cap)).run P w = .ok (.string (str l)) w := by
  rw [← strOf_bytes]
  refine run_convert_bytes_arg w src e hs he b off len cap _ (by simpa using hl) (fun i hi => ?_) dst hd
  refine hc i _ ?_
  have : i < l.length := by omega
  simp [bcells_get, this]
theorem rangeAt_block {w : World} {b : Nat} {cs : List Value} {t : TypeId} {fr : Nat × Nat} (h : w.heap[b]? = some (.cells cs.toArray t fr)) (off n : Nat) : w.rangeAt b off ((cs.drop off).take n) := fun j v hj => by
  rw [cell_of_row w b _ _ _ _ h]
  rw [List.getElem?_take] at hj
  split at hj
  · simpa [List.getElem?_drop] using hj
  · cases hj
theorem rangeAt_mid {w : World} {b o : Nat} {xs : List Value} (h : w.rangeAt b o xs) (ys : List Value) (k : Nat) (hy : ∀ j v, ys[j]? = some v → xs[k + j]? = some v) : w.rangeAt b (o + k) ys := fun j v hj => by
  have := h (k + j) v (hy j v hj)
  rwa [← Nat.add_assoc] at this
end Go.Proofs.Ythmpmpepokeedaa
