/- Laws on worlds; the field of bytes; the cipher's words and rounds. -/
import Derived.WalkKit
import Derived.KernelRfl
import Derived.Lib.Hide
import Derived.Deep.QuietTactic
import Derived.BigQuiet
import Derived.Deep.RegionHeld3
import Derived.Deep.MidRow
import Derived.StillTailTactics
import Derived.Lib.BufferWrite
import Derived.Laws.CopyOwn
import Derived.Deep.AppendLies
import Derived.WalkSmall
import Derived.Deep.OwnRows
import Derived.ProofKit
import Derived.OpenShut
import Derived.ShutString
import Derived.ChangeOld
import Derived.SizedLaws
import Derived.Deep.Slices
import Derived.Deep.Strs
import Derived.Test.YtcchhfkmhbjdmaaGreatProg
import Derived.ChangeMaps5
import GoSem.Core.Lib
/-! L0 -/
set_option linter.unusedVariables false
set_option linter.unusedSimpArgs false
namespace Go.Proofs.YtcchhfkmhbjdmaaGreat
open Go.RowKit

/-- As it was, but for the blocks of F and new ones. -/
structure Fr (F : Nat → Prop) (w w' : World) : Prop where
  os : w'.os = w.os
  tape : w'.tape = w.tape
  output : w'.output = w.output
  size : w.heap.size ≤ w'.heap.size
  block : ∀ k, k < w.heap.size → ¬ F k → w'.heap[k]? = w.heap[k]?
theorem Fr.refl (F : Nat → Prop) (w : World) : Fr F w w := ⟨rfl, rfl, rfl, Nat.le_refl _, fun _ _ _ => rfl⟩
theorem Fr.trans {F G : Nat → Prop} {a b c : World} (h : Fr F a b) (k : Fr G b c) (hG : ∀ i, G i → F i ∨ a.heap.size ≤ i) : Fr F a c :=
  ⟨k.os.trans h.os, k.tape.trans h.tape, k.output.trans h.output, Nat.le_trans h.size k.size, fun i hi hF =>
    (k.block i (Nat.lt_of_lt_of_le hi h.size) (fun hg => (hG i hg).elim hF (fun hge => by omega))).trans (h.block i hi hF)⟩
theorem Fr.mono {F G : Nat → Prop} {a b : World} (h : Fr F a b) (hF : ∀ i, F i → G i ∨ a.heap.size ≤ i) : Fr G a b :=
  ⟨h.os, h.tape, h.output, h.size, fun i hi hg => h.block i hi (fun hf => (hF i hf).elim hg (fun hge => by omega))⟩
theorem Fr.drew {F : Nat → Prop} {a b : World} (h : Fr F a b) : Fr F a b.drew := ⟨h.os, h.tape, h.output, h.size, h.block⟩
theorem Fr.drewN {F : Nat → Prop} {a b : World} (h : Fr F a b) (n : Nat) : Fr F a (b.drewN n) := ⟨h.os, h.tape, h.output, h.size, h.block⟩
theorem Fr.alloc {F : Nat → Prop} {a b : World} (h : Fr F a b) (o : Obj) : Fr F a (b.alloc o) :=
  ⟨h.os, h.tape, h.output, by have := h.size; simp; omega, fun i hi hF => (Below.heap_alloc b o i (by have := h.size; omega)).trans (h.block i hi hF)⟩
theorem Fr.setCell {F : Nat → Prop} {a b : World} (h : Fr F a b) (p : Addr) (v : Value) (hp : F p.block ∨ a.heap.size ≤ p.block) : Fr F a (b.setCell p v) :=
  ⟨h.os, h.tape, h.output, by have := h.size; simp [World.setCell]; omega, fun i hi hF => (Below.heap_setCell b p v i (fun e => by subst e; rcases hp with hp | hp; exact hF hp; omega)).trans (h.block i hi hF)⟩
theorem Fr.setRow {F : Nat → Prop} {a b : World} (h : Fr F a b) (g : Nat) (cs : Array Value) (hp : F g ∨ a.heap.size ≤ g) : Fr F a (b.setRow g cs) :=
  ⟨h.os, h.tape, h.output, by have := h.size; simp; omega, fun i hi hF => (setRow_other b g i cs (fun e => by subst e; rcases hp with hp | hp; exact hF hp; omega)).trans (h.block i hi hF)⟩
theorem Fr.grown {F : Nat → Prop} {a b c : World} (h : Fr F a b) {row : Option Nat} (hg : b.grownBy c row) (hr : ∀ k, row = some k → F k ∨ a.heap.size ≤ k) : Fr F a c :=
  ⟨hg.os.trans h.os, hg.tape.trans h.tape, hg.output.trans h.output, Nat.le_trans h.size hg.size, fun i hi hF => (hg.block i (by have := h.size; omega) (fun e => by
    rcases hr i e.symm with hk | hk
    · exact hF hk
    · omega)).trans (h.block i hi hF)⟩
theorem Fr.below {F : Nat → Prop} {a b : World} (h : Fr F a b) {B : Nat} (hB : B ≤ a.heap.size) (hF : ∀ i, i < B → ¬ F i) : Below B a b :=
  ⟨h.os, h.tape, h.output, h.size, fun i hi => h.block i (by omega) (hF i hi)⟩
theorem Fr.of_below {F : Nat → Prop} {a b : World} (h : Below a.heap.size a b) : Fr F a b := ⟨h.os, h.tape, h.output, h.size, fun i hi _ => h.block i hi⟩
theorem Fr.heap {F : Nat → Prop} {a b : World} (h : Fr F a b) {g : Nat} {o : Obj} (hg : a.heap[g]? = some o) (hF : ¬ F g) : b.heap[g]? = some o :=
  (h.block g (Array.getElem?_eq_some_iff.1 hg).1 hF).trans hg
theorem Fr.own {F : Nat → Prop} {a b : World} (h : Fr F a b) {base : Nat} {e : TypeId} {size n : Nat} {v : Value} {xs : List Value} (ho : a.ownsRow base e size v n xs) (hF : ∀ k, v.ownBlock = some k → ¬ F k) : b.ownsRow base e size v n xs := by
  refine ⟨ho.1, ?_⟩
  rcases ho.2 with hn | ⟨g, cap, cur, rfl, hb, hg, rest⟩
  · exact .inl hn
  · exact .inr ⟨g, cap, cur, rfl, hb, h.heap hg (hF g rfl), rest⟩
theorem Fr.cell {F : Nat → Prop} {a b : World} (h : Fr F a b) {p : Addr} {v : Value} (hc : a.cell? p = some v) (hF : ¬ F p.block) : b.cell? p = some v :=
  (World.cell?_of_block (h.block p.block (World.block_lt_of_cell? a p hc) hF)).trans hc
theorem lt_of_heap {w : World} {g : Nat} {o : Obj} (h : w.heap[g]? = some o) : g < w.heap.size := (Array.getElem?_eq_some_iff.1 h).1

/-! ### whole blocks -/
section
variable {P : Program} {ops : Array Oper} {rest : List Oper} {op : Oper} {a : Act} {w : World} {Q : Exit → Act → World → Prop}

theorem push_modify {α : Type} (A : Array α) (o : α) (f : α → α) : (A.push o).modify A.size f = A.push (f o) := by
  apply Array.ext
  · simp
  · intro k h1 h2
    simp only [Array.getElem_modify, Array.getElem_push]
    simp at h2
    by_cases hk : k = A.size
    · subst hk; simp
    · have : k < A.size := by omega
      simp [this, Ne.symm hk]
theorem alloc_setRow (w : World) (Z cs : Array Value) (t : TypeId) : (w.alloc (.cells Z t)).setRow w.heap.size cs = w.alloc (.cells cs t) := by
  show ({ w with heap := (w.heap.push (.cells Z t)).modify w.heap.size _ } : World) = { w with heap := w.heap.push (.cells cs t) }
  rw [push_modify]

theorem run_storeVar_whole (g : Nat) (ty t : TypeId) (Z cs : Array Value) (hg : w.heap[g]? = some (.cells Z t (0, 0))) (hZ : Z.size = cs.size) (hi : (P.info? ty).map (·.size) = some cs.size) (h1 : ∀ v ∈ cs.toList, v.oneCell' = true) :
    (storeVar ty ⟨g, 0, none⟩ (.agg cs)).run P w = .ok () (w.setRow g cs) := by
  have := run_storeCells_at P g 0 t cs.toList 0 Z w hg (by simp [hZ]) h1
  cases hq : P.info? ty with
  | none => simp [hq] at hi
  | some i =>
    have hs : cs.size = i.size := by simp [hq] at hi; omega
    have hd : Z.toList.drop cs.size = [] := by apply List.drop_eq_nil_of_le; simp [hZ]
    simp only [Nat.zero_add, Nat.add_zero, List.take_zero, List.nil_append, Array.length_toList, hd, List.append_nil, Array.toArray_toList] at this
    simp [storeVar, sizeOf, typeInfo, hq, Value.cells, hs, this]

theorem wpList_store_whole (hgd : op.guard = none) (ty : TypeId) (x y : Operand) (ho : op.op = .store ty x y) (g : Nat) (t : TypeId) (Z cs : Array Value)
    (hx : a.eval x = .pointer (some ⟨g, 0, none⟩)) (hy : a.eval y = .agg cs) (hg : w.heap[g]? = some (.cells Z t (0, 0))) (hZ : Z.size = cs.size) (hi : (P.info? ty).map (·.size) = some cs.size) (h1 : ∀ v ∈ cs.toList, v.oneCell' = true)
    (h : wpList P ops Q rest (a.put op.dst undef) (w.setRow g cs)) : wpList P ops Q (op :: rest) a w := by
  refine wpList_plain hgd fun K hK => ?_
  unfold Oper.wp execOp
  simp only [ho, hx, hy, Instr.storeAt, Instr.sureAddr, Sem.run_bind, Sem.run_pure, Result.andThen_ok, run_storeVar_whole g ty t Z cs hg hZ hi h1]
  exact hK _ _ h

theorem wpList_store_fresh (hgd : op.guard = none) (ty : TypeId) (x y : Operand) (ho : op.op = .store ty x y) (w0 : World) (Z cs : Array Value) (hw : w = w0.alloc (.cells Z ty))
    (hx : a.eval x = .pointer (some ⟨w0.heap.size, 0, none⟩)) (hy : a.eval y = .agg cs) (hZ : Z.size = cs.size) (hi : (P.info? ty).map (·.size) = some cs.size) (h1 : ∀ v ∈ cs.toList, v.oneCell' = true)
    (h : wpList P ops Q rest (a.put op.dst undef) (w0.alloc (.cells cs ty))) : wpList P ops Q (op :: rest) a w := by
  subst hw
  refine wpList_store_whole hgd ty x y ho w0.heap.size ty Z cs hx hy (heap_alloc_new w0 _) hZ hi h1 ?_
  rw [alloc_setRow]
  exact h
end

/-! ### bytes -/
def bcells (l : List UInt8) : List Value := l.map fun b => .int .u8 (b.toNat : Int)
theorem bcells_length (l : List UInt8) : (bcells l).length = l.length := by simp [bcells]
theorem bcells_one (l : List UInt8) : ∀ v ∈ bcells l, v.oneCell' = true := by
  intro v hv
  simp only [bcells, List.mem_map] at hv
  obtain ⟨b, _, rfl⟩ := hv
  rfl
theorem bcells_append (l m : List UInt8) : bcells (l ++ m) = bcells l ++ bcells m := by simp [bcells]
theorem bcells_take (l : List UInt8) (n : Nat) : bcells (l.take n) = (bcells l).take n := by simp [bcells]
theorem bcells_drop (l : List UInt8) (n : Nat) : bcells (l.drop n) = (bcells l).drop n := by simp [bcells]
theorem bcells_get (l : List UInt8) (i : Nat) : (bcells l)[i]? = (l[i]?).map fun b => .int .u8 (b.toNat : Int) := by simp [bcells]
theorem splice_cells (L : List UInt8) (o : Nat) (cs : List UInt8) : (bcells L).toArray.toList.take o ++ (bcells cs ++ (bcells L).toArray.toList.drop (o + (bcells cs).length)) = bcells (splice L o cs) := by simp [bcells, splice]
theorem flat_take {α : Type} (f : α → List Value) (n : Nat) : ∀ (l : List α), (∀ x ∈ l, (f x).length = n) → ∀ (k : Nat) (x : α), l[k]? = some x → ∀ j v, (f x)[j]? = some v → (l.flatMap f)[k * n + j]? = some v
  | [], _, k, x, hk, _, _, _ => by simp at hk
  | y :: l, h, 0, x, hk, j, v, hj => by
    simp at hk; subst hk
    have hl : j < (f y).length := (List.getElem?_eq_some_iff.1 hj).1
    rw [List.flatMap_cons, Nat.zero_mul, Nat.zero_add, List.getElem?_append_left hl]; exact hj
  | y :: l, h, k + 1, x, hk, j, v, hj => by
    have hy := h y (by simp)
    rw [List.flatMap_cons, List.getElem?_append_right (by rw [hy, Nat.succ_mul]; omega), hy, show (k + 1) * n + j - n = k * n + j by rw [Nat.succ_mul]; omega]
    exact flat_take f n l (fun z hz => h z (by simp [hz])) k x (by simpa using hk) j v hj
theorem flat_length {α : Type} (f : α → List Value) (n : Nat) : ∀ (l : List α), (∀ x ∈ l, (f x).length = n) → (l.flatMap f).length = l.length * n
  | [], _ => by simp
  | y :: l, h => by rw [List.flatMap_cons, List.length_append, flat_length f n l (fun z hz => h z (by simp [hz])), h y (by simp), List.length_cons, Nat.succ_mul]; omega
/-- A string of bytes. -/
def str (l : List UInt8) : ByteArray := ⟨l.toArray⟩
theorem str_size (l : List UInt8) : (str l).size = l.length := by simp [str, ByteArray.size]
theorem str_list (l : List UInt8) : (str l).data.toList = l := by simp [str]
theorem str_toList (l : List UInt8) : (str l).toList = l := by rw [ByteArray.toList_eq]; exact str_list l
theorem bcells_byteCells (l : List UInt8) : Lib.byteCells l = bcells l := rfl
section
variable {P : Program} {ops : Array Oper} {rest : List Oper} {op : Oper} {a : Act} {w : World} {Q : Exit → Act → World → Prop}
/-- 'copy(row[o:], s)': a string's bytes into a block that was made last. -/
theorem wpList_copy_str_fresh (hgd : op.guard = none) (d s : Operand) (dT sT : TypeId)
    (ho : op.op = .call { callee := .builtin .copy, args := #[d, s], argTypes := #[dT, sT] }) (elem : TypeId) (hu : P.underlying dT = some (.slice elem)) (hsz : (P.info? elem).map (·.size) = some 1)
    (w0 : World) (Z Z' : Array Value) (t : TypeId) (hw : w = w0.alloc (.cells Z t)) (off dLen dCap : Nat) (st : ByteArray) (hd : a.eval d = .slice (some ⟨w0.heap.size, off, none⟩) dLen dCap) (hs : a.eval s = .string st)
    (hle : st.size ≤ dLen) (hfit : off + st.size ≤ Z.size) (hZ : (Z.toList.take off ++ bcells st.data.toList ++ Z.toList.drop (off + st.size)).toArray = Z')
    (h : wpList P ops Q rest (a.put op.dst (goInt st.size)) (w0.alloc (.cells Z' t))) : wpList P ops Q (op :: rest) a w := by
  subst hw
  refine wpList_plain hgd fun K hK => ?_
  have hrun := Lib.run_copy_row_string (P := P) (w0.alloc (.cells Z t)) dT sT op.type elem w0.heap.size off dLen dCap st Z t hu hsz (heap_alloc_new w0 _) hle hfit
  rw [alloc_setRow, bcells_byteCells, hZ] at hrun
  unfold Oper.wp
  simp [execOp, ho, resolve, invoke, builtin, hd, hs, hrun, Result.andThen]
  exact hK _ _ h
end
/-! ### building -/
theorem fold_fill (off : Nat) : ∀ (l : List Value) (k : Nat) (Z : Array Value), off + k + l.length ≤ Z.size →
    (l.zipIdx k).foldl (fun A p => A.setIfInBounds (off + p.2) p.1) Z = (Z.toList.take (off + k) ++ l ++ Z.toList.drop (off + k + l.length)).toArray
  | [], k, Z, _ => by simp
  | v :: l, k, Z, h => by
    have hl : off + k + (l.length + 1) ≤ Z.size := by simpa using h
    rw [List.zipIdx_cons, List.foldl_cons, fold_fill off l (k + 1) (Z.setIfInBounds (off + k) v) (by simp; omega)]
    have e := list_seg_step Z.toList (off + k) v l (by simpa using hl)
    rw [Array.toList_setIfInBounds, show off + (k + 1) = off + k + 1 by omega, e, List.length_cons]
theorem zipIdx_arr (cs : Array Value) (f : Array Value → Value × Nat → Array Value) (Z : Array Value) : cs.zipIdx.foldl f Z = (cs.toList.zipIdx 0).foldl f Z := by
  rw [← Array.foldl_toList]; simp
theorem fill_one (place : Nat → Option (Nat × Nat)) (i off : Nat) (cs Z : Array Value) (rest : List (Nat × Value)) (hp : place i = some (off, cs.size)) (hz : off + cs.size ≤ Z.size) :
    Instr.fill place Z ((i, .agg cs) :: rest) = Instr.fill place (Z.toList.take off ++ cs.toList ++ Z.toList.drop (off + cs.size)).toArray rest := by
  have h1 := fold_fill off cs.toList 0 Z (by simpa using hz)
  simp only [Nat.add_zero, Array.length_toList] at h1
  have hz' : ¬ Z.size < off + cs.size := by omega
  simp only [Instr.fill, hp, Value.cells, ne_eq, not_true_eq_false, decide_false, Bool.false_or, gt_iff_lt, hz', Bool.false_eq_true, if_false, zipIdx_arr, h1]
theorem run_buildSlice_one {P : Program} (w : World) (t e : TypeId) (cs Z : Array Value) (hu : P.underlying t = some (.slice e)) (hi : (P.info? e).map (fun i => (i.size, i.zero)) = some (cs.size, some (.agg Z))) (h0 : 0 < cs.size) (h1 : cs.size ≤ 10000) :
    (Instr.buildSlice t 1 #[(0, .agg cs)]).run P w = .ok (.slice (some ⟨w.heap.size, 0, none⟩) 1 1) (w.alloc (.cells cs e)) := by
  cases hq : P.info? e with
  | none => simp [hq] at hi
  | some i =>
    simp only [hq, Option.map_some, Option.some.injEq, Prod.mk.injEq] at hi
    obtain ⟨hs, hz⟩ := hi
    have h2 : ¬ (1 * cs.size > 2 ^ 24) := by omega
    have h3 : ¬ (1 * cs.size = 0) := by omega
    have hf := fill_one (fun i => some (i * cs.size, cs.size)) 0 0 cs ((Array.range (1 * cs.size)).map (Z[· % Z.size]!)) [] (by simp) (by simp)
    have hd : ((Array.range (1 * cs.size)).map (Z[· % Z.size]!)).toList.drop (0 + cs.size) = [] := by apply List.drop_eq_nil_of_le; simp
    rw [hd] at hf
    simp only [List.take_zero, List.nil_append, List.append_nil, Array.toArray_toList] at hf
    have hf0 := hf.trans (show Instr.fill _ cs [] = some cs from rfl)
    rw [← hs] at h2 h3 hf0
    simp only [Nat.one_mul] at h2 h3 hf0
    have h4 : ¬ 16777216 < i.size := by omega
    simp [Instr.buildSlice, run_underlying hu, sizeOf, typeInfo, zeroValue, hq, hz, Value.cells]
    rw [if_neg h4, if_neg h3, hf0]
    simp [newRow, newObj]
    rfl
theorem wp_buildSlice_one {P : Program} {op : Oper} {a : Act} {w : World} {K : Act → World → Prop} {Q : Exit → Act → World → Prop} (t : TypeId) (x : Operand) (ho : op.op = .buildSlice t 1 #[(0, x)]) (e : TypeId) (cs Z : Array Value)
    (hx : a.eval x = .agg cs) (hu : P.underlying t = some (.slice e)) (hi : (P.info? e).map (fun i => (i.size, i.zero)) = some (cs.size, some (.agg Z))) (h0 : 0 < cs.size) (h1 : cs.size ≤ 10000)
    (h : K (a.put op.dst (.slice (some ⟨w.heap.size, 0, none⟩) 1 1)) (w.alloc (.cells cs e))) : op.wp P a w K Q := by
  unfold Oper.wp execOp
  simp only [ho, hx, List.map_toArray, List.map_cons, List.map_nil, Sem.run_bind, Sem.run_pure, Result.andThen_ok, run_buildSlice_one w t e cs Z hu hi h0 h1]
  exact h
/-! ### bytes as a string -/
theorem strOf_bytes (l : List UInt8) : strOfNums (l.map fun b => (b.toNat : Int)) = str l := by
  have h : ((fun n : Int => UInt8.ofNat n.toNat) ∘ fun b : UInt8 => (b.toNat : Int)) = id := by funext b; simp
  simp [strOfNums, str, h]
theorem run_convert_str {P : Program} (w : World) (src e : TypeId) (hs : P.underlying src = some (.slice e)) (he : P.underlying e = some (.int .u8)) (b off len cap : Nat) (l : List UInt8) (hl : l.length = len) (hc : w.rangeAt b off (bcells l)) (dst : TypeId) (hd : P.underlying dst = some .string) :
    (convert src dst (.slice (some ⟨b, off, none⟩) len cap)).run P w = .ok (.string (str l)) w := by
  rw [← strOf_bytes]
  refine run_convert_bytes_arg w src e hs he b off len cap _ (by simpa using hl) (fun i hi => ?_) dst hd
  refine hc i _ ?_
  have : i < l.length := by omega
  simp [bcells_get, this]
theorem rangeAt_block {w : World} {b : Nat} {cs : List Value} {t : TypeId} {fr : Nat × Nat} (h : w.heap[b]? = some (.cells cs.toArray t fr)) (off n : Nat) : w.rangeAt b off ((cs.drop off).take n) := fun j v hj => by
  rw [cell_of_row w b _ _ _ _ h]
  rw [List.getElem?_take] at hj
  split at hj
  · simpa [List.getElem?_drop] using hj
  · cases hj
theorem rangeAt_mid {w : World} {b o : Nat} {xs : List Value} (h : w.rangeAt b o xs) (ys : List Value) (k : Nat) (hy : ∀ j v, ys[j]? = some v → xs[k + j]? = some v) : w.rangeAt b (o + k) ys := fun j v hj => by
  have := h (k + j) v (hy j v hj)
  rwa [← Nat.add_assoc] at this
end Go.Proofs.YtcchhfkmhbjdmaaGreat
/-! L1 -/
set_option linter.unusedVariables false
set_option linter.unusedSimpArgs false
namespace Go.Proofs.YtcchhfkmhbjdmaaGreat
section
variable {P : Program} {ops : Array Oper} {Q : Exit → Act → World → Prop} {md : Region.Mode} {S : World → Prop} {e : Nat}

theorem getD_set_false {listed : Array Bool} {i k : Nat} (h : (listed.setIfInBounds i true).getD k true = false) : listed.getD k true = false := by
  by_cases hik : i = k
  · subst hik
    by_cases hi : i < listed.size
    · simp [hi] at h
    · simp [hi] at h
  · rw [getD_set_ne true hik] at h; exact h

/-- What is listed has all it waits for listed. -/
def Closed (md : Region.Mode) (ops : Array Oper) (listed : Array Bool) : Prop :=
  ∀ j oj, ops[j]? = some oj → listed.getD j false = true → ∀ ed ∈ oj.after, Region.binds md ed = true → listed.getD ed.on false = true
def closedB (md : Region.Mode) (ops : Array Oper) (listed : Array Bool) : Bool :=
  (List.range ops.size).all fun j => match ops[j]? with
    | some oj => !listed.getD j false || oj.after.all fun ed => !Region.binds md ed || listed.getD ed.on false
    | none => true
theorem closed_of {listed : Array Bool} (h : closedB md ops listed = true) : Closed md ops listed := by
  intro j oj hj hl ed hed hb
  simp only [closedB, List.all_eq_true, List.mem_range] at h
  have h1 := h j (Array.getElem?_eq_some_iff.1 hj).1
  simp only [hj, hl, Bool.not_true, Bool.false_or, Array.all_eq_true_iff_forall_mem] at h1
  have h2 := h1 ed hed
  simpa [hb] using h2
theorem Closed.set {listed : Array Bool} (h : Closed md ops listed) {i : Nat} (hi : i ∈ Region.ready md ops listed) : Closed md ops (listed.setIfInBounds i true) := by
  obtain ⟨hun, oi, hoi, hall⟩ := mem_ready.1 hi
  intro j oj hj hl ed hed hb
  have up : listed.getD ed.on false = true → (listed.setIfInBounds i true).getD ed.on false = true := fun hh => getD_set_true hh
  by_cases hij : i = j
  · subst hij
    obtain rfl : oj = oi := Option.some.inj (hj.symm.trans hoi)
    exact up (hall ed hed hb)
  · rw [getD_set_ne false hij] at hl
    exact up (h j oj hj hl ed hed hb)
/-- Does e wait for i, by way of others? -/
def reachB (md : Region.Mode) (ops : Array Oper) (i : Nat) : Nat → Nat → Bool
  | 0, _ => false
  | n + 1, k => match ops[k]? with
    | some o => o.after.any fun ed => Region.binds md ed && (ed.on == i || reachB md ops i n ed.on)
    | none => false
theorem reach_listed {listed : Array Bool} (hc : Closed md ops listed) {i : Nat} : ∀ (n k : Nat), reachB md ops i n k = true → listed.getD k false = true → listed.getD i false = true
  | 0, _, h, _ => by cases h
  | n + 1, k, h, hl => by
    unfold reachB at h
    cases hk : ops[k]? with
    | none => simp [hk] at h
    | some o =>
      rw [hk] at h
      obtain ⟨ed, hed, hb⟩ := Array.any_eq_true'.1 h
      simp only [Bool.and_eq_true, Bool.or_eq_true, beq_iff_eq] at hb
      have h1 := hc k o hk hl ed hed hb.1
      rcases hb.2 with h2 | h2
      · rw [← h2]; exact h1
      · exact reach_listed hc n ed.on h2 h1
theorem reach_ready {listed : Array Bool} (hc : Closed md ops listed) {i n : Nat} (hr : reachB md ops i n e = true) (hun : listed.getD i false = false) : e ∉ Region.ready md ops listed := by
  intro he
  obtain ⟨_, oe, hoe, hall⟩ := mem_ready.1 he
  cases n with
  | zero => cases hr
  | succ n =>
    unfold reachB at hr
    rw [hoe] at hr
    obtain ⟨ed, hed, hb⟩ := Array.any_eq_true'.1 hr
    simp only [Bool.and_eq_true, Bool.or_eq_true, beq_iff_eq] at hb
    have h1 := hall ed hed hb.1
    have : listed.getD i false = true := by
      rcases hb.2 with h2 | h2
      · rw [← h2]; exact h1
      · exact reach_listed hc n ed.on h2 h1
    rw [hun] at this; cases this

/-- S, as long as e hasn't come up. -/
def Till (S : World → Prop) (e : Nat) (listed : Array Bool) (w : World) : Prop := listed.getD e true = false → S w
def wpAnyT (P : Program) (md : Region.Mode) (ops : Array Oper) (Q : Exit → Act → World → Prop) (S : World → Prop) (e : Nat) : Nat → Array Bool → Act → World → Prop
  | 0, listed, a, w => Region.ready md ops listed = [] ∧ Q .normal a w
  | fuel + 1, listed, a, w =>
    (Region.ready md ops listed = [] → Q .normal a w) ∧
    ∀ i ∈ Region.ready md ops listed, wpOp P ops Q i (fun a' w' => Till S e (listed.setIfInBounds i true) w' ∧ wpAnyT P md ops Q S e fuel (listed.setIfInBounds i true) a' w') a w
theorem wpAny_of_till : ∀ (fuel : Nat) (listed : Array Bool) (a : Act) (w : World), wpAnyT P md ops Q S e fuel listed a w → wpAny P md ops Q fuel listed a w
  | 0, _, _, _, h => h
  | fuel + 1, _, _, _, h => ⟨h.1, fun i hi => wpOp_mono (fun a' w' h' => wpAny_of_till fuel _ a' w' h'.2) (h.2 i hi)⟩

theorem wpAnyT_first {i n : Nat} {oi : Oper} {v : Value} (hi : ops[i]? = some oi) (hsel : ∀ (j : Nat) (o : Oper) cs b, ops[j]? = some o → o.op ≠ .select cs b)
    (hQ : ∀ c a w, Q (.panic c) (a.put oi.dst v) w → Q (.panic c) a w) (hw : reachB md ops i n e = true) (hei : e ≠ i) :
    ∀ (fuel : Nat) (listed : Array Bool) (a : Act) (w : World), listed.size = ops.size → Closed md ops listed →
      (∀ j oj, ops[j]? = some oj → j ≠ i → listed.getD j true = false → (∀ ed ∈ oj.after, Region.binds md ed = true → ed.on ≠ i) → oi.apart ops oj = true) →
      i ∈ Region.ready md ops listed → YieldsIf P ops S oi v a → S w →
      wpAnyT P md ops Q S e fuel (listed.setIfInBounds i true) (a.put oi.dst v) w → wpAnyT P md ops Q S e (fuel + 1) listed a w := by
  intro fuel
  induction fuel with
  | zero =>
    intro listed a w _ _ _ hr hy hS H
    refine ⟨fun h => (by rw [h] at hr; cases hr), fun j hj => ?_⟩
    by_cases hji : j = i
    · subst hji; exact hy.wpOp hi hS ⟨fun _ => hS, H⟩
    · have := ready_mono hj hji
      rw [H.1] at this
      cases this
  | succ fuel ih =>
    intro listed a w hsz hcl hfree hr hy hS H
    refine ⟨fun h => (by rw [h] at hr; cases hr), fun j hj => ?_⟩
    by_cases hji : j = i
    · subst hji; exact hy.wpOp hi hS ⟨fun _ => hS, H⟩
    · have h1 := H.2 j (ready_mono hj hji)
      obtain ⟨hjun, oj, hoj, hall⟩ := mem_ready.1 hj
      have hiun0 : listed.getD i false = false := getD_both (mem_ready.1 hr).1
      have hje : j ≠ e := fun he => by subst he; exact reach_ready hcl hw hiun0 hj
      have hnot : ∀ ed ∈ oj.after, Region.binds md ed = true → ed.on ≠ i := fun ed hed hb heq => by
        have h1 := hall ed hed hb
        rw [heq, hiun0] at h1; cases h1
      have h2 := wpOp_putIf hoj (hfree j oj hoj hji hjun hnot) (fun cs b => hsel i oi cs b hi) (fun cs b => hsel j oj cs b hoj) hQ hy h1
      have hfree' : ∀ k ok, ops[k]? = some ok → k ≠ i → (listed.setIfInBounds j true).getD k true = false →
          (∀ ed ∈ ok.after, Region.binds md ed = true → ed.on ≠ i) → oi.apart ops ok = true := fun k ok hk hki hun hno => hfree k ok hk hki (getD_set_false hun) hno
      have heun : ((listed.setIfInBounds i true).setIfInBounds j true).getD e true = false := by
        have helt : e < ops.size := by
          cases n with
          | zero => cases hw
          | succ n =>
            unfold reachB at hw
            cases hq : ops[e]? with
            | none => simp [hq] at hw
            | some o => exact (Array.getElem?_eq_some_iff.1 hq).1
        rw [getD_set_ne true hje, getD_set_ne true (Ne.symm hei)]
        cases hq : listed.getD e false with
        | true => rw [reach_listed hcl n e hw hq] at hiun0; cases hiun0
        | false => exact getD_in (by omega) hq
      refine wpOp_mono (fun a' w' h3 => ?_) h2
      have hS' : S w' := h3.2.1 heun
      refine ⟨fun _ => hS', ih (listed.setIfInBounds j true) a' w' (by simpa using hsz) (hcl.set hj) hfree' (ready_mono hr (Ne.symm hji)) h3.1 hS' ?_⟩
      rw [Array.setIfInBounds_comm _ _ hji]
      exact h3.2.2
/-- Take number i first. -/
theorem wpAnyT_take {i n : Nat} {oi : Oper} {v : Value} {fuel : Nat} {listed : Array Bool} {a : Act} {w : World} (hi : ops[i]? = some oi)
    (hb : (Region.noSelect ops && Region.free md ops listed i && (Region.ready md ops listed).contains i && reachB md ops i n e && decide (e ≠ i) && decide (listed.size = ops.size) && closedB md ops listed) = true)
    (hQ : ∀ c a w, Q (.panic c) (a.put oi.dst v) w → Q (.panic c) a w) (hS : S w) (hy : YieldsIf P ops S oi v a)
    (h : wpAnyT P md ops Q S e fuel (listed.setIfInBounds i true) (a.put oi.dst v) w) : wpAnyT P md ops Q S e (fuel + 1) listed a w := by
  simp only [Bool.and_eq_true, decide_eq_true_eq] at hb
  obtain ⟨⟨⟨⟨⟨⟨hs, hf⟩, hr⟩, hw⟩, hei⟩, hsz⟩, hc⟩ := hb
  exact wpAnyT_first hi (Region.noSelect_spec hs) hQ hw hei fuel listed a w hsz (closed_of hc) (Region.free_spec hi hf) (by simpa using hr) hy hS h
/-- What is left comes one behind the other. -/
def chainB (md : Region.Mode) (ops : Array Oper) : List Nat → Array Bool → Bool
  | [], listed => (Region.ready md ops listed).isEmpty
  | i :: l, listed => Region.ready md ops listed == [i] && (ops[i]?).isSome && chainB md ops l (listed.setIfInBounds i true)
/-- One operation that may break S, or must show it anew. -/
theorem wpAnyT_one {i : Nat} {oi : Oper} {fuel : Nat} {listed : Array Bool} {a : Act} {w : World} (hi : ops[i]? = some oi) (hr : Region.ready md ops listed = [i]) 
    (h : wpOp P ops Q i (fun a' w' => Till S e (listed.setIfInBounds i true) w' ∧ wpAnyT P md ops Q S e fuel (listed.setIfInBounds i true) a' w') a w) : wpAnyT P md ops Q S e (fuel + 1) listed a w :=
  ⟨fun h0 => (by rw [hr] at h0; cases h0), fun j hj => (by rw [hr] at hj; obtain rfl : j = i := by simpa using hj
                                                           exact h)⟩
/-- The chain at the end, as a list of operations. -/
theorem wpAny_chain : ∀ (l : List Nat) (listed : Array Bool) (fuel : Nat) (a : Act) (w : World), chainB md ops l listed = true → l.length ≤ fuel →
    wpList P ops Q (l.filterMap (ops[·]?)) a w → wpAny P md ops Q fuel listed a w
  | [], listed, fuel, a, w, hc, _, h => by
    have h0 : Region.ready md ops listed = [] := by simpa [chainB] using hc
    cases fuel with
    | zero => exact ⟨h0, h⟩
    | succ n => exact ⟨fun _ => h, fun j hj => (by rw [h0] at hj; cases hj)⟩
  | i :: l, listed, fuel, a, w, hc, hl, h => by
    simp only [chainB, Bool.and_eq_true, beq_iff_eq] at hc
    obtain ⟨⟨hr, hs⟩, hc⟩ := hc
    obtain ⟨oi, hoi⟩ := Option.isSome_iff_exists.1 hs
    cases fuel with
    | zero => simp at hl
    | succ n =>
      refine ⟨fun h0 => (by rw [hr] at h0; cases h0), fun j hj => ?_⟩
      rw [hr] at hj
      obtain rfl : j = i := by simpa using hj
      have ih := fun a' w' hh => wpAny_chain l (listed.setIfInBounds j true) n a' w' hc (by simp at hl; omega) hh
      rw [List.filterMap_cons_some hoi] at h
      unfold wpOp
      simp only [hoi]
      unfold wpList at h
      split
      · rename_i hwant
        rw [if_pos hwant] at h
        exact h.imp (Oper.wp_mono ih) id
      · rename_i hwant
        rw [if_neg hwant] at h
        exact ih _ _ h
/-- S may be forgotten where nothing that wants it is left. -/
theorem wpAnyT_of_any (hforever : True) : ∀ (l : List Nat) (listed : Array Bool) (fuel : Nat) (a : Act) (w : World), chainB md ops l listed = true → l.length ≤ fuel → (listed.getD e true = true ∨ l.head? = some e) →
    wpList P ops Q (l.filterMap (ops[·]?)) a w → wpAnyT P md ops Q S e fuel listed a w
  | [], listed, fuel, a, w, hc, _, _, h => by
    have h0 : Region.ready md ops listed = [] := by simpa [chainB] using hc
    cases fuel with
    | zero => exact ⟨h0, h⟩
    | succ n => exact ⟨fun _ => h, fun j hj => (by rw [h0] at hj; cases hj)⟩
  | i :: l, listed, fuel, a, w, hc, hl, he, h => by
    simp only [chainB, Bool.and_eq_true, beq_iff_eq] at hc
    obtain ⟨⟨hr, hs⟩, hc⟩ := hc
    obtain ⟨oi, hoi⟩ := Option.isSome_iff_exists.1 hs
    have hun : listed.getD i true = false := (mem_ready.1 (show i ∈ Region.ready md ops listed by rw [hr]; simp)).1
    have helisted : (listed.setIfInBounds i true).getD e true = true := by
      rcases he with he | he
      · cases hq : (listed.setIfInBounds i true).getD e true with
        | true => rfl
        | false => rw [getD_set_false hq] at he; cases he
      · obtain rfl : i = e := by simpa using he
        cases hq : (listed.setIfInBounds i true).getD i true with
        | true => rfl
        | false =>
          by_cases hi : i < listed.size
          · simp [hi] at hq
          · simp [hi] at hq
    cases fuel with
    | zero => simp at hl
    | succ n =>
      refine ⟨fun h0 => (by rw [hr] at h0; cases h0), fun j hj => ?_⟩
      rw [hr] at hj
      obtain rfl : j = i := by simpa using hj
      have ih := fun a' w' hh => (⟨fun hf => (by rw [helisted] at hf; cases hf), wpAnyT_of_any hforever l (listed.setIfInBounds j true) n a' w' hc (by simp at hl; omega) (.inl helisted) hh⟩ : Till S e (listed.setIfInBounds j true) w' ∧ wpAnyT P md ops Q S e n (listed.setIfInBounds j true) a' w')
      rw [List.filterMap_cons_some hoi] at h
      unfold wpOp
      simp only [hoi]
      unfold wpList at h
      split
      · rename_i hwant
        rw [if_pos hwant] at h
        exact h.imp (Oper.wp_mono ih) id
      · rename_i hwant
        rw [if_neg hwant] at h
        exact ih _ _ h
theorem wpOp_plain {i : Nat} {o : Oper} {a : Act} {w : World} {K0 : Act → World → Prop} (hi : ops[i]? = some o) (hg : o.guard = none) (h : ∀ K : Act → World → Prop, (∀ a' w', K0 a' w' → K a' w') → o.wp P a w K Q) : wpOp P ops Q i K0 a w := by
  unfold wpOp
  simp only [hi]
  rw [if_pos (by simp [Region.wanted, hg])]
  exact .inl (h K0 (fun _ _ h => h))
theorem yieldsIf_plain {o : Oper} {v : Value} {a : Act} (hg : o.guard = none) (h : ∀ w, S w → (execOp a.eval o).run P w = .ok (.value v) w) : YieldsIf P ops S o v a := .inl ⟨by simp [Region.wanted, hg], h⟩
theorem yieldsIf_load {o : Oper} {a : Act} (hg : o.guard = none) (ty : TypeId) (x : Operand) (ho : o.op = .load ty x)
    (b off : Nat) (hx : a.eval x = .pointer (some ⟨b, off, none⟩)) (cs : List Value) (d : TypeDesc) (hS : ∀ w, S w → w.rangeAt b off cs)
    (hu : P.underlying ty = some d) (hd : d.isRow = true) (hi : (P.info? ty).map (·.size) = some cs.length) : YieldsIf P ops S o (.agg cs.toArray) a :=
  yieldsIf_load_mid (by simp [Region.wanted, hg]) ty x ho b off hx cs d hS hu hd hi
/-- The beginning. -/
theorem wp_region_till {id : Nat} {a : Act} {w : World} (S : World → Prop) (e : Nat) (hm : P.follows .mixedOrders = true)
    (h : wpAnyT P .any ops Q S e ops.size (Array.replicate ops.size false) a w.drew) : (Code.region id ops true).wp P Q a w :=
  wp_region_any hm (wpAny_of_till _ _ _ _ h)
end
end Go.Proofs.YtcchhfkmhbjdmaaGreat
/-! L2 -/
set_option linter.unusedVariables false
set_option linter.unusedSimpArgs false
namespace Go.Proofs.YtcchhfkmhbjdmaaGreat
open Go.RowKit Go.ChangeShapes Go.WideShapes

/-- The slice at A of l.length elements holds l, 'size' cells an element. -/
def SlR {α : Type} (w : World) (A : Option Addr) (size : Nat) (f : α → List Value) (l : List α) : Prop :=
  ∀ i x, l[i]? = some x → ∃ b off, A = some ⟨b, off, none⟩ ∧ w.rangeAt b (off + i * size) (f x)
theorem SlR.fr {α : Type} {w w' : World} {A : Option Addr} {size : Nat} {f : α → List Value} {l : List α} {F : Nat → Prop} (h : SlR w A size f l) (hf : Fr F w w') (hF : ∀ b off, A = some ⟨b, off, none⟩ → ¬ F b) : SlR w' A size f l := fun i x hx => by
  obtain ⟨b, off, rfl, hr⟩ := h i x hx
  exact ⟨b, off, rfl, fun j v hj => hf.cell (hr j v hj) (hF b off rfl)⟩
theorem SlR.frF {α : Type} {w w' : World} {A : Option Addr} {size : Nat} {f : α → List Value} {l : List α} (h : SlR w A size f l) (hf : Fr (fun _ => False) w w') : SlR w' A size f l := h.fr hf (fun _ _ _ => id)

section
variable {H : Type} {enc : TypeId × Value → H} {P : Program} {w : World}
theorem cells_range {base : Nat} {a : Addr} {n : Nat} {cs : List Value} (h : w.cells? base a n = some cs) (hn : 0 < n) : a.spot = none ∧ w.rangeAt a.block a.off cs ∧ cs.length = n := by
  obtain ⟨_, hlen, hc⟩ := World.cells?_some h
  have h0 := hc 0 hn
  have hs : a.spot = none := by
    have : a.add 0 = a := by simp [Addr.add]
    rw [this, List.getElem?_eq_getElem (by omega)] at h0
    cases hsp : a.spot with
    | none => rfl
    | some b =>
      exfalso
      simp only [World.cell?, hsp, Option.isSome_some, if_true] at h0
      split at h0 <;> cases h0
  refine ⟨hs, fun j v hj => ?_, hlen⟩
  have hjl : j < n := by have := (List.getElem?_eq_some_iff.1 hj).1; omega
  have := hc j hjl
  rw [hj] at this
  obtain ⟨b, o, sp⟩ := a
  simp at hs; subst hs
  rwa [Addr.add_mid] at this
variable (enc P w) in
/-- What cells of type t can be: f of something that meets wf. -/
def Flat (t : TypeId) {α : Type} (f : α → List Value) (wf : α → Prop) : Prop :=
  ∀ (base : Nat) (spare : Nat → Bool) (held : Bool) (fuel : Nat) (cs : List Value) (x : DataW H × List MemPlace), DataW.trod enc P w base spare held fuel t cs = some x → ∃ y, cs = f y ∧ wf y
theorem flat_int {t : TypeId} {k : IntKind} (ht : P.underlying t = some (.int k)) : Flat enc P w t (fun n : Int => [.int k n]) (fun n => (Lit.int k n).wf = true) := fun base spare held fuel cs x h => by
  obtain ⟨n, rfl, _, hw⟩ := DataW.trod_int ht h
  exact ⟨n, rfl, hw⟩
theorem flat_bool {t : TypeId} (ht : P.underlying t = some .bool) : Flat enc P w t (fun b : Bool => [.bool b]) (fun _ => True) := fun base spare held fuel cs x h => by
  obtain ⟨n, rfl, _⟩ := DataW.trod_bool ht h
  exact ⟨n, rfl, trivial⟩
theorem flat_string {t : TypeId} (ht : P.underlying t = some .string) : Flat enc P w t (fun s : ByteArray => [.string s]) (fun s => s.size ≤ maxLen) := fun base spare held fuel cs x h => by
  obtain ⟨n, rfl, _, hw⟩ := DataW.trod_string ht h
  exact ⟨n, rfl, hw⟩
/-- A field of a struct. -/
theorem flat_field {t : TypeId} {fs : Array Field} {fuel : Nat} {cs : List Value} {x : DataW H × List MemPlace} {base : Nat} {spare : Nat → Bool} {held : Bool} (ht : P.underlying t = some (.struct fs)) (h : DataW.trod enc P w base spare held fuel t cs = some x)
    {α : Type} {f : α → List Value} {wf : α → Prop} (i off : Nat) (ty : TypeId) (n : Nat) (hi : (fs[i]?).map (fun fd => (fd.offset, fd.type)) = some (off, ty)) (hc : P.cellsOf ty = n) (hf : Flat enc P w ty f wf) : ∃ y, (cs.drop off).take n = f y ∧ wf y := by
  obtain ⟨xs, m, _, rfl, hl, hlen, hx⟩ := DataW.trod_struct ht h
  obtain ⟨fd, hfd, he⟩ := Option.map_eq_some_iff.1 hi
  simp only [Prod.mk.injEq] at he
  have h1 := hx i fd hfd
  rw [List.getElem?_eq_getElem (by rw [hlen]; exact (Array.getElem?_eq_some_iff.1 hfd).1), he.1, he.2, hc] at h1
  exact hf _ _ _ _ _ _ h1
theorem struct_len {t : TypeId} {fs : Array Field} {fuel : Nat} {cs : List Value} {x : DataW H × List MemPlace} {base : Nat} {spare : Nat → Bool} {held : Bool} (ht : P.underlying t = some (.struct fs)) (h : DataW.trod enc P w base spare held fuel t cs = some x) : cs.length = P.cellsOf t := by
  obtain ⟨xs, n, _, rfl, hl, hlen, hx⟩ := DataW.trod_struct ht h
  exact hl
/-- A slice that came in. -/
theorem slice_open {t e : TypeId} {a : Option Addr} {len cap : Nat} {d : DataW H} {ps : List MemPlace} (ht : P.underlying t = some (.slice e)) {α : Type} {f : α → List Value} {wf : α → Prop} (hf : Flat enc P w e f wf) (hc : 0 < P.cellsOf e)
    {base : Nat} {spare : Nat → Bool} {held : Bool} (h : DataW.Trod enc P w base spare held t (.slice a len cap) d ps) :
    ∃ l : List α, l.length = len ∧ len ≤ cap ∧ cap ≤ maxLen ∧ SlR w a (P.cellsOf e) f l ∧ ∀ y ∈ l, wf y := by
  obtain ⟨fuel, h⟩ := h
  rcases Deep.open_slice ht (show DataW.trod enc P w base spare held fuel t [.slice a len cap] = some (d, ps) from h) with ⟨h1, _⟩ | ⟨ad, len', cap', m, n, D, Pl, h1, _, hl, hm, hmm, _, hx⟩
  · simp at h1
    obtain ⟨rfl, rfl, rfl⟩ := h1
    exact ⟨[], rfl, Nat.le_refl _, Nat.zero_le _, fun i x hx => (by simp at hx), fun y hy => by cases hy⟩
  · simp at h1
    obtain ⟨rfl, rfl, rfl⟩ := h1
    have hlm : len ≤ m := by rw [hmm]; split <;> omega
    have hex : ∀ i, i < len → ∃ y : α, w.cells? base (ad.add (i * P.cellsOf e)) (P.cellsOf e) = some (f y) ∧ wf y := fun i hi => by
      obtain ⟨cs', h2, h3⟩ := hx i (by omega)
      obtain ⟨y, rfl, hy⟩ := hf _ _ _ _ _ _ h3
      exact ⟨y, h2, hy⟩
    have hex' : ∀ k, k ≤ len → ∃ l : List α, l.length = k ∧ ∀ i y, l[i]? = some y → w.cells? base (ad.add (i * P.cellsOf e)) (P.cellsOf e) = some (f y) ∧ wf y := by
      intro k
      induction k with
      | zero => intro _; exact ⟨[], rfl, fun i y hy => by simp at hy⟩
      | succ k ih =>
        intro hk
        obtain ⟨l, hl1, hl2⟩ := ih (by omega)
        obtain ⟨y, hy⟩ := hex k (by omega)
        refine ⟨l ++ [y], by simp [hl1], fun i z hz => ?_⟩
        by_cases hi : i < l.length
        · rw [List.getElem?_append_left hi] at hz; exact hl2 i z hz
        · rw [List.getElem?_append_right (by omega)] at hz
          have : i - l.length = 0 := by
            have := (List.getElem?_eq_some_iff.1 hz).1
            simp at this; omega
          rw [this] at hz
          simp at hz; subst hz
          have : i = k := by omega
          subst this; exact hy
    obtain ⟨l, hl1, hl2⟩ := hex' len (Nat.le_refl _)
    refine ⟨l, hl1, hl, hm, fun i x hxx => ?_, fun y hy => ?_⟩
    · obtain ⟨hs, hr, _⟩ := cells_range (hl2 i x hxx).1 hc
      obtain ⟨b, o, sp⟩ := ad
      have hsp : sp = none := by
        unfold Addr.add at hs
        split at hs
        · exact hs
        · have hl0 : 0 < l.length := by have := (List.getElem?_eq_some_iff.1 hxx).1; omega
          obtain ⟨x0, hx0⟩ : ∃ x0, l[0]? = some x0 := ⟨_, List.getElem?_eq_getElem hl0⟩
          have h9 := (cells_range (hl2 0 x0 hx0).1 hc).1
          simpa [Addr.add] using h9
      subst hsp
      rw [Addr.add_mid] at hr
      exact ⟨b, o, rfl, hr⟩
    · obtain ⟨i, hi⟩ := List.getElem?_of_mem hy
      exact (hl2 i y hi).2
end
end Go.Proofs.YtcchhfkmhbjdmaaGreat
/-! L3 -/
set_option linter.unusedVariables false
namespace Go.Proofs.YtcchhfkmhbjdmaaGreat
open Go.ChangeShapes Go.WideShapes Go.ChangeAt Go.RowKit
theorem own : ownKnob Tryz.prog.godebug = none := by kernel_rfl
theorem laidOut : laidOutB Tryz.prog = true := by kernel_rfl
theorem Fr.toBelow {w w' : World} (h : Fr (fun _ => False) w w') : Below w.heap.size w w' := h.below (Nat.le_refl _) (fun _ _ => id)
theorem u8_of (n : Int) (h0 : 0 ≤ n) (h1 : n ≤ 255) : ∃ a : UInt8, n = (a.toNat : Int) := ⟨UInt8.ofNat n.toNat, by
  simp
  omega⟩
end Go.Proofs.YtcchhfkmhbjdmaaGreat
/-! Ka -/
set_option linter.unusedVariables false
set_option linter.unusedSimpArgs false
namespace Go.Proofs.YtcchhfkmhbjdmaaGreat
theorem u8_all (p : UInt8 → Bool) (h : ((List.range 256).all fun n => p (UInt8.ofNat n)) = true) (a : UInt8) : p a = true := by
  have := List.all_eq_true.mp h a.toNat (List.mem_range.mpr a.toNat_lt)
  simpa using this
theorem u8_span (P : UInt8 → Prop) (h0 : P 0) (hx : ∀ x y, P x → P y → P (x ^^^ y)) (hb : ∀ i : Fin 8, P (1 <<< UInt8.ofNat i.val)) (a : UInt8) : P a := by
  have e : a = (a &&& 1) ^^^ (a &&& 2) ^^^ (a &&& 4) ^^^ (a &&& 8) ^^^ (a &&& 16) ^^^ (a &&& 32) ^^^ (a &&& 64) ^^^ (a &&& 128) := by
    have := u8_all (fun a => a == ((a &&& 1) ^^^ (a &&& 2) ^^^ (a &&& 4) ^^^ (a &&& 8) ^^^ (a &&& 16) ^^^ (a &&& 32) ^^^ (a &&& 64) ^^^ (a &&& 128))) (by decide +kernel) a
    simpa using this
  have f : ∀ i : Fin 8, a &&& (1 <<< UInt8.ofNat i.val) = 0 ∨ a &&& (1 <<< UInt8.ofNat i.val) = 1 <<< UInt8.ofNat i.val := by
    have := u8_all (fun a => (List.finRange 8).all fun i => (a &&& (1 <<< UInt8.ofNat i.val) == 0) || (a &&& (1 <<< UInt8.ofNat i.val) == 1 <<< UInt8.ofNat i.val)) (by decide +kernel) a
    intro i
    have h1 := List.all_eq_true.mp this i (List.mem_finRange i)
    simpa using h1
  have g : ∀ i : Fin 8, P (a &&& (1 <<< UInt8.ofNat i.val)) := fun i => by
    rcases f i with h | h
    · rw [h]; exact h0
    · rw [h]; exact hb i
  rw [e]
  exact hx _ _ (hx _ _ (hx _ _ (hx _ _ (hx _ _ (hx _ _ (hx _ _ (g 0) (g 1)) (g 2)) (g 3)) (g 4)) (g 5)) (g 6)) (g 7)
/-- By x. -/
def tw (a : UInt8) : UInt8 := (a <<< 1) ^^^ ((0x1b : UInt8) * (a >>> 7))
def mulN : Nat → UInt8 → UInt8 → UInt8 → UInt8
  | 0, _, _, p => p
  | n + 1, a, b, p => mulN n (tw a) (b >>> 1) (p ^^^ a * (b &&& 1))
def mul (a b : UInt8) : UInt8 := mulN 8 a b 0
theorem bit_cases (b : UInt8) : b &&& 1 = 0 ∨ b &&& 1 = 1 := by
  have := u8_all (fun b => (b &&& 1 == 0) || (b &&& 1 == 1)) (by decide +kernel) b
  simpa using this
theorem top_cases (b : UInt8) : b >>> 7 = 0 ∨ b >>> 7 = 1 := by
  have := u8_all (fun b => (b >>> 7 == 0) || (b >>> 7 == 1)) (by decide +kernel) b
  simpa using this
theorem u8_shl_xor (a b : UInt8) : (a ^^^ b) <<< 1 = (a <<< 1) ^^^ (b <<< 1) := by
  apply UInt8.toBitVec_inj.mp
  simp [BitVec.shiftLeft_xor_distrib]
theorem u8_shr_xor (a b n : UInt8) : (a ^^^ b) >>> n = (a >>> n) ^^^ (b >>> n) := by
  apply UInt8.toBitVec_inj.mp
  simp [BitVec.ushiftRight_xor_distrib]
theorem u8_and_xor (a b c : UInt8) : (a ^^^ b) &&& c = (a &&& c) ^^^ (b &&& c) := by
  apply UInt8.toBitVec_inj.mp
  simp only [UInt8.toBitVec_and, UInt8.toBitVec_xor]
  ext i
  simp only [BitVec.getElem_and, BitVec.getElem_xor]
  generalize a.toBitVec[i] = x
  generalize b.toBitVec[i] = y
  generalize c.toBitVec[i] = z
  cases x <;> cases y <;> cases z <;> rfl
theorem tw_xor (a b : UInt8) : tw (a ^^^ b) = tw a ^^^ tw b := by
  unfold tw
  rw [u8_shl_xor, u8_shr_xor]
  have : (0x1b : UInt8) * ((a >>> 7) ^^^ (b >>> 7)) = ((0x1b : UInt8) * (a >>> 7)) ^^^ ((0x1b : UInt8) * (b >>> 7)) := by
    rcases top_cases a with h | h <;> rcases top_cases b with k | k <;> rw [h, k] <;> rfl
  rw [this]
  ac_rfl
theorem tw_zero : tw 0 = 0 := by decide
theorem mulN_acc : ∀ (n : Nat) (a b p : UInt8), mulN n a b p = p ^^^ mulN n a b 0
  | 0, a, b, p => by simp [mulN]
  | n + 1, a, b, p => by
    simp only [mulN]
    rw [mulN_acc n _ _ (p ^^^ _), mulN_acc n _ _ (0 ^^^ _)]
    simp only [UInt8.zero_xor]
    ac_rfl
theorem mulN_b0 : ∀ (n : Nat) (a p : UInt8), mulN n a 0 p = p
  | 0, _, _ => rfl
  | n + 1, a, p => by
    have : (0 : UInt8) >>> 1 = 0 := by decide
    have h2 : a * ((0 : UInt8) &&& 1) = 0 := by simp
    simp only [mulN, this, h2, UInt8.xor_zero]
    exact mulN_b0 n _ _
theorem mulN_left : ∀ (n : Nat) (a a' b : UInt8), mulN n (a ^^^ a') b 0 = mulN n a b 0 ^^^ mulN n a' b 0
  | 0, _, _, _ => by simp [mulN]
  | n + 1, a, a', b => by
    simp only [mulN]
    rw [mulN_acc n _ _ (0 ^^^ _), mulN_acc n (tw a) _ (0 ^^^ _), mulN_acc n (tw a') _ (0 ^^^ _), tw_xor, mulN_left n]
    have : (a ^^^ a') * (b &&& 1) = (a * (b &&& 1)) ^^^ (a' * (b &&& 1)) := by
      rcases bit_cases b with h | h <;> rw [h] <;> simp
    rw [this]
    simp only [UInt8.zero_xor]
    ac_rfl
theorem mulN_right : ∀ (n : Nat) (a b b' : UInt8), mulN n a (b ^^^ b') 0 = mulN n a b 0 ^^^ mulN n a b' 0
  | 0, _, _, _ => by simp [mulN]
  | n + 1, a, b, b' => by
    simp only [mulN]
    rw [mulN_acc n _ _ (0 ^^^ _), mulN_acc n (tw a) (b >>> 1) (0 ^^^ _), mulN_acc n (tw a) (b' >>> 1) (0 ^^^ _), u8_shr_xor, mulN_right n]
    have : a * ((b ^^^ b') &&& 1) = (a * (b &&& 1)) ^^^ (a * (b' &&& 1)) := by
      rw [u8_and_xor]
      rcases bit_cases b with h | h <;> rcases bit_cases b' with k | k <;> rw [h, k] <;> simp
    rw [this]
    simp only [UInt8.zero_xor]
    ac_rfl
theorem mul_left (a a' b : UInt8) : mul (a ^^^ a') b = mul a b ^^^ mul a' b := mulN_left 8 a a' b
theorem mul_right (a b b' : UInt8) : mul a (b ^^^ b') = mul a b ^^^ mul a b' := mulN_right 8 a b b'
theorem mul_zero (a : UInt8) : mul a 0 = 0 := mulN_b0 8 a 0
theorem zero_mul (a : UInt8) : mul 0 a = 0 := by
  have := mul_left 0 0 a
  simpa using this
theorem mul_comm (a b : UInt8) : mul a b = mul b a := by
  refine u8_span (fun a => mul a b = mul b a) (by rw [zero_mul, mul_zero]) (fun x y h k => by rw [mul_left, mul_right, h, k]) (fun i => ?_) a
  refine u8_span (fun b => mul (1 <<< UInt8.ofNat i.val) b = mul b (1 <<< UInt8.ofNat i.val)) (by rw [zero_mul, mul_zero]) (fun x y h k => by rw [mul_left, mul_right, h, k]) (fun j => ?_) b
  revert i j
  decide +kernel
theorem mul_assoc (a b c : UInt8) : mul (mul a b) c = mul a (mul b c) := by
  refine u8_span (fun a => mul (mul a b) c = mul a (mul b c)) (by simp only [zero_mul]) (fun x y h k => by rw [mul_left, mul_left, mul_left, h, k]) (fun i => ?_) a
  refine u8_span (fun b => mul (mul (1 <<< UInt8.ofNat i.val) b) c = mul (1 <<< UInt8.ofNat i.val) (mul b c)) (by simp only [zero_mul, mul_zero]) (fun x y h k => by rw [mul_right, mul_left, mul_left, mul_right, h, k]) (fun j => ?_) b
  refine u8_span (fun c => mul (mul (1 <<< UInt8.ofNat i.val) (1 <<< UInt8.ofNat j.val)) c = mul (1 <<< UInt8.ofNat i.val) (mul (1 <<< UInt8.ofNat j.val) c)) (by simp only [mul_zero]) (fun x y h k => by rw [mul_right, mul_right, mul_right, h, k]) (fun l => ?_) c
  revert i j l
  decide +kernel
theorem mul_one (a : UInt8) : mul a 1 = a := by
  have := u8_all (fun a => mul a 1 == a) (by decide +kernel) a
  simpa using this
/-- What undoes a byte: its power 254. -/
def sqN : Nat → UInt8 → UInt8 → UInt8
  | 0, _, c => c
  | n + 1, t, c => sqN n (mul t t) (mul c (mul t t))
def inv (a : UInt8) : UInt8 := sqN 7 a 1
theorem mul_inv (a : UInt8) (h : a ≠ 0) : mul a (inv a) = 1 := by
  have := u8_all (fun a => a == 0 || mul a (inv a) == 1) (by decide +kernel) a
  simpa [h] using this
theorem mul_eq_zero (a b : UInt8) : mul a b = 0 ↔ a = 0 ∨ b = 0 := by
  constructor
  · intro h
    by_cases ha : a = 0
    · exact .inl ha
    · right
      have h1 : mul (inv a) (mul a b) = b := by rw [← mul_assoc, mul_comm (inv a), mul_inv a ha, mul_comm, mul_one]
      rw [h, mul_zero] at h1
      exact h1.symm
  · rintro (rfl | rfl)
    · exact zero_mul b
    · exact mul_zero a
theorem mul_one_unique (a b : UInt8) (h : mul a b = 1) : a ≠ 0 ∧ b = inv a := by
  have ha : a ≠ 0 := by rintro rfl; rw [zero_mul] at h; cases h
  refine ⟨ha, ?_⟩
  have h1 : mul (inv a) (mul a b) = b := by rw [← mul_assoc, mul_comm (inv a), mul_inv a ha, mul_comm, mul_one]
  rw [h, mul_one] at h1
  exact h1.symm
/-- What is by 2 and by 3. -/
theorem mul_two (a : UInt8) : mul 2 a = tw a := by
  have := u8_all (fun a => mul 2 a == tw a) (by decide +kernel) a
  simpa using this
theorem mul_three (a : UInt8) : mul 3 a = tw a ^^^ a := by
  have := u8_all (fun a => mul 3 a == tw a ^^^ a) (by decide +kernel) a
  simpa using this
/-! ### boxes -/
def rl (q : UInt8) (k : UInt8) : UInt8 := (q <<< k) ||| (q >>> (8 - k))
def boxP (p : UInt8) : UInt8 := p ^^^ tw p
def boxQ (q : UInt8) : UInt8 :=
  let q := q ^^^ (q <<< 1)
  let q := q ^^^ (q <<< 2)
  let q := q ^^^ (q <<< 4)
  q ^^^ ((0x09 : UInt8) * (q >>> 7))
def boxA (q : UInt8) : UInt8 := q ^^^ rl q 1 ^^^ rl q 2 ^^^ rl q 3 ^^^ rl q 4 ^^^ 0x63
def boxN : Nat → UInt8 × UInt8 × List UInt8
  | 0 => (1, 1, (List.replicate 256 0).set 0 0x63)
  | n + 1 => let (p, q, l) := boxN n; (boxP p, boxQ q, l.set (boxP p).toNat (boxA (boxQ q)))
def boxT : List UInt8 := [99, 124, 119, 123, 242, 107, 111, 197, 48, 1, 103, 43, 254, 215, 171, 118, 202, 130, 201, 125, 250, 89, 71, 240, 173, 212, 162, 175, 156, 164, 114, 192, 183, 253, 147, 38, 54, 63, 247, 204, 52, 165, 229, 241, 113, 216, 49, 21, 4, 199, 35, 195, 24, 150, 5, 154, 7, 18, 128, 226, 235, 39, 178, 117, 9, 131, 44, 26, 27, 110, 90, 160, 82, 59, 214, 179, 41, 227, 47, 132, 83, 209, 0, 237, 32, 252, 177, 91, 106, 203, 190, 57, 74, 76, 88, 207, 208, 239, 170, 251, 67, 77, 51, 133, 69, 249, 2, 127, 80, 60, 159, 168, 81, 163, 64, 143, 146, 157, 56, 245, 188, 182, 218, 33, 16, 255, 243, 210, 205, 12, 19, 236, 95, 151, 68, 23, 196, 167, 126, 61, 100, 93, 25, 115, 96, 129, 79, 220, 34, 42, 144, 136, 70, 238, 184, 20, 222, 94, 11, 219, 224, 50, 58, 10, 73, 6, 36, 92, 194, 211, 172, 98, 145, 149, 228, 121, 231, 200, 55, 109, 141, 213, 78, 169, 108, 86, 244, 234, 101, 122, 174, 8, 186, 120, 37, 46, 28, 166, 180, 198, 232, 221, 116, 31, 75, 189, 139, 138, 112, 62, 181, 102, 72, 3, 246, 14, 97, 53, 87, 185, 134, 193, 29, 158, 225, 248, 152, 17, 105, 217, 142, 148, 155, 30, 135, 233, 206, 85, 40, 223, 140, 161, 137, 13, 191, 230, 66, 104, 65, 153, 45, 15, 176, 84, 187, 22]
theorem boxN_length : ∀ n, (boxN n).2.2.length = 256
  | 0 => by unfold boxN; rw [List.length_set, List.length_replicate]
  | n + 1 => by simp [boxN, boxN_length n]
theorem boxT_length : boxT.length = 256 := by decide +kernel
theorem boxN_all : (boxN 255).2.2 = boxT := by decide +kernel
def box (b : UInt8) : UInt8 := boxT.getD b.toNat 0
theorem boxT_get (b : UInt8) : boxT[b.toNat]? = some (box b) := by
  have h : b.toNat < boxT.length := by rw [boxT_length]; exact b.toNat_lt
  simp [box, List.getElem?_eq_getElem h]
/-- By definition. -/
def boxR (b : UInt8) : UInt8 := boxA (inv b)
theorem box_eq (b : UInt8) : box b = boxR b := by
  have h : boxT = (List.range 256).map fun n => boxR (UInt8.ofNat n) := by decide +kernel
  have h2 := boxT_get b
  rw [h] at h2
  have hb : b.toNat < 256 := b.toNat_lt
  simp [hb] at h2
  exact h2.symm
def unbox (c : UInt8) : UInt8 := UInt8.ofNat (boxT.idxOf c)
theorem unbox_box (b : UInt8) : unbox (box b) = b := by
  have := u8_all (fun b => unbox (box b) == b) (by decide +kernel) b
  simpa using this
theorem box_inj {a b : UInt8} (h : box a = box b) : a = b := by rw [← unbox_box a, h, unbox_box]
end Go.Proofs.YtcchhfkmhbjdmaaGreat
/-! Kb -/
set_option linter.unusedVariables false
set_option linter.unusedSimpArgs false
namespace Go.Proofs.YtcchhfkmhbjdmaaGreat
/-- Bytes, of which the first i are new. -/
def upd (f : Nat → UInt8) (s : List UInt8) (i : Nat) : List UInt8 := (List.range s.length).map fun j => if j < i then f j else s.getD j 0
def full (f : Nat → UInt8) (n : Nat) : List UInt8 := (List.range n).map f
theorem upd_length (f : Nat → UInt8) (s : List UInt8) (i : Nat) : (upd f s i).length = s.length := by simp [upd]
theorem full_length (f : Nat → UInt8) (n : Nat) : (full f n).length = n := by simp [full]
theorem upd_zero (f : Nat → UInt8) (s : List UInt8) : upd f s 0 = s := by
  apply List.ext_getElem (by simp [upd])
  intro j h1 h2
  simp [upd, List.getElem?_eq_getElem h2]
theorem upd_all (f : Nat → UInt8) (s : List UInt8) (n : Nat) (h : s.length = n) : upd f s n = full f n := by
  subst h
  unfold upd full
  apply List.map_congr_left
  intro j hj
  rw [if_pos (List.mem_range.mp hj)]
theorem upd_get (f : Nat → UInt8) (s : List UInt8) (i j : Nat) (h : j < s.length) : (upd f s i)[j]? = some (if j < i then f j else s.getD j 0) := by
  simp [upd, h]
theorem full_get (f : Nat → UInt8) (n j : Nat) (h : j < n) : (full f n)[j]? = some (f j) := by simp [full, h]
theorem full_getD (f : Nat → UInt8) (n j : Nat) (h : j < n) : (full f n).getD j 0 = f j := by
  rw [List.getD_eq_getElem?_getD, full_get f n j h]; rfl
theorem upd_set (f : Nat → UInt8) (s : List UInt8) (i : Nat) (h : i < s.length) : (upd f s i).set i (f i) = upd f s (i + 1) := by
  apply List.ext_getElem (by simp [upd])
  intro j h1 h2
  rw [List.getElem_set]
  simp only [upd, List.getElem_map, List.getElem_range]
  by_cases e : i = j
  · subst e; simp
  · rw [if_neg e]
    by_cases hl : j < i
    · rw [if_pos hl, if_pos (by omega)]
    · rw [if_neg hl, if_neg (by omega)]
theorem full_congr {f g : Nat → UInt8} {n : Nat} (h : full f n = full g n) {j : Nat} (hj : j < n) : f j = g j := by
  have := congrArg (fun l => l[j]?) h
  simpa [full_get _ _ _ hj] using this
theorem list16_ext {s t : List UInt8} {n : Nat} (hs : s.length = n) (ht : t.length = n) (h : ∀ j, j < n → s.getD j 0 = t.getD j 0) : s = t := by
  apply List.ext_getElem (by omega)
  intro j h1 h2
  have := h j (by omega)
  simpa [List.getElem?_eq_getElem h1, List.getElem?_eq_getElem h2] using this
/-! ### rounds -/
def addF (W : List UInt8) (r : Nat) (s : List UInt8) (i : Nat) : UInt8 := s.getD i 0 ^^^ W.getD (16 * r + i) 0
def addL (W : List UInt8) (r : Nat) (s : List UInt8) : List UInt8 := full (addF W r s) 16
def shiftF (s : List UInt8) (i : Nat) : UInt8 := box (s.getD ((i + 4 * (i % 4)) % 16) 0)
def shiftL (s : List UInt8) : List UInt8 := full (shiftF s) 16
def mixC (a0 a1 a2 a3 x y : UInt8) : UInt8 := x ^^^ ((a0 ^^^ a1 ^^^ a2 ^^^ a3) ^^^ tw (x ^^^ y))
def mixF (s : List UInt8) (j : Nat) : UInt8 :=
  mixC (s.getD (4 * (j / 4)) 0) (s.getD (4 * (j / 4) + 1) 0) (s.getD (4 * (j / 4) + 2) 0) (s.getD (4 * (j / 4) + 3) 0) (s.getD j 0) (s.getD (4 * (j / 4) + (j % 4 + 1) % 4) 0)
def mixL (s : List UInt8) : List UInt8 := full (mixF s) 16
def pressN (W : List UInt8) (s : List UInt8) : Nat → List UInt8
  | 0 => addL W 0 s
  | r + 1 => addL W (r + 1) (mixL (shiftL (pressN W s r)))
def press (W : List UInt8) (s : List UInt8) : List UInt8 := addL W 14 (shiftL (pressN W s 13))
theorem pressN_length (W s : List UInt8) : ∀ n, (pressN W s n).length = 16
  | 0 => full_length _ _
  | n + 1 => full_length _ _
theorem press_length (W s : List UInt8) : (press W s).length = 16 := full_length _ _
theorem add_inj {W : List UInt8} {r : Nat} {s t : List UInt8} (hs : s.length = 16) (ht : t.length = 16) (h : addL W r s = addL W r t) : s = t := by
  refine list16_ext hs ht fun j hj => ?_
  have := full_congr h hj
  unfold addF at this
  have h2 := congrArg (fun x => x ^^^ W.getD (16 * r + j) 0) this
  simpa [UInt8.xor_assoc] using h2
theorem shift_inj {s t : List UInt8} (hs : s.length = 16) (ht : t.length = 16) (h : shiftL s = shiftL t) : s = t := by
  refine list16_ext hs ht fun j hj => ?_
  obtain ⟨i, hi, e⟩ : ∃ i, i < 16 ∧ (i + 4 * (i % 4)) % 16 = j := ⟨(j + 12 * (j % 4)) % 16, by omega, by omega⟩
  have := full_congr h hi
  unfold shiftF at this
  rw [e] at this
  exact box_inj this
theorem xor_left_cancel' (a b : UInt8) : a ^^^ (a ^^^ b) = b := by rw [← UInt8.xor_assoc, UInt8.xor_self, UInt8.zero_xor]
theorem xor_lc (a b c : UInt8) : a ^^^ (b ^^^ c) = b ^^^ (a ^^^ c) := by rw [← UInt8.xor_assoc, UInt8.xor_comm a b, UInt8.xor_assoc]
theorem xcancel {a b c : UInt8} (h : a ^^^ c = b ^^^ c) : a = b := by
  have := congrArg (fun x => x ^^^ c) h
  simpa [UInt8.xor_assoc] using this
theorem mix_sum (a0 a1 a2 a3 S : UInt8) : (a0 ^^^ (S ^^^ tw (a0 ^^^ a1))) ^^^ (a1 ^^^ (S ^^^ tw (a1 ^^^ a2))) ^^^ (a2 ^^^ (S ^^^ tw (a2 ^^^ a3))) ^^^ (a3 ^^^ (S ^^^ tw (a3 ^^^ a0))) = a0 ^^^ a1 ^^^ a2 ^^^ a3 := by
  simp only [tw_xor]
  generalize tw a0 = t0
  generalize tw a1 = t1
  generalize tw a2 = t2
  generalize tw a3 = t3
  simp only [UInt8.xor_assoc, UInt8.xor_comm, xor_lc, xor_left_cancel', UInt8.xor_self, UInt8.xor_zero, UInt8.zero_xor]
theorem mix_two (a0 a1 a2 a3 S : UInt8) : (a0 ^^^ (S ^^^ tw (a0 ^^^ a1))) ^^^ (a2 ^^^ (S ^^^ tw (a2 ^^^ a3))) = (a0 ^^^ a2) ^^^ tw (a0 ^^^ a1 ^^^ a2 ^^^ a3) := by
  simp only [tw_xor]
  simp only [UInt8.xor_assoc, UInt8.xor_comm, xor_lc, xor_left_cancel', UInt8.xor_self, UInt8.xor_zero, UInt8.zero_xor]
theorem mix_one (a0 a1 a2 S : UInt8) : (a0 ^^^ (S ^^^ tw (a0 ^^^ a1))) ^^^ (a1 ^^^ (S ^^^ tw (a1 ^^^ a2))) = (a0 ^^^ a1) ^^^ tw (a0 ^^^ a2) := by
  simp only [tw_xor]
  simp only [UInt8.xor_assoc, UInt8.xor_comm, xor_lc, xor_left_cancel', UInt8.xor_self, UInt8.xor_zero, UInt8.zero_xor]
theorem mix_inj4 {a0 a1 a2 a3 b0 b1 b2 b3 : UInt8} (h0 : mixC a0 a1 a2 a3 a0 a1 = mixC b0 b1 b2 b3 b0 b1) (h1 : mixC a0 a1 a2 a3 a1 a2 = mixC b0 b1 b2 b3 b1 b2)
    (h2 : mixC a0 a1 a2 a3 a2 a3 = mixC b0 b1 b2 b3 b2 b3) (h3 : mixC a0 a1 a2 a3 a3 a0 = mixC b0 b1 b2 b3 b3 b0) : a0 = b0 ∧ a1 = b1 ∧ a2 = b2 ∧ a3 = b3 := by
  unfold mixC at h0 h1 h2 h3
  have hS : a0 ^^^ a1 ^^^ a2 ^^^ a3 = b0 ^^^ b1 ^^^ b2 ^^^ b3 := by
    rw [← mix_sum a0 a1 a2 a3 (a0 ^^^ a1 ^^^ a2 ^^^ a3), h0, h1, h2, h3, mix_sum]
  rw [hS] at h0 h1 h2 h3
  have hP : a0 ^^^ a2 = b0 ^^^ b2 := by
    have e := mix_two a0 a1 a2 a3 (b0 ^^^ b1 ^^^ b2 ^^^ b3)
    rw [h0, h2, mix_two, hS] at e
    exact (xcancel e).symm
  have hR : a0 ^^^ a1 = b0 ^^^ b1 := by
    have e := mix_one a0 a1 a2 (b0 ^^^ b1 ^^^ b2 ^^^ b3)
    rw [h0, h1, mix_one, hP] at e
    exact (xcancel e).symm
  have g0 : a0 = b0 := by rw [hR] at h0; exact xcancel h0
  have g1 : a1 = b1 := by rw [g0, UInt8.xor_comm b0 a1, UInt8.xor_comm b0 b1] at hR; exact xcancel hR
  have g2 : a2 = b2 := by rw [g0, UInt8.xor_comm b0 a2, UInt8.xor_comm b0 b2] at hP; exact xcancel hP
  refine ⟨g0, g1, g2, ?_⟩
  rw [g0, g1, g2, UInt8.xor_comm _ a3, UInt8.xor_comm _ b3] at hS
  exact xcancel hS
theorem mix_col {s t : List UInt8} (h : mixL s = mixL t) (c k : Nat) (hc : c < 4) (hk : k < 4) : mixF s (4 * c + k) = mixF t (4 * c + k) := full_congr h (by omega)
theorem mix_inj {s t : List UInt8} (hs : s.length = 16) (ht : t.length = 16) (h : mixL s = mixL t) : s = t := by
  have key : ∀ c, c < 4 → ∀ u : List UInt8, mixF u (4 * c + 0) = mixC (u.getD (4 * c) 0) (u.getD (4 * c + 1) 0) (u.getD (4 * c + 2) 0) (u.getD (4 * c + 3) 0) (u.getD (4 * c) 0) (u.getD (4 * c + 1) 0) ∧
      mixF u (4 * c + 1) = mixC (u.getD (4 * c) 0) (u.getD (4 * c + 1) 0) (u.getD (4 * c + 2) 0) (u.getD (4 * c + 3) 0) (u.getD (4 * c + 1) 0) (u.getD (4 * c + 2) 0) ∧
      mixF u (4 * c + 2) = mixC (u.getD (4 * c) 0) (u.getD (4 * c + 1) 0) (u.getD (4 * c + 2) 0) (u.getD (4 * c + 3) 0) (u.getD (4 * c + 2) 0) (u.getD (4 * c + 3) 0) ∧
      mixF u (4 * c + 3) = mixC (u.getD (4 * c) 0) (u.getD (4 * c + 1) 0) (u.getD (4 * c + 2) 0) (u.getD (4 * c + 3) 0) (u.getD (4 * c + 3) 0) (u.getD (4 * c) 0) := by
    intro c hc u
    refine ⟨?_, ?_, ?_, ?_⟩ <;> unfold mixF
    · rw [show (4 * c + 0) / 4 = c by omega, show (4 * c + 0) % 4 = 0 by omega]; rfl
    · rw [show (4 * c + 1) / 4 = c by omega, show (4 * c + 1) % 4 = 1 by omega]
    · rw [show (4 * c + 2) / 4 = c by omega, show (4 * c + 2) % 4 = 2 by omega]
    · rw [show (4 * c + 3) / 4 = c by omega, show (4 * c + 3) % 4 = 3 by omega]; rfl
  have col : ∀ c, c < 4 → s.getD (4 * c) 0 = t.getD (4 * c) 0 ∧ s.getD (4 * c + 1) 0 = t.getD (4 * c + 1) 0 ∧ s.getD (4 * c + 2) 0 = t.getD (4 * c + 2) 0 ∧ s.getD (4 * c + 3) 0 = t.getD (4 * c + 3) 0 := by
    intro c hc
    obtain ⟨s0, s1, s2, s3⟩ := key c hc s
    obtain ⟨t0, t1, t2, t3⟩ := key c hc t
    have h0 := mix_col h c 0 hc (by omega)
    have h1 := mix_col h c 1 hc (by omega)
    have h2 := mix_col h c 2 hc (by omega)
    have h3 := mix_col h c 3 hc (by omega)
    rw [s0, t0] at h0
    rw [s1, t1] at h1
    rw [s2, t2] at h2
    rw [s3, t3] at h3
    generalize s.getD (4 * c) 0 = a0 at *
    generalize s.getD (4 * c + 1) 0 = a1 at *
    generalize s.getD (4 * c + 2) 0 = a2 at *
    generalize s.getD (4 * c + 3) 0 = a3 at *
    generalize t.getD (4 * c) 0 = b0 at *
    generalize t.getD (4 * c + 1) 0 = b1 at *
    generalize t.getD (4 * c + 2) 0 = b2 at *
    generalize t.getD (4 * c + 3) 0 = b3 at *
    exact mix_inj4 h0 h1 h2 h3
  refine list16_ext hs ht fun j hj => ?_
  obtain ⟨c0, c1, c2, c3⟩ := col (j / 4) (by omega)
  have e : j = 4 * (j / 4) ∨ j = 4 * (j / 4) + 1 ∨ j = 4 * (j / 4) + 2 ∨ j = 4 * (j / 4) + 3 := by omega
  rcases e with e | e | e | e <;> rw [e] <;> assumption
theorem pressN_inj {W s t : List UInt8} (hs : s.length = 16) (ht : t.length = 16) : ∀ n, pressN W s n = pressN W t n → s = t
  | 0, h => add_inj hs ht h
  | n + 1, h => pressN_inj hs ht n (shift_inj (pressN_length _ _ _) (pressN_length _ _ _) (mix_inj (full_length _ _) (full_length _ _) (add_inj (full_length _ _) (full_length _ _) h)))
theorem press_inj {W s t : List UInt8} (hs : s.length = 16) (ht : t.length = 16) (h : press W s = press W t) : s = t :=
  pressN_inj hs ht 13 (shift_inj (pressN_length _ _ _) (pressN_length _ _ _) (add_inj (full_length _ _) (full_length _ _) h))
/-! ### the key's words -/
def powN : Nat → UInt8
  | 0 => 1
  | n + 1 => tw (powN n)
def wordT (w : List UInt8) (i : Nat) (k : Nat) : UInt8 :=
  if i % 8 = 0 then (if k = 0 then box (w.getD (4 * i - 3) 0) ^^^ powN ((i - 1) / 8) else box (w.getD (4 * i - 4 + (k + 1) % 4) 0))
  else if i % 8 = 4 then box (w.getD (4 * i - 4 + k) 0) else w.getD (4 * i - 4 + k) 0
def wordF (w : List UInt8) (i : Nat) (k : Nat) : UInt8 := w.getD (4 * i - 32 + k) 0 ^^^ wordT w i k
def words (key : List UInt8) : Nat → List UInt8
  | 0 => key
  | n + 1 => words key n ++ full (wordF (words key n) (n + 8)) 4
theorem words_length (key : List UInt8) (h : key.length = 32) : ∀ n, (words key n).length = 4 * (n + 8)
  | 0 => by simp [words, h]
  | n + 1 => by simp [words, words_length key h n, full_length]; omega
end Go.Proofs.YtcchhfkmhbjdmaaGreat
/-! Kc -/
set_option linter.unusedVariables false
set_option linter.unusedSimpArgs false
namespace Go.Proofs.YtcchhfkmhbjdmaaGreat
def kaKey : List UInt8 := [0, 1, 2, 3, 4, 5, 6, 7, 8, 9, 10, 11, 12, 13, 14, 15, 16, 17, 18, 19, 20, 21, 22, 23, 24, 25, 26, 27, 28, 29, 30, 31]
def kaText : List UInt8 := [0, 17, 34, 51, 68, 85, 102, 119, 136, 153, 170, 187, 204, 221, 238, 255]
def kaW : List UInt8 := [0, 1, 2, 3, 4, 5, 6, 7, 8, 9, 10, 11, 12, 13, 14, 15, 16, 17, 18, 19, 20, 21, 22, 23, 24, 25, 26, 27, 28, 29, 30, 31, 165, 115, 194, 159, 161, 118, 196, 152, 169, 127, 206, 147, 165, 114, 192, 156, 22, 81, 168, 205, 2, 68, 190, 218, 26, 93, 164, 193, 6, 64, 186, 222, 174, 135, 223, 240, 15, 241, 27, 104, 166, 142, 213, 251, 3, 252, 21, 103, 109, 225, 241, 72, 111, 165, 79, 146, 117, 248, 235, 83, 115, 184, 81, 141, 198, 86, 130, 127, 201, 167, 153, 23, 111, 41, 76, 236, 108, 213, 89, 139, 61, 226, 58, 117, 82, 71, 117, 231, 39, 191, 158, 180, 84, 7, 207, 57, 11, 220, 144, 95, 194, 123, 9, 72, 173, 82, 69, 164, 193, 135, 28, 47, 69, 245, 166, 96, 23, 178, 211, 135, 48, 13, 77, 51, 100, 10, 130, 10, 124, 207, 247, 28, 190, 180, 254, 84, 19, 230, 187, 240, 210, 97, 167, 223, 240, 26, 250, 254, 231, 168, 41, 121, 215, 165, 100, 74, 179, 175, 230, 64, 37, 65, 254, 113, 155, 245, 0, 37, 136, 19, 187, 213, 90, 114, 28, 10, 78, 90, 102, 153, 169, 242, 79, 224, 126, 87, 43, 170, 205, 248, 205, 234, 36, 252, 121, 204, 191, 9, 121, 233, 55, 26, 194, 60, 109, 104, 222, 54]
theorem kaw4 : words kaKey 4 = [0, 1, 2, 3, 4, 5, 6, 7, 8, 9, 10, 11, 12, 13, 14, 15, 16, 17, 18, 19, 20, 21, 22, 23, 24, 25, 26, 27, 28, 29, 30, 31, 165, 115, 194, 159, 161, 118, 196, 152, 169, 127, 206, 147, 165, 114, 192, 156] := by
  rw [show words kaKey 4 = words kaKey (0 + 4) from rfl]; decide +kernel
theorem kaw8 : words kaKey 8 = [0, 1, 2, 3, 4, 5, 6, 7, 8, 9, 10, 11, 12, 13, 14, 15, 16, 17, 18, 19, 20, 21, 22, 23, 24, 25, 26, 27, 28, 29, 30, 31, 165, 115, 194, 159, 161, 118, 196, 152, 169, 127, 206, 147, 165, 114, 192, 156, 22, 81, 168, 205, 2, 68, 190, 218, 26, 93, 164, 193, 6, 64, 186, 222] := by
  rw [show words kaKey 8 = words kaKey (4 + 4) from rfl]; simp only [words, kaw4]; decide +kernel
theorem kaw12 : words kaKey 12 = [0, 1, 2, 3, 4, 5, 6, 7, 8, 9, 10, 11, 12, 13, 14, 15, 16, 17, 18, 19, 20, 21, 22, 23, 24, 25, 26, 27, 28, 29, 30, 31, 165, 115, 194, 159, 161, 118, 196, 152, 169, 127, 206, 147, 165, 114, 192, 156, 22, 81, 168, 205, 2, 68, 190, 218, 26, 93, 164, 193, 6, 64, 186, 222, 174, 135, 223, 240, 15, 241, 27, 104, 166, 142, 213, 251, 3, 252, 21, 103] := by
  rw [show words kaKey 12 = words kaKey (8 + 4) from rfl]; simp only [words, kaw8]; decide +kernel
theorem kaw16 : words kaKey 16 = [0, 1, 2, 3, 4, 5, 6, 7, 8, 9, 10, 11, 12, 13, 14, 15, 16, 17, 18, 19, 20, 21, 22, 23, 24, 25, 26, 27, 28, 29, 30, 31, 165, 115, 194, 159, 161, 118, 196, 152, 169, 127, 206, 147, 165, 114, 192, 156, 22, 81, 168, 205, 2, 68, 190, 218, 26, 93, 164, 193, 6, 64, 186, 222, 174, 135, 223, 240, 15, 241, 27, 104, 166, 142, 213, 251, 3, 252, 21, 103, 109, 225, 241, 72, 111, 165, 79, 146, 117, 248, 235, 83, 115, 184, 81, 141] := by
  rw [show words kaKey 16 = words kaKey (12 + 4) from rfl]; simp only [words, kaw12]; decide +kernel
theorem kaw20 : words kaKey 20 = [0, 1, 2, 3, 4, 5, 6, 7, 8, 9, 10, 11, 12, 13, 14, 15, 16, 17, 18, 19, 20, 21, 22, 23, 24, 25, 26, 27, 28, 29, 30, 31, 165, 115, 194, 159, 161, 118, 196, 152, 169, 127, 206, 147, 165, 114, 192, 156, 22, 81, 168, 205, 2, 68, 190, 218, 26, 93, 164, 193, 6, 64, 186, 222, 174, 135, 223, 240, 15, 241, 27, 104, 166, 142, 213, 251, 3, 252, 21, 103, 109, 225, 241, 72, 111, 165, 79, 146, 117, 248, 235, 83, 115, 184, 81, 141, 198, 86, 130, 127, 201, 167, 153, 23, 111, 41, 76, 236, 108, 213, 89, 139] := by
  rw [show words kaKey 20 = words kaKey (16 + 4) from rfl]; simp only [words, kaw16]; decide +kernel
theorem kaw24 : words kaKey 24 = [0, 1, 2, 3, 4, 5, 6, 7, 8, 9, 10, 11, 12, 13, 14, 15, 16, 17, 18, 19, 20, 21, 22, 23, 24, 25, 26, 27, 28, 29, 30, 31, 165, 115, 194, 159, 161, 118, 196, 152, 169, 127, 206, 147, 165, 114, 192, 156, 22, 81, 168, 205, 2, 68, 190, 218, 26, 93, 164, 193, 6, 64, 186, 222, 174, 135, 223, 240, 15, 241, 27, 104, 166, 142, 213, 251, 3, 252, 21, 103, 109, 225, 241, 72, 111, 165, 79, 146, 117, 248, 235, 83, 115, 184, 81, 141, 198, 86, 130, 127, 201, 167, 153, 23, 111, 41, 76, 236, 108, 213, 89, 139, 61, 226, 58, 117, 82, 71, 117, 231, 39, 191, 158, 180, 84, 7, 207, 57] := by
  rw [show words kaKey 24 = words kaKey (20 + 4) from rfl]; simp only [words, kaw20]; decide +kernel
theorem kaw28 : words kaKey 28 = [0, 1, 2, 3, 4, 5, 6, 7, 8, 9, 10, 11, 12, 13, 14, 15, 16, 17, 18, 19, 20, 21, 22, 23, 24, 25, 26, 27, 28, 29, 30, 31, 165, 115, 194, 159, 161, 118, 196, 152, 169, 127, 206, 147, 165, 114, 192, 156, 22, 81, 168, 205, 2, 68, 190, 218, 26, 93, 164, 193, 6, 64, 186, 222, 174, 135, 223, 240, 15, 241, 27, 104, 166, 142, 213, 251, 3, 252, 21, 103, 109, 225, 241, 72, 111, 165, 79, 146, 117, 248, 235, 83, 115, 184, 81, 141, 198, 86, 130, 127, 201, 167, 153, 23, 111, 41, 76, 236, 108, 213, 89, 139, 61, 226, 58, 117, 82, 71, 117, 231, 39, 191, 158, 180, 84, 7, 207, 57, 11, 220, 144, 95, 194, 123, 9, 72, 173, 82, 69, 164, 193, 135, 28, 47] := by
  rw [show words kaKey 28 = words kaKey (24 + 4) from rfl]; simp only [words, kaw24]; decide +kernel
theorem kaw32 : words kaKey 32 = [0, 1, 2, 3, 4, 5, 6, 7, 8, 9, 10, 11, 12, 13, 14, 15, 16, 17, 18, 19, 20, 21, 22, 23, 24, 25, 26, 27, 28, 29, 30, 31, 165, 115, 194, 159, 161, 118, 196, 152, 169, 127, 206, 147, 165, 114, 192, 156, 22, 81, 168, 205, 2, 68, 190, 218, 26, 93, 164, 193, 6, 64, 186, 222, 174, 135, 223, 240, 15, 241, 27, 104, 166, 142, 213, 251, 3, 252, 21, 103, 109, 225, 241, 72, 111, 165, 79, 146, 117, 248, 235, 83, 115, 184, 81, 141, 198, 86, 130, 127, 201, 167, 153, 23, 111, 41, 76, 236, 108, 213, 89, 139, 61, 226, 58, 117, 82, 71, 117, 231, 39, 191, 158, 180, 84, 7, 207, 57, 11, 220, 144, 95, 194, 123, 9, 72, 173, 82, 69, 164, 193, 135, 28, 47, 69, 245, 166, 96, 23, 178, 211, 135, 48, 13, 77, 51, 100, 10, 130, 10] := by
  rw [show words kaKey 32 = words kaKey (28 + 4) from rfl]; simp only [words, kaw28]; decide +kernel
theorem kaw36 : words kaKey 36 = [0, 1, 2, 3, 4, 5, 6, 7, 8, 9, 10, 11, 12, 13, 14, 15, 16, 17, 18, 19, 20, 21, 22, 23, 24, 25, 26, 27, 28, 29, 30, 31, 165, 115, 194, 159, 161, 118, 196, 152, 169, 127, 206, 147, 165, 114, 192, 156, 22, 81, 168, 205, 2, 68, 190, 218, 26, 93, 164, 193, 6, 64, 186, 222, 174, 135, 223, 240, 15, 241, 27, 104, 166, 142, 213, 251, 3, 252, 21, 103, 109, 225, 241, 72, 111, 165, 79, 146, 117, 248, 235, 83, 115, 184, 81, 141, 198, 86, 130, 127, 201, 167, 153, 23, 111, 41, 76, 236, 108, 213, 89, 139, 61, 226, 58, 117, 82, 71, 117, 231, 39, 191, 158, 180, 84, 7, 207, 57, 11, 220, 144, 95, 194, 123, 9, 72, 173, 82, 69, 164, 193, 135, 28, 47, 69, 245, 166, 96, 23, 178, 211, 135, 48, 13, 77, 51, 100, 10, 130, 10, 124, 207, 247, 28, 190, 180, 254, 84, 19, 230, 187, 240, 210, 97, 167, 223] := by
  rw [show words kaKey 36 = words kaKey (32 + 4) from rfl]; simp only [words, kaw32]; decide +kernel
theorem kaw40 : words kaKey 40 = [0, 1, 2, 3, 4, 5, 6, 7, 8, 9, 10, 11, 12, 13, 14, 15, 16, 17, 18, 19, 20, 21, 22, 23, 24, 25, 26, 27, 28, 29, 30, 31, 165, 115, 194, 159, 161, 118, 196, 152, 169, 127, 206, 147, 165, 114, 192, 156, 22, 81, 168, 205, 2, 68, 190, 218, 26, 93, 164, 193, 6, 64, 186, 222, 174, 135, 223, 240, 15, 241, 27, 104, 166, 142, 213, 251, 3, 252, 21, 103, 109, 225, 241, 72, 111, 165, 79, 146, 117, 248, 235, 83, 115, 184, 81, 141, 198, 86, 130, 127, 201, 167, 153, 23, 111, 41, 76, 236, 108, 213, 89, 139, 61, 226, 58, 117, 82, 71, 117, 231, 39, 191, 158, 180, 84, 7, 207, 57, 11, 220, 144, 95, 194, 123, 9, 72, 173, 82, 69, 164, 193, 135, 28, 47, 69, 245, 166, 96, 23, 178, 211, 135, 48, 13, 77, 51, 100, 10, 130, 10, 124, 207, 247, 28, 190, 180, 254, 84, 19, 230, 187, 240, 210, 97, 167, 223, 240, 26, 250, 254, 231, 168, 41, 121, 215, 165, 100, 74, 179, 175, 230, 64] := by
  rw [show words kaKey 40 = words kaKey (36 + 4) from rfl]; simp only [words, kaw36]; decide +kernel
theorem kaw44 : words kaKey 44 = [0, 1, 2, 3, 4, 5, 6, 7, 8, 9, 10, 11, 12, 13, 14, 15, 16, 17, 18, 19, 20, 21, 22, 23, 24, 25, 26, 27, 28, 29, 30, 31, 165, 115, 194, 159, 161, 118, 196, 152, 169, 127, 206, 147, 165, 114, 192, 156, 22, 81, 168, 205, 2, 68, 190, 218, 26, 93, 164, 193, 6, 64, 186, 222, 174, 135, 223, 240, 15, 241, 27, 104, 166, 142, 213, 251, 3, 252, 21, 103, 109, 225, 241, 72, 111, 165, 79, 146, 117, 248, 235, 83, 115, 184, 81, 141, 198, 86, 130, 127, 201, 167, 153, 23, 111, 41, 76, 236, 108, 213, 89, 139, 61, 226, 58, 117, 82, 71, 117, 231, 39, 191, 158, 180, 84, 7, 207, 57, 11, 220, 144, 95, 194, 123, 9, 72, 173, 82, 69, 164, 193, 135, 28, 47, 69, 245, 166, 96, 23, 178, 211, 135, 48, 13, 77, 51, 100, 10, 130, 10, 124, 207, 247, 28, 190, 180, 254, 84, 19, 230, 187, 240, 210, 97, 167, 223, 240, 26, 250, 254, 231, 168, 41, 121, 215, 165, 100, 74, 179, 175, 230, 64, 37, 65, 254, 113, 155, 245, 0, 37, 136, 19, 187, 213, 90, 114, 28, 10] := by
  rw [show words kaKey 44 = words kaKey (40 + 4) from rfl]; simp only [words, kaw40]; decide +kernel
theorem kaw48 : words kaKey 48 = [0, 1, 2, 3, 4, 5, 6, 7, 8, 9, 10, 11, 12, 13, 14, 15, 16, 17, 18, 19, 20, 21, 22, 23, 24, 25, 26, 27, 28, 29, 30, 31, 165, 115, 194, 159, 161, 118, 196, 152, 169, 127, 206, 147, 165, 114, 192, 156, 22, 81, 168, 205, 2, 68, 190, 218, 26, 93, 164, 193, 6, 64, 186, 222, 174, 135, 223, 240, 15, 241, 27, 104, 166, 142, 213, 251, 3, 252, 21, 103, 109, 225, 241, 72, 111, 165, 79, 146, 117, 248, 235, 83, 115, 184, 81, 141, 198, 86, 130, 127, 201, 167, 153, 23, 111, 41, 76, 236, 108, 213, 89, 139, 61, 226, 58, 117, 82, 71, 117, 231, 39, 191, 158, 180, 84, 7, 207, 57, 11, 220, 144, 95, 194, 123, 9, 72, 173, 82, 69, 164, 193, 135, 28, 47, 69, 245, 166, 96, 23, 178, 211, 135, 48, 13, 77, 51, 100, 10, 130, 10, 124, 207, 247, 28, 190, 180, 254, 84, 19, 230, 187, 240, 210, 97, 167, 223, 240, 26, 250, 254, 231, 168, 41, 121, 215, 165, 100, 74, 179, 175, 230, 64, 37, 65, 254, 113, 155, 245, 0, 37, 136, 19, 187, 213, 90, 114, 28, 10, 78, 90, 102, 153, 169, 242, 79, 224, 126, 87, 43, 170, 205, 248, 205, 234] := by
  rw [show words kaKey 48 = words kaKey (44 + 4) from rfl]; simp only [words, kaw44]; decide +kernel
theorem kaw52 : words kaKey 52 = kaW := by
  rw [show words kaKey 52 = words kaKey (48 + 4) from rfl]; simp only [words, kaw48]; decide +kernel
theorem kap0 : pressN kaW kaText 0 = [0, 16, 32, 48, 64, 80, 96, 112, 128, 144, 160, 176, 192, 208, 224, 240] := by decide +kernel
theorem kap1 : pressN kaW kaText 1 = [79, 99, 118, 6, 67, 224, 170, 133, 239, 167, 33, 50, 1, 164, 231, 5] := by
  rw [pressN, kap0]; decide +kernel
theorem kap2 : pressN kaW kaText 2 = [24, 89, 251, 194, 138, 28, 0, 160, 120, 237, 138, 173, 196, 47, 97, 9] := by
  rw [pressN, kap1]; decide +kernel
theorem kap3 : pressN kaW kaText 3 = [151, 92, 102, 193, 203, 159, 63, 168, 169, 58, 40, 223, 142, 225, 15, 99] := by
  rw [pressN, kap2]; decide +kernel
theorem kap4 : pressN kaW kaText 4 = [28, 5, 242, 113, 164, 23, 224, 79, 249, 33, 197, 193, 4, 112, 21, 84] := by
  rw [pressN, kap3]; decide +kernel
theorem kap5 : pressN kaW kaText 5 = [195, 87, 170, 225, 27, 69, 183, 176, 162, 199, 189, 40, 168, 220, 153, 250] := by
  rw [pressN, kap4]; decide +kernel
theorem kap6 : pressN kaW kaText 6 = [127, 7, 65, 67, 203, 78, 36, 62, 193, 12, 129, 93, 131, 117, 213, 76] := by
  rw [pressN, kap5]; decide +kernel
theorem kap7 : pressN kaW kaText 7 = [214, 83, 164, 105, 108, 160, 188, 15, 90, 202, 171, 93, 185, 108, 94, 125] := by
  rw [pressN, kap6]; decide +kernel
theorem kap8 : pressN kaW kaText 8 = [90, 168, 88, 57, 95, 210, 141, 125, 5, 225, 163, 136, 104, 243, 185, 197] := by
  rw [pressN, kap7]; decide +kernel
theorem kap9 : pressN kaW kaText 9 = [74, 130, 72, 81, 197, 126, 126, 71, 100, 61, 229, 12, 42, 243, 232, 201] := by
  rw [pressN, kap8]; decide +kernel
theorem kap10 : pressN kaW kaText 10 = [193, 73, 7, 246, 202, 59, 58, 160, 112, 233, 170, 49, 59, 82, 181, 236] := by
  rw [pressN, kap9]; decide +kernel
theorem kap11 : pressN kaW kaText 11 = [95, 156, 106, 191, 186, 198, 52, 170, 80, 64, 159, 167, 102, 103, 118, 83] := by
  rw [pressN, kap10]; decide +kernel
theorem kap12 : pressN kaW kaText 12 = [81, 102, 4, 149, 67, 83, 149, 3, 20, 251, 134, 228, 1, 146, 37, 33] := by
  rw [pressN, kap11]; decide +kernel
theorem kap13 : pressN kaW kaText 13 = [98, 123, 206, 185, 153, 157, 90, 170, 201, 69, 236, 244, 35, 245, 109, 165] := by
  rw [pressN, kap12]; decide +kernel
theorem ka : press (words kaKey 52) kaText = [142, 162, 183, 202, 81, 103, 69, 191, 234, 252, 73, 144, 75, 73, 96, 137] := by
  rw [kaw52]; unfold press; rw [kap13]; decide +kernel
theorem ka_box0 : box 0 = 0x63 := by decide +kernel
theorem ka_box53 : box 0x53 = 0xed := by decide +kernel
theorem ka_mul : mul 0x57 0x83 = 0xc1 := by decide +kernel
end Go.Proofs.YtcchhfkmhbjdmaaGreat
/-! Kd -/
set_option linter.unusedVariables false
set_option linter.unusedSimpArgs false
set_option pp.deepTerms true
set_option pp.maxSteps 100000
namespace Go.Proofs.YtcchhfkmhbjdmaaGreat
open Go.RowKit
theorem xor_u8 (a b : UInt8) : bits .xor .u8 (a.toNat : Int) (b.toNat : Int) = ((a ^^^ b).toNat : Int) := by
  rw [u8_xor_nat _ _ a.toNat_lt b.toNat_lt, UInt8.toNat_xor]
theorem and_u8 (a b : UInt8) : bits .and .u8 (a.toNat : Int) (b.toNat : Int) = ((a &&& b).toNat : Int) := by
  rw [u8_and_nat _ _ a.toNat_lt b.toNat_lt, UInt8.toNat_and]
theorem or_u8 (a b : UInt8) : bits .or .u8 (a.toNat : Int) (b.toNat : Int) = ((a ||| b).toNat : Int) := by
  rw [u8_or_nat _ _ a.toNat_lt b.toNat_lt, UInt8.toNat_or]
theorem int_all (f : Int → Int) (g : UInt8 → UInt8) (h : ((List.range 256).all fun n => f ((UInt8.ofNat n).toNat : Int) == ((g (UInt8.ofNat n)).toNat : Int)) = true) (a : UInt8) : f (a.toNat : Int) = ((g a).toNat : Int) := by
  have := u8_all (fun a => f (a.toNat : Int) == ((g a).toNat : Int)) h a
  simpa using this
theorem tw_int (a : UInt8) : bits .xor .u8 ((a.toNat : Int) * 2 % 256) (27 * ((a.toNat : Int) / 128)) = ((tw a).toNat : Int) :=
  int_all (fun n => bits .xor .u8 (n * 2 % 256) (27 * (n / 128))) tw (by decide +kernel) a
theorem twice_calls (a : UInt8) (w : World) : Calls Tryz.prog 74 #[.int .u8 (a.toNat : Int)] w fun e w' => e = .returned (.int .u8 ((tw a).toNat : Int)) ∧ w = w' := by
  have ha := a.toNat_lt
  go_enter Tryz.func74, Tryz.ntmps74
  go_wp2
  go_ret
  exact ⟨by simp [tw_int], rfl⟩
theorem mul_step (n : Nat) (a b p : UInt8) : mulN (n + 1) a b p = mulN n (tw a) (b >>> 1) (p ^^^ a * (b &&& 1)) := rfl
theorem mulx_int (x y z : UInt8) : bits .xor .u8 (z.toNat : Int) ((x.toNat : Int) * bits .and .u8 (y.toNat : Int) 1 % 256) = ((z ^^^ x * (y &&& 1)).toNat : Int) := by
  have h := and_u8 y 1
  rw [show ((1 : UInt8).toNat : Int) = 1 from rfl] at h
  rw [h, ← xor_u8, UInt8.toNat_mul, Int.natCast_emod, Int.natCast_mul]
  rfl
theorem half_int (b : UInt8) : (b.toNat : Int) / (2 : Int) = ((b >>> 1).toNat : Int) := int_all (fun n => n / 2) (fun b => b >>> 1) (by decide +kernel) b
theorem half_lt (b : UInt8) (n : Nat) (h : b.toNat < 2 ^ (n + 1)) : (b >>> 1).toNat < 2 ^ n := by
  have := half_int b
  rw [Nat.pow_succ] at h
  omega
/-! ### boxes -/
theorem rot1_calls (q : UInt8) (w : World) : Calls Tryz.prog 91 #[.int .u8 (q.toNat : Int), .int .i64 1] w fun e w' => e = .returned (.int .u8 ((rl q 1).toNat : Int)) ∧ w = w' := by
  have hq := q.toNat_lt
  have hb : bits .and .u64 1 7 = 1 := by decide +kernel
  go_enter Tryz.func91, Tryz.ntmps91
  go_wp2
  go_ret
  refine ⟨?_, rfl⟩
  simpa using int_all (fun n => bits .or .u8 (n * 2 % 256) (n / 128)) (fun q => rl q 1) (by decide +kernel) q
theorem rot2_calls (q : UInt8) (w : World) : Calls Tryz.prog 91 #[.int .u8 (q.toNat : Int), .int .i64 2] w fun e w' => e = .returned (.int .u8 ((rl q 2).toNat : Int)) ∧ w = w' := by
  have hq := q.toNat_lt
  have hb : bits .and .u64 2 7 = 2 := by decide +kernel
  go_enter Tryz.func91, Tryz.ntmps91
  go_wp2
  go_ret
  refine ⟨?_, rfl⟩
  simpa using int_all (fun n => bits .or .u8 (n * 4 % 256) (n / 64)) (fun q => rl q 2) (by decide +kernel) q
theorem rot3_calls (q : UInt8) (w : World) : Calls Tryz.prog 91 #[.int .u8 (q.toNat : Int), .int .i64 3] w fun e w' => e = .returned (.int .u8 ((rl q 3).toNat : Int)) ∧ w = w' := by
  have hq := q.toNat_lt
  have hb : bits .and .u64 3 7 = 3 := by decide +kernel
  go_enter Tryz.func91, Tryz.ntmps91
  go_wp2
  go_ret
  refine ⟨?_, rfl⟩
  simpa using int_all (fun n => bits .or .u8 (n * 8 % 256) (n / 32)) (fun q => rl q 3) (by decide +kernel) q
theorem rot4_calls (q : UInt8) (w : World) : Calls Tryz.prog 91 #[.int .u8 (q.toNat : Int), .int .i64 4] w fun e w' => e = .returned (.int .u8 ((rl q 4).toNat : Int)) ∧ w = w' := by
  have hq := q.toNat_lt
  have hb : bits .and .u64 4 7 = 4 := by decide +kernel
  go_enter Tryz.func91, Tryz.ntmps91
  go_wp2
  go_ret
  refine ⟨?_, rfl⟩
  simpa using int_all (fun n => bits .or .u8 (n * 16 % 256) (n / 16)) (fun q => rl q 4) (by decide +kernel) q
end Go.Proofs.YtcchhfkmhbjdmaaGreat
/-! Ke -/
set_option linter.unusedVariables false
set_option linter.unusedSimpArgs false
set_option pp.deepTerms true
set_option pp.maxSteps 100000
namespace Go.Proofs.YtcchhfkmhbjdmaaGreat
open Go.RowKit
theorem zero89 : Tryz.zeroCells115 = (bcells (List.replicate 256 0)).toArray := by kernel_rfl
theorem zero89s : Tryz.zeroCells115.setIfInBounds 0 (.int .u8 99) = (bcells (boxN 0).2.2).toArray := by kernel_rfl
theorem sh1_int (q : UInt8) : bits .xor .u8 (q.toNat : Int) ((q.toNat : Int) * 2 % 256) = ((q ^^^ (q <<< 1)).toNat : Int) := int_all (fun n => bits .xor .u8 n (n * 2 % 256)) (fun q => q ^^^ (q <<< 1)) (by decide +kernel) q
theorem sh2_int (q : UInt8) : bits .xor .u8 (q.toNat : Int) ((q.toNat : Int) * 4 % 256) = ((q ^^^ (q <<< 2)).toNat : Int) := int_all (fun n => bits .xor .u8 n (n * 4 % 256)) (fun q => q ^^^ (q <<< 2)) (by decide +kernel) q
theorem sh4_int (q : UInt8) : bits .xor .u8 (q.toNat : Int) ((q.toNat : Int) * 16 % 256) = ((q ^^^ (q <<< 4)).toNat : Int) := int_all (fun n => bits .xor .u8 n (n * 16 % 256)) (fun q => q ^^^ (q <<< 4)) (by decide +kernel) q
theorem sh9_int (q : UInt8) : bits .xor .u8 (q.toNat : Int) (9 * ((q.toNat : Int) / 128)) = ((q ^^^ ((0x09 : UInt8) * (q >>> 7))).toNat : Int) := int_all (fun n => bits .xor .u8 n (9 * (n / 128))) (fun q => q ^^^ ((0x09 : UInt8) * (q >>> 7))) (by decide +kernel) q
theorem x63_int (q : UInt8) : bits .xor .u8 (q.toNat : Int) 99 = ((q ^^^ 0x63).toNat : Int) := int_all (fun n => bits .xor .u8 n 99) (fun q => q ^^^ 0x63) (by decide +kernel) q
theorem bcells_cell {w : World} {B : Nat} {l : List UInt8} {t : TypeId} {fr : Nat × Nat} (h : w.heap[B]? = some (.cells (bcells l).toArray t fr)) (k : Nat) (x : UInt8) (hx : l[k]? = some x) : w.cell? ⟨B, k, none⟩ = some (.int .u8 (x.toNat : Int)) := by
  rw [cell_of_row w B k _ _ _ h]
  simp [bcells, hx]
theorem bcells_set {w : World} {B : Nat} {l : List UInt8} {t : TypeId} (h : w.heap[B]? = some (.cells (bcells l).toArray t (0, 0))) (k : Nat) (x : UInt8) : (w.setCell ⟨B, k, none⟩ (.int .u8 (x.toNat : Int))).heap[B]? = some (.cells (bcells (l.set k x)).toArray t (0, 0)) := by
  rw [heap_setCell_same w B k _ _ _ h]
  simp [bcells, List.map_set]
section
variable {P : Program} {ops : Array Oper} {rest : List Oper} {op : Oper} {a : Act} {w : World} {Q : Exit → Act → World → Prop}
theorem wpList_load_bytes (hgd : op.guard = none) (ty : TypeId) (x : Operand) (ho : op.op = .load ty x) (B : Nat) (hx : a.eval x = .pointer (some ⟨B, 0, none⟩)) (t : TypeId) (l : List UInt8) (fr : Nat × Nat) (d : TypeDesc)
    (hg : w.heap[B]? = some (.cells (bcells l).toArray t fr)) (hu : P.underlying ty = some d) (hd : (match d with | .struct _ | .array _ _ => true | _ => false) = true) (n : Nat) (hi : (P.info? ty).map (·.size) = some n) (hn : l.length = n)
    (h : wpList P ops Q rest (a.put op.dst (.agg (bcells l).toArray)) w) : wpList P ops Q (op :: rest) a w :=
  wpList_load_row hgd ty x ho B hx t _ fr d hg hu hd (by rw [hi, ← hn]; simp [bcells]) h
theorem wpList_store_bytes (hgd : op.guard = none) (ty : TypeId) (x y : Operand) (ho : op.op = .store ty x y) (B : Nat) (hx : a.eval x = .pointer (some ⟨B, 0, none⟩)) (t : TypeId) (l0 l : List UInt8) (hy : a.eval y = .agg (bcells l).toArray)
    (hg : w.heap[B]? = some (.cells (bcells l0).toArray t (0, 0))) (n : Nat) (hi : (P.info? ty).map (·.size) = some n) (hn0 : l0.length = n) (hn : l.length = n)
    (h : wpList P ops Q rest (a.put op.dst undef) (w.setRow B (bcells l).toArray)) : wpList P ops Q (op :: rest) a w :=
  wpList_store_whole hgd ty x y ho B t _ _ hx hy hg (by simp [bcells]; omega) (by rw [hi, ← hn]; simp [bcells]) (by simpa using bcells_one l) h
end
theorem setRow_heap {w : World} {B : Nat} {cs0 cs : Array Value} {t : TypeId} {fr : Nat × Nat} (h : w.heap[B]? = some (.cells cs0 t fr)) : (w.setRow B cs).heap[B]? = some (.cells cs t fr) := by
  have hlt := (Array.getElem?_eq_some_iff.1 h).1
  have he := (Array.getElem?_eq_some_iff.1 h).2
  show (w.heap.modify B _)[B]? = _
  simp [Array.getElem?_modify, h]
set_option maxRecDepth 20000 in
set_option maxHeartbeats 4000000 in
theorem boxes_calls (w : World) : Calls Tryz.prog 72 #[] w fun e w' => e = .returned (.agg (bcells boxT).toArray) ∧ Fr (fun _ => False) w w' := by
  go_enter Tryz.func72, Tryz.ntmps72
  go_wp2
  have hf : Fr (fun _ => False) w ((w.alloc (.cells Tryz.zeroCells115 115)).alloc (.cells (Tryz.zeroCells115.setIfInBounds 0 (.int .u8 99)) 115)) := ((Fr.refl _ _).alloc _).alloc _
  have hR : ((w.alloc (.cells Tryz.zeroCells115 115)).alloc (.cells (Tryz.zeroCells115.setIfInBounds 0 (.int .u8 99)) 115)).heap[w.heap.size]? = some (.cells Tryz.zeroCells115 115 (0, 0)) := ((Fr.refl (fun _ => False) _).alloc _).heap (heap_alloc_new w _) id
  have hO : ((w.alloc (.cells Tryz.zeroCells115 115)).alloc (.cells (Tryz.zeroCells115.setIfInBounds 0 (.int .u8 99)) 115)).heap[w.heap.size + 1]? = some (.cells (bcells (boxN 0).2.2).toArray 115 (0, 0)) := by
    have := heap_alloc_new (w.alloc (.cells Tryz.zeroCells115 115)) (.cells (Tryz.zeroCells115.setIfInBounds 0 (.int .u8 99)) 115)
    rw [World.size_alloc] at this
    rw [this, zero89s]
  generalize (w.alloc (.cells Tryz.zeroCells115 115)).alloc (.cells (Tryz.zeroCells115.setIfInBounds 0 (.int .u8 99)) 115) = w1 at hf hR hO ⊢
  have HF := Lib.hid hf
  have HR := Lib.hid hR
  have HO := Lib.hid hO
  clear hf hR hO
  obtain ⟨R, hRd⟩ : ∃ R, R = w.heap.size := ⟨_, rfl⟩
  rw [← hRd] at HR HO ⊢
  have HRd := Lib.hid hRd
  clear hRd
  go_loopw [2, 3, 5] (fun vp vq vi wr => ∃ k : Nat, k ≤ 255 ∧ vi = .int .i64 k ∧ vp = .int .u8 ((boxN k).1.toNat : Int) ∧ vq = .int .u8 ((boxN k).2.1.toNat : Int) ∧ wr.heap[R]? = some (.cells Tryz.zeroCells115 115 (0, 0)) ∧ wr.heap[R + 1]? = some (.cells (bcells (boxN k).2.2).toArray 115 (0, 0)) ∧ Fr (fun _ => False) w wr) (fun _ _ vi _ => 255 - (intOf vi).toNat)
  case atStart => exact ⟨0, Nat.zero_le _, rfl, rfl, rfl, HR.out, HO.out, HF.out⟩
  case round =>
    obtain ⟨k, hk, rfl, rfl, rfl, hR, hO, hf⟩ := hrel
    have HRr := Lib.hid hR
    have HOr := Lib.hid hO
    have HFr := Lib.hid hf
    clear hR hO hf HR HO HF
    by_cases hlt : k < 255
    · have hN : boxN (k + 1) = (boxP (boxN k).1, boxQ (boxN k).2.1, (boxN k).2.2.set (boxP (boxN k).1).toNat (boxA (boxQ (boxN k).2.1))) := rfl
      have HN := Lib.hid hN
      have HL := Lib.hid (boxN_length k)
      clear hN
      generalize boxN k = b at HN HL HOr ⊢
      obtain ⟨p, q, l⟩ := b
      dsimp only at HN HL HOr ⊢
      have hp := xor_u8 p (tw p)
      obtain ⟨p1, hp1⟩ : ∃ p1, p1 = p ^^^ tw p := ⟨_, rfl⟩
      have h1 := sh1_int q
      obtain ⟨q1, hq1⟩ : ∃ q1, q1 = q ^^^ (q <<< 1) := ⟨_, rfl⟩
      have h2 := sh2_int q1
      obtain ⟨q2, hq2⟩ : ∃ q2, q2 = q1 ^^^ (q1 <<< 2) := ⟨_, rfl⟩
      have h3 := sh4_int q2
      obtain ⟨q3, hq3⟩ : ∃ q3, q3 = q2 ^^^ (q2 <<< 4) := ⟨_, rfl⟩
      have h4 := sh9_int q3
      obtain ⟨q4, hq4⟩ : ∃ q4, q4 = q3 ^^^ ((0x09 : UInt8) * (q3 >>> 7)) := ⟨_, rfl⟩
      rw [← hp1] at hp
      rw [← hq1] at h1
      rw [← hq2] at h2
      rw [← hq3] at h3
      rw [← hq4] at h4
      have HB := Lib.hid (show boxP p = p1 ∧ boxQ q = q4 ∧ boxA q4 = q4 ^^^ rl q4 1 ^^^ rl q4 2 ^^^ rl q4 3 ^^^ rl q4 4 ^^^ 0x63 from ⟨hp1.symm, by rw [hq4, hq3, hq2, hq1]; rfl, rfl⟩)
      clear hp1 hq1 hq2 hq3 hq4
      have hlen : p1.toNat < l.length := by have := HL.out; have := p1.toNat_lt; omega
      have hc := bcells_cell HOr.out p1.toNat l[p1.toNat] (by simp [hlen])
      have hz : wr.frozen? ⟨R + 1, p1.toNat, none⟩ = false := frozen_of_row wr (R + 1) _ _ _ HOr.out
      have b1 := p.toNat_lt
      have b2 := q.toNat_lt
      have b3 := q1.toNat_lt
      have b4 := q2.toNat_lt
      have b5 := q3.toNat_lt
      have b6 := q4.toNat_lt
      have b7 := p1.toNat_lt
      go_wp2_with (first | (go_at_call 74; with_reducible refine (twice_calls _ _).mono ?_; rintro e w' ⟨rfl, rfl⟩) | (go_at_call 91; with_reducible refine (rot1_calls _ _).mono ?_; rintro e w' ⟨rfl, rfl⟩) | (go_at_call 91; with_reducible refine (rot2_calls _ _).mono ?_; rintro e w' ⟨rfl, rfl⟩) | (go_at_call 91; with_reducible refine (rot3_calls _ _).mono ?_; rintro e w' ⟨rfl, rfl⟩) | (go_at_call 91; with_reducible refine (rot4_calls _ _).mono ?_; rintro e w' ⟨rfl, rfl⟩))
      go_roundw
      case rel =>
        rw [xor_u8, xor_u8, xor_u8, xor_u8, x63_int, ← HB.out.2.2]
        refine ⟨k + 1, by omega, by go_num, ?_, ?_, ?_, ?_, ?_⟩
        · rw [HN.out, HB.out.1]
        · rw [HN.out, HB.out.2.1]
        · rw [heap_setCell_other _ _ _ _ (by simp)]; exact HRr.out
        · rw [HN.out, HB.out.1, HB.out.2.1]; exact bcells_set HOr.out _ _
        · exact HFr.out.setCell _ _ (.inr (by have := HRd.out; simp; omega))
      case measure => simp [intOf]; omega
    · have hk255 : k = 255 := by omega
      rw [hk255] at HOr
      rw [show (boxN 255).2.2 = boxT from boxN_all] at HOr
      have HRz := Lib.hid (show wr.heap[R]? = some (.cells (bcells (List.replicate 256 0)).toArray 115 (0, 0)) by rw [← zero89]; exact HRr.out)
      go_wp2_with (first
        | (with_reducible refine wpList_load_bytes (op := ⟨some 45, _, _, _, _, _⟩) rfl 115 _ rfl (R + 1) rfl 115 boxT _ _ HOr.out Tryz.underlying115 rfl 256 (by kernel_rfl) boxT_length ?_)
        | (with_reducible refine wpList_store_bytes (op := ⟨none, .store 115 _ _, _, _, _, _⟩) rfl 115 _ _ rfl R rfl 115 _ boxT rfl HRz.out 256 (by kernel_rfl) (by simp) boxT_length ?_))
      refine bodyPost_ret (results_cell_row rfl _ _ R 115 (bcells boxT).toArray (0, 0) _ rfl (setRow_heap HRz.out) Tryz.underlying115 rfl (by rw [show (bcells boxT).toArray.size = 256 by simp [bcells_length, boxT_length]]; kernel_rfl)) rfl ?_
      exact ⟨rfl, HFr.out.setRow _ _ (.inr (by have := HRd.out; omega))⟩
end Go.Proofs.YtcchhfkmhbjdmaaGreat
