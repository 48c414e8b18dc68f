/- The digest: New, Len, Add. -/
import Derived.Test.YtcchhfkmhbjdmaaJ7
set_option linter.unusedVariables false
set_option linter.unusedSimpArgs false
set_option pp.deepTerms true
set_option pp.maxSteps 100000
namespace Go.Proofs.Ytcchhfkmhbjdmaa
open Go.RowKit
/-- A tally in memory. -/
def tcells (K : Nat) (t : Tal) : List Value := wcells t.h ++ [.string (str t.rest), .int .i64 (t.n : Int), .pointer (some ⟨K, 0, none⟩)]
structure TRep (w : World) (T K : Nat) (t : Tal) : Prop where
  row : w.heap[T]? = some (.cells (tcells K t).toArray 111 (0, 0))
  tab : w.heap[K]? = some (.cells (wcells kT ++ []).toArray 115 (0, 0))
  ne : K ≠ T
  ok : t.Ok
theorem TRep.fr {F : Nat → Prop} {w w' : World} {T K : Nat} {t : Tal} (h : TRep w T K t) (hf : Fr F w w') (hT : ¬ F T) (hK : ¬ F K) : TRep w' T K t :=
  ⟨hf.heap h.row hT, hf.heap h.tab hK, h.ne, h.ok⟩
theorem tcells_cell {w : World} {T : Nat} {hl : List UInt32} (hh : hl.length = 8) {x y z : Value} (h : w.heap[T]? = some (.cells (wcells hl ++ [x, y, z]).toArray 111 (0, 0))) :
    w.cell? ⟨T, 8, none⟩ = some x ∧ w.cell? ⟨T, 9, none⟩ = some y ∧ w.cell? ⟨T, 10, none⟩ = some z := by
  have hl8 : (wcells hl).length = 8 := by rw [wcells_length, hh]
  refine ⟨?_, ?_, ?_⟩ <;> rw [cell_of_row w T _ _ _ _ h, List.getElem?_toArray, List.getElem?_append_right (by omega), hl8] <;> rfl
theorem tcells_set8 {w : World} {T : Nat} {hl : List UInt32} (hh : hl.length = 8) {x y z : Value} (h : w.heap[T]? = some (.cells (wcells hl ++ [x, y, z]).toArray 111 (0, 0))) (v : Value) :
    (w.setCell ⟨T, 8, none⟩ v).heap[T]? = some (.cells (wcells hl ++ [v, y, z]).toArray 111 (0, 0)) := by
  have hl8 : (wcells hl).length = 8 := by rw [wcells_length, hh]
  rw [heap_setCell_same w T 8 _ _ _ h]
  simp [List.set_append, hl8]
theorem tcells_set9 {w : World} {T : Nat} {hl : List UInt32} (hh : hl.length = 8) {x y z : Value} (h : w.heap[T]? = some (.cells (wcells hl ++ [x, y, z]).toArray 111 (0, 0))) (v : Value) :
    (w.setCell ⟨T, 9, none⟩ v).heap[T]? = some (.cells (wcells hl ++ [x, v, z]).toArray 111 (0, 0)) := by
  have hl8 : (wcells hl).length = 8 := by rw [wcells_length, hh]
  rw [heap_setCell_same w T 9 _ _ _ h]
  simp [List.set_append, hl8]
theorem jstr_append (a b : List UInt8) : str a ++ str b = str (a ++ b) := by
  apply ByteArray.ext
  simp [str]
theorem jstr_take (a : List UInt8) (n : Nat) : (str a).extract 0 n = str (a.take n) := by
  apply ByteArray.ext
  simp [str]
theorem jstr_drop (a : List UInt8) (n : Nat) : (str a).extract n (str a).size = str (a.drop n) := by
  apply ByteArray.ext
  simp [str, ByteArray.size]
  exact List.take_of_length_le (by simp)
set_option maxRecDepth 100000 in
set_option maxHeartbeats 4000000 in
theorem sha_new (w : World) : Calls Try.prog 28 #[] w fun e w' => ∃ T K, e = .returned (.pointer (some ⟨T, 0, none⟩)) ∧ TRep w' T K Tal.new ∧ w.heap.size ≤ T ∧ w.heap.size ≤ K ∧ Fr (fun _ => False) w w' := by
  go_enter Try.func28, Try.ntmps28
  go_wp2
  go_ret
  refine ⟨w.heap.size + 1, w.heap.size, rfl, ⟨?_, ?_, by omega, Tal.new_ok⟩, by omega, Nat.le_refl _, ?_⟩
  · have := heap_alloc_new (w.alloc (.cells (wcells kT).toArray 115)) (.cells (tcells w.heap.size Tal.new).toArray 111)
    rw [World.size_alloc] at this
    exact this
  · rw [List.append_nil]
    exact ((Fr.refl (fun _ => False) (w.alloc (.cells (wcells kT).toArray 115))).alloc (.cells (tcells w.heap.size Tal.new).toArray 111)).heap (heap_alloc_new w _) id
  · exact ((Fr.refl _ _).alloc _).alloc _
set_option maxRecDepth 20000 in
set_option maxHeartbeats 4000000 in
theorem sha_len (T K : Nat) (t : Tal) (w : World) (h : TRep w T K t) : Calls Try.prog 32 #[.pointer (some ⟨T, 0, none⟩)] w fun e w' => e = .returned (.int .i64 (t.n : Int)) ∧ w = w' := by
  have c9 := (tcells_cell h.ok.h h.row).2.1
  clear h
  go_enter Try.func32, Try.ntmps32
  go_wp2
  go_ret
  exact ⟨rfl, rfl⟩
end Go.Proofs.Ytcchhfkmhbjdmaa
