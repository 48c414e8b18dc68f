/- The digest's small steps: contracts. -/
import Derived.Test.YtcchhfkmhbjdmaaJ0
import Derived.Test.YtcchhfkmhbjdmaaJ1
import Derived.Test.YtcchhfkmhbjdmaaKe
set_option linter.unusedVariables false
set_option linter.unusedSimpArgs false
namespace Go.Proofs.Ytcchhfkmhbjdmaa
open Go.RowKit
def wcells (l : List UInt32) : List Value := l.map fun b => .int .u32 (b.toNat : Int)
theorem wcells_length (l : List UInt32) : (wcells l).length = l.length := by simp [wcells]
theorem wcells_append (l m : List UInt32) : wcells (l ++ m) = wcells l ++ wcells m := by simp [wcells]
theorem wcells_one (l : List UInt32) : ∀ v ∈ wcells l, v.oneCell' = true := by
  intro v hv
  simp only [wcells, List.mem_map] at hv
  obtain ⟨b, _, rfl⟩ := hv
  rfl
theorem wcells_get (l : List UInt32) (k : Nat) (x : UInt32) (hx : l[k]? = some x) : (wcells l)[k]? = some (.int .u32 (x.toNat : Int)) := by simp [wcells, hx]
theorem wcells_cell {w : World} {B : Nat} {l : List UInt32} {r : List Value} {t : TypeId} {fr : Nat × Nat} (h : w.heap[B]? = some (.cells (wcells l ++ r).toArray t fr)) (k : Nat) (x : UInt32) (hx : l[k]? = some x) : w.cell? ⟨B, k, none⟩ = some (.int .u32 (x.toNat : Int)) := by
  have hk : k < l.length := (List.getElem?_eq_some_iff.1 hx).1
  rw [cell_of_row w B k _ _ _ h, List.getElem?_toArray, List.getElem?_append_left (by rw [wcells_length]; exact hk)]
  exact wcells_get l k x hx
theorem wcells_set {w : World} {B : Nat} {l : List UInt32} {r : List Value} {t : TypeId} (h : w.heap[B]? = some (.cells (wcells l ++ r).toArray t (0, 0))) (k : Nat) (hk : k < l.length) (x : UInt32) : (w.setCell ⟨B, k, none⟩ (.int .u32 (x.toNat : Int))).heap[B]? = some (.cells (wcells (l.set k x) ++ r).toArray t (0, 0)) := by
  rw [heap_setCell_same w B k _ _ _ h]
  simp only [List.setIfInBounds_toArray]
  rw [List.set_append_left _ _ (by rw [wcells_length]; exact hk)]
  simp [wcells, List.map_set]
theorem get_some32 {s : List UInt32} {n : Nat} (h : s.length = n) (k : Nat) (hk : k < n) : s[k]? = some (s.getD k 0) := by
  rw [List.getD_eq_getElem?_getD, List.getElem?_eq_getElem (by omega)]; rfl
theorem rotr2_calls (q : UInt32) (w : World) : Calls Try.prog 108 #[.int .u32 (q.toNat : Int), .int .i64 (-2)] w fun e w' => e = .returned (.int .u32 ((rr q 2).toNat : Int)) ∧ w = w' := by
  have hq := q.toNat_lt
  have hb : bits .and .u64 (IntKind.u64.wrap (-2)) 31 = 30 := by decide +kernel
  have e1 := shl_u32 q 30 (32 - 2) rfl (by omega)
  have e2 := shr_u32 q 2 2 rfl (by omega)
  have e3 := or_u32 (q <<< (32 - 2)) (q >>> 2)
  rw [← e1, ← e2] at e3
  go_enter Try.func108, Try.ntmps108
  go_wp2
  go_ret
  refine ⟨?_, rfl⟩
  rw [show rr q 2 = q <<< (32 - 2) ||| q >>> 2 from rfl, ← e3]
  simp
theorem rotr6_calls (q : UInt32) (w : World) : Calls Try.prog 108 #[.int .u32 (q.toNat : Int), .int .i64 (-6)] w fun e w' => e = .returned (.int .u32 ((rr q 6).toNat : Int)) ∧ w = w' := by
  have hq := q.toNat_lt
  have hb : bits .and .u64 (IntKind.u64.wrap (-6)) 31 = 26 := by decide +kernel
  have e1 := shl_u32 q 26 (32 - 6) rfl (by omega)
  have e2 := shr_u32 q 6 6 rfl (by omega)
  have e3 := or_u32 (q <<< (32 - 6)) (q >>> 6)
  rw [← e1, ← e2] at e3
  go_enter Try.func108, Try.ntmps108
  go_wp2
  go_ret
  refine ⟨?_, rfl⟩
  rw [show rr q 6 = q <<< (32 - 6) ||| q >>> 6 from rfl, ← e3]
  simp
theorem rotr7_calls (q : UInt32) (w : World) : Calls Try.prog 108 #[.int .u32 (q.toNat : Int), .int .i64 (-7)] w fun e w' => e = .returned (.int .u32 ((rr q 7).toNat : Int)) ∧ w = w' := by
  have hq := q.toNat_lt
  have hb : bits .and .u64 (IntKind.u64.wrap (-7)) 31 = 25 := by decide +kernel
  have e1 := shl_u32 q 25 (32 - 7) rfl (by omega)
  have e2 := shr_u32 q 7 7 rfl (by omega)
  have e3 := or_u32 (q <<< (32 - 7)) (q >>> 7)
  rw [← e1, ← e2] at e3
  go_enter Try.func108, Try.ntmps108
  go_wp2
  go_ret
  refine ⟨?_, rfl⟩
  rw [show rr q 7 = q <<< (32 - 7) ||| q >>> 7 from rfl, ← e3]
  simp
theorem rotr11_calls (q : UInt32) (w : World) : Calls Try.prog 108 #[.int .u32 (q.toNat : Int), .int .i64 (-11)] w fun e w' => e = .returned (.int .u32 ((rr q 11).toNat : Int)) ∧ w = w' := by
  have hq := q.toNat_lt
  have hb : bits .and .u64 (IntKind.u64.wrap (-11)) 31 = 21 := by decide +kernel
  have e1 := shl_u32 q 21 (32 - 11) rfl (by omega)
  have e2 := shr_u32 q 11 11 rfl (by omega)
  have e3 := or_u32 (q <<< (32 - 11)) (q >>> 11)
  rw [← e1, ← e2] at e3
  go_enter Try.func108, Try.ntmps108
  go_wp2
  go_ret
  refine ⟨?_, rfl⟩
  rw [show rr q 11 = q <<< (32 - 11) ||| q >>> 11 from rfl, ← e3]
  simp
theorem rotr13_calls (q : UInt32) (w : World) : Calls Try.prog 108 #[.int .u32 (q.toNat : Int), .int .i64 (-13)] w fun e w' => e = .returned (.int .u32 ((rr q 13).toNat : Int)) ∧ w = w' := by
  have hq := q.toNat_lt
  have hb : bits .and .u64 (IntKind.u64.wrap (-13)) 31 = 19 := by decide +kernel
  have e1 := shl_u32 q 19 (32 - 13) rfl (by omega)
  have e2 := shr_u32 q 13 13 rfl (by omega)
  have e3 := or_u32 (q <<< (32 - 13)) (q >>> 13)
  rw [← e1, ← e2] at e3
  go_enter Try.func108, Try.ntmps108
  go_wp2
  go_ret
  refine ⟨?_, rfl⟩
  rw [show rr q 13 = q <<< (32 - 13) ||| q >>> 13 from rfl, ← e3]
  simp
theorem rotr17_calls (q : UInt32) (w : World) : Calls Try.prog 108 #[.int .u32 (q.toNat : Int), .int .i64 (-17)] w fun e w' => e = .returned (.int .u32 ((rr q 17).toNat : Int)) ∧ w = w' := by
  have hq := q.toNat_lt
  have hb : bits .and .u64 (IntKind.u64.wrap (-17)) 31 = 15 := by decide +kernel
  have e1 := shl_u32 q 15 (32 - 17) rfl (by omega)
  have e2 := shr_u32 q 17 17 rfl (by omega)
  have e3 := or_u32 (q <<< (32 - 17)) (q >>> 17)
  rw [← e1, ← e2] at e3
  go_enter Try.func108, Try.ntmps108
  go_wp2
  go_ret
  refine ⟨?_, rfl⟩
  rw [show rr q 17 = q <<< (32 - 17) ||| q >>> 17 from rfl, ← e3]
  simp
theorem rotr18_calls (q : UInt32) (w : World) : Calls Try.prog 108 #[.int .u32 (q.toNat : Int), .int .i64 (-18)] w fun e w' => e = .returned (.int .u32 ((rr q 18).toNat : Int)) ∧ w = w' := by
  have hq := q.toNat_lt
  have hb : bits .and .u64 (IntKind.u64.wrap (-18)) 31 = 14 := by decide +kernel
  have e1 := shl_u32 q 14 (32 - 18) rfl (by omega)
  have e2 := shr_u32 q 18 18 rfl (by omega)
  have e3 := or_u32 (q <<< (32 - 18)) (q >>> 18)
  rw [← e1, ← e2] at e3
  go_enter Try.func108, Try.ntmps108
  go_wp2
  go_ret
  refine ⟨?_, rfl⟩
  rw [show rr q 18 = q <<< (32 - 18) ||| q >>> 18 from rfl, ← e3]
  simp
theorem rotr19_calls (q : UInt32) (w : World) : Calls Try.prog 108 #[.int .u32 (q.toNat : Int), .int .i64 (-19)] w fun e w' => e = .returned (.int .u32 ((rr q 19).toNat : Int)) ∧ w = w' := by
  have hq := q.toNat_lt
  have hb : bits .and .u64 (IntKind.u64.wrap (-19)) 31 = 13 := by decide +kernel
  have e1 := shl_u32 q 13 (32 - 19) rfl (by omega)
  have e2 := shr_u32 q 19 19 rfl (by omega)
  have e3 := or_u32 (q <<< (32 - 19)) (q >>> 19)
  rw [← e1, ← e2] at e3
  go_enter Try.func108, Try.ntmps108
  go_wp2
  go_ret
  refine ⟨?_, rfl⟩
  rw [show rr q 19 = q <<< (32 - 19) ||| q >>> 19 from rfl, ← e3]
  simp
theorem rotr22_calls (q : UInt32) (w : World) : Calls Try.prog 108 #[.int .u32 (q.toNat : Int), .int .i64 (-22)] w fun e w' => e = .returned (.int .u32 ((rr q 22).toNat : Int)) ∧ w = w' := by
  have hq := q.toNat_lt
  have hb : bits .and .u64 (IntKind.u64.wrap (-22)) 31 = 10 := by decide +kernel
  have e1 := shl_u32 q 10 (32 - 22) rfl (by omega)
  have e2 := shr_u32 q 22 22 rfl (by omega)
  have e3 := or_u32 (q <<< (32 - 22)) (q >>> 22)
  rw [← e1, ← e2] at e3
  go_enter Try.func108, Try.ntmps108
  go_wp2
  go_ret
  refine ⟨?_, rfl⟩
  rw [show rr q 22 = q <<< (32 - 22) ||| q >>> 22 from rfl, ← e3]
  simp
theorem rotr25_calls (q : UInt32) (w : World) : Calls Try.prog 108 #[.int .u32 (q.toNat : Int), .int .i64 (-25)] w fun e w' => e = .returned (.int .u32 ((rr q 25).toNat : Int)) ∧ w = w' := by
  have hq := q.toNat_lt
  have hb : bits .and .u64 (IntKind.u64.wrap (-25)) 31 = 7 := by decide +kernel
  have e1 := shl_u32 q 7 (32 - 25) rfl (by omega)
  have e2 := shr_u32 q 25 25 rfl (by omega)
  have e3 := or_u32 (q <<< (32 - 25)) (q >>> 25)
  rw [← e1, ← e2] at e3
  go_enter Try.func108, Try.ntmps108
  go_wp2
  go_ret
  refine ⟨?_, rfl⟩
  rw [show rr q 25 = q <<< (32 - 25) ||| q >>> 25 from rfl, ← e3]
  simp
end Go.Proofs.Ytcchhfkmhbjdmaa
