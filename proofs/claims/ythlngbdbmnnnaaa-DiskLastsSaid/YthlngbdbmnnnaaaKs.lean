/- The reference's Arm. -/
import Derived.Test.YthlngbdbmnnnaaaL2
import Derived.Test.YthlngbdbmnnnaaaKn
set_option linter.unusedVariables false
set_option linter.unusedSimpArgs false
namespace Go.Proofs.Ythlngbdbmnnnaaa
open Go.RowKit
set_option maxRecDepth 20000 in
set_option maxHeartbeats 2000000 in
theorem armref_yes (A0 A1 : Option Addr) (n0 c0 n1 c1 : Nat) (a k t c a' k' t' : Int) (off : Bool) (w : World) (h : a' < 1) :
    Calls Try.prog 23 #[.agg #[.slice A0 n0 c0, .slice A1 n1 c1, .int .i64 a, .int .u64 k, .int .i64 t, .int .i64 c, .bool off], .agg #[.int .i64 a', .int .u64 k', .int .i64 t']] w fun e w' => e = .returned (.agg #[.slice A0 n0 c0, .slice A1 n1 c1, .int .i64 0, .int .u64 0, .int .i64 0, .int .i64 0, .bool off]) ∧ Fr (fun _ => False) w w' := by
  have hu48 := Try.underlying48
  have hu31 := Try.underlying31
  go_enter Try.func23, Try.ntmps23
  go_wp2_with fail
  refine bodyPost_ret (results_cell_row rfl _ _ (w.heap.size + 1 + 1) 48 #[.slice A0 n0 c0, .slice A1 n1 c1, .int .i64 0, .int .u64 0, .int .i64 0, .int .i64 0, .bool off] (0, 0) _ rfl (by rw [show w.heap.size + 1 + 1 = ((w.alloc _).alloc _).heap.size by simp [World.size_alloc]]; exact heap_alloc_new _ _) Try.underlying48 rfl (by kernel_rfl)) rfl ?_
  exact ⟨rfl, (((Fr.refl _ _).alloc _).alloc _).alloc _⟩
set_option maxRecDepth 20000 in
set_option maxHeartbeats 2000000 in
theorem armref_no (A0 A1 : Option Addr) (n0 c0 n1 c1 : Nat) (a k t c a' k' t' : Int) (off : Bool) (w : World) (h : ¬ a' < 1) :
    Calls Try.prog 23 #[.agg #[.slice A0 n0 c0, .slice A1 n1 c1, .int .i64 a, .int .u64 k, .int .i64 t, .int .i64 c, .bool off], .agg #[.int .i64 a', .int .u64 k', .int .i64 t']] w fun e w' => e = .returned (.agg #[.slice A0 n0 c0, .slice A1 n1 c1, .int .i64 a', .int .u64 k', .int .i64 t', .int .i64 0, .bool off]) ∧ Fr (fun _ => False) w w' := by
  have hu48 := Try.underlying48
  have hu31 := Try.underlying31
  go_enter Try.func23, Try.ntmps23
  go_wp2_with fail
  refine bodyPost_ret (results_cell_row rfl _ _ (w.heap.size + 1 + 1) 48 #[.slice A0 n0 c0, .slice A1 n1 c1, .int .i64 a', .int .u64 k', .int .i64 t', .int .i64 0, .bool off] (0, 0) _ rfl (by rw [show w.heap.size + 1 + 1 = ((w.alloc _).alloc _).heap.size by simp [World.size_alloc]]; exact heap_alloc_new _ _) Try.underlying48 rfl (by kernel_rfl)) rfl ?_
  exact ⟨rfl, (((Fr.refl _ _).alloc _).alloc _).alloc _⟩
end Go.Proofs.Ythlngbdbmnnnaaa
