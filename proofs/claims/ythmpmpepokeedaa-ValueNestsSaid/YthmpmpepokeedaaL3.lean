/- For rows. -/
import Derived.Test.YthmpmpepokeedaaProg
import Derived.Test.YthmpmpepokeedaaL2
import Derived.ChangeMaps5
set_option linter.unusedVariables false
namespace Go.Proofs.Ythmpmpepokeedaa
open Go.ChangeShapes Go.WideShapes Go.ChangeAt Go.RowKit
theorem own : ownKnob Try.prog.godebug = none := by kernel_rfl
theorem laidOut : laidOutB Try.prog = true := by kernel_rfl
theorem Fr.toBelow {w w' : World} (h : Fr (fun _ => False) w w') : Below w.heap.size w w' := h.below (Nat.le_refl _) (fun _ _ => id)
theorem u8_of (n : Int) (h0 : 0 ≤ n) (h1 : n ≤ 255) : ∃ a : UInt8, n = (a.toNat : Int) := ⟨UInt8.ofNat n.toNat, by
  simp
  omega⟩
end Go.Proofs.Ythmpmpepokeedaa
