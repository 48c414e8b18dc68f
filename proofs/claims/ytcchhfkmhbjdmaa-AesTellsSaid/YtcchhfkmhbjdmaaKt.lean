/- The document's boxes, out of the printed functions. -/
import Derived.Test.YtcchhfkmhbjdmaaKs
import Derived.Test.YtcchhfkmhbjdmaaPAesTellsx1
set_option linter.unusedVariables false
set_option linter.unusedSimpArgs false
namespace Go.Proofs.Ytcchhfkmhbjdmaa
open Go.RowKit PAesTells Go.Proofs.YtcchhfkmhbjdmaaW.PrintWords
set_option maxRecDepth 100000 in
theorem box_f (b : UInt8) : keyloftref01_Box.f 60 (b.toNat : Int) = some ((box b).toNat : Int) := by
  have := u8_all (fun b => keyloftref01_Box.f 60 (b.toNat : Int) == some ((box b).toNat : Int)) (by decide +kernel) b
  simpa using this
end Go.Proofs.Ytcchhfkmhbjdmaa
