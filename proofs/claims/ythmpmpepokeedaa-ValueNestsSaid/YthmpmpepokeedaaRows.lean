/-
  NARROWER THAN 'FOR EVERY INPUT', by the rows' own cells (each row's printed sentence says how): ValueTells: loops · ValueWithin: loops · ValueBack: loops · ValueNests: loops.
  DERIVED. THE GIVEN ROWS OF THIS SEAT. 9 by the template 'for every input the law returns true; each argument reads behind the call as it read before'; 0 by the template 'total and deterministic' (their statements: YthmpmpepokeedaaTotals.lean).
  GIVEN WITH THE SEED: the statements are not yours to turn. If you find one false, say at which input.
  Laid BY PROGRAM, IN A SANDBOX (cutbox-rows.mjs): the forced cells as the released guide's own fill.sh prints them over the translation dc09b4e50c8f5cae… (all of the seat's roots in one cut). By AI agents, Wed Nov 11 2026. No macro, syntax, notation, axiom, sorry.
-/
import Derived.Test.YthmpmpepokeedaaChecked
import GoSem.Claim
import GoSem.ClaimJoined
import GoSem.ClaimMapViews
import Derived.JoinedTies
import Derived.KernelRfl
namespace Go.Proofs.Ythmpmpepokeedaa
/- THE CELL 'sum', in the pinned program and in every row, IS THE sha256 OF THE DUMP (.gsa) THAT YthmpmpepokeedaaProg.lean LOADS. Nothing in Lean hashes anything: it is a label: what it is worth is what the hold of that sum in a sandbox is worth. -/
noncomputable def Try.pinned : Pinned := { name := "ythmpmpepokeedaa", sum := "dc09b4e50c8f5caec908f7f03403ccf304845f501598af1cef5ac65de4f20577", checked := Try.checked }
namespace Rows
def none {H : Type} : Left H := { results := [], args := [] }

/-- 'keyloftlaw14.LifeUndone': WHATEVER THE INPUT: true; the input reads as it did. -/
def lifeUndoneSpec : ChangeSpec := { name := "lifeUndone", fn := fun _ => fun
  | [d1, d2, d3] => { results := [.lit (.bool true)], args := [d1, d2, d3] }
  | _ => none }
def lifeUndoneRow : OpenClaim := { program := "ythmpmpepokeedaa", sum := "dc09b4e50c8f5caec908f7f03403ccf304845f501598af1cef5ac65de4f20577", func := "keyloft/keyloftlaw14.LifeUndone", spec := "lifeUndone", apart := false }
def LifeUndoneSaid : Prop := lifeUndoneRow.holds Try.pinned (OpenSpec.ofChange lifeUndoneSpec)

/-- ITS FALSE NEIGHBOUR: 'it returns false'. Refute it at one input. -/
def lifeUndoneWrong : ChangeSpec := { name := "lifeUndone", fn := fun _ => fun
  | [d1, d2, d3] => { results := [.lit (.bool false)], args := [d1, d2, d3] }
  | _ => none }
def LifeUndoneWrongFalsely : Prop := lifeUndoneRow.holds Try.pinned (OpenSpec.ofChange lifeUndoneWrong)

/-- 'keyloftlaw07.ValueTells': WHATEVER THE INPUT: true; the input reads as it did. -/
def valueTellsSpec : ChangeSpec := { name := "valueTells", fn := fun _ => fun
  | [d1, d2] => { results := [.lit (.bool true)], args := [d1, d2] }
  | _ => none }
def valueTellsRow : OpenClaim := { program := "ythmpmpepokeedaa", sum := "dc09b4e50c8f5caec908f7f03403ccf304845f501598af1cef5ac65de4f20577", func := "keyloft/keyloftlaw07.ValueTells", spec := "valueTells", inPlace := ["internal/abi.NoEscape"], unfollowed := true, recurses := true, loops := true, apart := false }
def ValueTellsSaid : Prop := valueTellsRow.holds Try.pinned (OpenSpec.ofChange valueTellsSpec)

/-- ITS FALSE NEIGHBOUR: 'it returns false'. Refute it at one input. -/
def valueTellsWrong : ChangeSpec := { name := "valueTells", fn := fun _ => fun
  | [d1, d2] => { results := [.lit (.bool false)], args := [d1, d2] }
  | _ => none }
def ValueTellsWrongFalsely : Prop := valueTellsRow.holds Try.pinned (OpenSpec.ofChange valueTellsWrong)

/-- 'keyloftlaw07.ValueWithin': WHATEVER THE INPUT: true; the input reads as it did. -/
def valueWithinSpec : ChangeSpec := { name := "valueWithin", fn := fun _ => fun
  | [d1, d2] => { results := [.lit (.bool true)], args := [d1, d2] }
  | _ => none }
def valueWithinRow : OpenClaim := { program := "ythmpmpepokeedaa", sum := "dc09b4e50c8f5caec908f7f03403ccf304845f501598af1cef5ac65de4f20577", func := "keyloft/keyloftlaw07.ValueWithin", spec := "valueWithin", inPlace := ["internal/abi.NoEscape"], unfollowed := true, recurses := true, loops := true, apart := false }
def ValueWithinSaid : Prop := valueWithinRow.holds Try.pinned (OpenSpec.ofChange valueWithinSpec)

/-- ITS FALSE NEIGHBOUR: 'it returns false'. Refute it at one input. -/
def valueWithinWrong : ChangeSpec := { name := "valueWithin", fn := fun _ => fun
  | [d1, d2] => { results := [.lit (.bool false)], args := [d1, d2] }
  | _ => none }
def ValueWithinWrongFalsely : Prop := valueWithinRow.holds Try.pinned (OpenSpec.ofChange valueWithinWrong)

/-- 'keyloftlaw07.ValueBack': WHATEVER THE INPUT: true; the input reads as it did. -/
def valueBackSpec : ChangeSpec := { name := "valueBack", fn := fun _ => fun
  | [d1, d2] => { results := [.lit (.bool true)], args := [d1, d2] }
  | _ => none }
def valueBackRow : OpenClaim := { program := "ythmpmpepokeedaa", sum := "dc09b4e50c8f5caec908f7f03403ccf304845f501598af1cef5ac65de4f20577", func := "keyloft/keyloftlaw07.ValueBack", spec := "valueBack", inPlace := ["internal/abi.NoEscape"], unfollowed := true, recurses := true, loops := true, apart := false }
def ValueBackSaid : Prop := valueBackRow.holds Try.pinned (OpenSpec.ofChange valueBackSpec)

/-- ITS FALSE NEIGHBOUR: 'it returns false'. Refute it at one input. -/
def valueBackWrong : ChangeSpec := { name := "valueBack", fn := fun _ => fun
  | [d1, d2] => { results := [.lit (.bool false)], args := [d1, d2] }
  | _ => none }
def ValueBackWrongFalsely : Prop := valueBackRow.holds Try.pinned (OpenSpec.ofChange valueBackWrong)

/-- 'keyloftlaw07.ValueNests': WHATEVER THE INPUT: true; the input reads as it did. -/
def valueNestsSpec : ChangeSpec := { name := "valueNests", fn := fun _ => fun
  | [d1, d2] => { results := [.lit (.bool true)], args := [d1, d2] }
  | _ => none }
def valueNestsRow : OpenClaim := { program := "ythmpmpepokeedaa", sum := "dc09b4e50c8f5caec908f7f03403ccf304845f501598af1cef5ac65de4f20577", func := "keyloft/keyloftlaw07.ValueNests", spec := "valueNests", inPlace := ["internal/abi.NoEscape"], unfollowed := true, recurses := true, loops := true, apart := false }
def ValueNestsSaid : Prop := valueNestsRow.holds Try.pinned (OpenSpec.ofChange valueNestsSpec)

/-- ITS FALSE NEIGHBOUR: 'it returns false'. Refute it at one input. -/
def valueNestsWrong : ChangeSpec := { name := "valueNests", fn := fun _ => fun
  | [d1, d2] => { results := [.lit (.bool false)], args := [d1, d2] }
  | _ => none }
def ValueNestsWrongFalsely : Prop := valueNestsRow.holds Try.pinned (OpenSpec.ofChange valueNestsWrong)

/-- 'keyloftlaw06.LabelTells': WHATEVER THE INPUT: true; the input reads as it did. -/
def labelTellsSpec : ChangeSpec := { name := "labelTells", fn := fun _ => fun
  | [d1, d2, d3, d4] => { results := [.lit (.bool true)], args := [d1, d2, d3, d4] }
  | _ => none }
def labelTellsRow : OpenClaim := { program := "ythmpmpepokeedaa", sum := "dc09b4e50c8f5caec908f7f03403ccf304845f501598af1cef5ac65de4f20577", func := "keyloft/keyloftlaw06.LabelTells", spec := "labelTells", inPlace := ["internal/abi.NoEscape", "internal/bytealg.abigen_runtime_cmpstring"], unfollowed := true, recurses := true, apart := false }
def LabelTellsSaid : Prop := labelTellsRow.holds Try.pinned (OpenSpec.ofChange labelTellsSpec)

/-- ITS FALSE NEIGHBOUR: 'it returns false'. Refute it at one input. -/
def labelTellsWrong : ChangeSpec := { name := "labelTells", fn := fun _ => fun
  | [d1, d2, d3, d4] => { results := [.lit (.bool false)], args := [d1, d2, d3, d4] }
  | _ => none }
def LabelTellsWrongFalsely : Prop := labelTellsRow.holds Try.pinned (OpenSpec.ofChange labelTellsWrong)

/-- 'keyloftlaw06.LabelOrder': WHATEVER THE INPUT: true; the input reads as it did. -/
def labelOrderSpec : ChangeSpec := { name := "labelOrder", fn := fun _ => fun
  | [d1, d2] => { results := [.lit (.bool true)], args := [d1, d2] }
  | _ => none }
def labelOrderRow : OpenClaim := { program := "ythmpmpepokeedaa", sum := "dc09b4e50c8f5caec908f7f03403ccf304845f501598af1cef5ac65de4f20577", func := "keyloft/keyloftlaw06.LabelOrder", spec := "labelOrder", inPlace := ["internal/abi.NoEscape", "internal/bytealg.abigen_runtime_cmpstring"], unfollowed := true, recurses := true, apart := false }
def LabelOrderSaid : Prop := labelOrderRow.holds Try.pinned (OpenSpec.ofChange labelOrderSpec)

/-- ITS FALSE NEIGHBOUR: 'it returns false'. Refute it at one input. -/
def labelOrderWrong : ChangeSpec := { name := "labelOrder", fn := fun _ => fun
  | [d1, d2] => { results := [.lit (.bool false)], args := [d1, d2] }
  | _ => none }
def LabelOrderWrongFalsely : Prop := labelOrderRow.holds Try.pinned (OpenSpec.ofChange labelOrderWrong)

/-- 'keyloftlaw06.LabelMore': WHATEVER THE INPUT: true; the input reads as it did. -/
def labelMoreSpec : ChangeSpec := { name := "labelMore", fn := fun _ => fun
  | [d1, d2, d3, d4] => { results := [.lit (.bool true)], args := [d1, d2, d3, d4] }
  | _ => none }
def labelMoreRow : OpenClaim := { program := "ythmpmpepokeedaa", sum := "dc09b4e50c8f5caec908f7f03403ccf304845f501598af1cef5ac65de4f20577", func := "keyloft/keyloftlaw06.LabelMore", spec := "labelMore", inPlace := ["internal/abi.NoEscape", "internal/bytealg.abigen_runtime_cmpstring"], unfollowed := true, recurses := true, apart := false }
def LabelMoreSaid : Prop := labelMoreRow.holds Try.pinned (OpenSpec.ofChange labelMoreSpec)

/-- ITS FALSE NEIGHBOUR: 'it returns false'. Refute it at one input. -/
def labelMoreWrong : ChangeSpec := { name := "labelMore", fn := fun _ => fun
  | [d1, d2, d3, d4] => { results := [.lit (.bool false)], args := [d1, d2, d3, d4] }
  | _ => none }
def LabelMoreWrongFalsely : Prop := labelMoreRow.holds Try.pinned (OpenSpec.ofChange labelMoreWrong)

/-- 'keyloftlaw06.LabelNames': WHATEVER THE INPUT: true; the input reads as it did. -/
def labelNamesSpec : ChangeSpec := { name := "labelNames", fn := fun _ => fun
  | [d1, d2] => { results := [.lit (.bool true)], args := [d1, d2] }
  | _ => none }
def labelNamesRow : OpenClaim := { program := "ythmpmpepokeedaa", sum := "dc09b4e50c8f5caec908f7f03403ccf304845f501598af1cef5ac65de4f20577", func := "keyloft/keyloftlaw06.LabelNames", spec := "labelNames", inPlace := ["internal/abi.NoEscape", "internal/bytealg.abigen_runtime_cmpstring"], unfollowed := true, recurses := true, apart := false }
def LabelNamesSaid : Prop := labelNamesRow.holds Try.pinned (OpenSpec.ofChange labelNamesSpec)

/-- ITS FALSE NEIGHBOUR: 'it returns false'. Refute it at one input. -/
def labelNamesWrong : ChangeSpec := { name := "labelNames", fn := fun _ => fun
  | [d1, d2] => { results := [.lit (.bool false)], args := [d1, d2] }
  | _ => none }
def LabelNamesWrongFalsely : Prop := labelNamesRow.holds Try.pinned (OpenSpec.ofChange labelNamesWrong)

/- THE SECOND FORM. 'bulk': how many values and letters a reading holds, each counted each time it is reached (what is shared counts as often as it is met; a slice's spare places count too). A statement '..UptoSaid' is the law's where the arguments, and the package variables that the reading takes, are together of bulk at most 1048576: NARROWER than '..Said'. Prove '..Said' where nothing that the law and all that it calls make is longer than what came in: it says more and counts as full. Else prove '..UptoSaid'. A law counts once. -/
mutual
def uptoBulk {H : Type} : DataW H → Nat
  | .lit (.string bytes) => bytes.length + 1
  | .lit _ => 1
  | .nil => 1
  | .ptr d => uptoBulk d + 1
  | .slice elems spare => uptoBulkAll elems + uptoBulkAll spare + 1
  | .agg parts => uptoBulkAll parts + 1
  | .iface _ d => uptoBulk d + 1
  | .map entries => uptoBulkEntries entries + 1
  | .held _ => 1
def uptoBulkAll {H : Type} : List (DataW H) → Nat
  | [] => 0
  | d :: r => uptoBulk d + uptoBulkAll r
def uptoBulkEntries {H : Type} : List (Lit × DataW H) → Nat
  | [] => 0
  | x :: r => uptoBulkEntry x + uptoBulkEntries r
def uptoBulkEntry {H : Type} : Lit × DataW H → Nat
  | (.string bytes, d) => bytes.length + uptoBulk d + 1
  | (_, d) => uptoBulk d + 1
 end
def uptoSmall : (H : Type) → List (DataW H) → Bool := fun _ ds => decide (uptoBulkAll ds ≤ 1048576)
def OpenSpec.upto (s : _root_.Go.ChangeSpec) : _root_.Go.OpenSpec := { _root_.Go.OpenSpec.ofChange s with cond := some uptoSmall }

/-- 'keyloftlaw14.LifeUndone', WHERE WHAT IT READS IS OF BULK AT MOST 1048576: true; the input reads as it did. -/
def lifeUndoneUptoRow : OpenClaim := { program := "ythmpmpepokeedaa", sum := "dc09b4e50c8f5caec908f7f03403ccf304845f501598af1cef5ac65de4f20577", func := "keyloft/keyloftlaw14.LifeUndone", spec := "lifeUndone", apart := false, narrowed := true }
def LifeUndoneUptoSaid : Prop := lifeUndoneUptoRow.holds Try.pinned (OpenSpec.upto lifeUndoneSpec)

/-- 'keyloftlaw07.ValueTells', WHERE WHAT IT READS IS OF BULK AT MOST 1048576: true; the input reads as it did. -/
def valueTellsUptoRow : OpenClaim := { program := "ythmpmpepokeedaa", sum := "dc09b4e50c8f5caec908f7f03403ccf304845f501598af1cef5ac65de4f20577", func := "keyloft/keyloftlaw07.ValueTells", spec := "valueTells", inPlace := ["internal/abi.NoEscape"], unfollowed := true, recurses := true, loops := true, apart := false, narrowed := true }
def ValueTellsUptoSaid : Prop := valueTellsUptoRow.holds Try.pinned (OpenSpec.upto valueTellsSpec)

/-- 'keyloftlaw07.ValueWithin', WHERE WHAT IT READS IS OF BULK AT MOST 1048576: true; the input reads as it did. -/
def valueWithinUptoRow : OpenClaim := { program := "ythmpmpepokeedaa", sum := "dc09b4e50c8f5caec908f7f03403ccf304845f501598af1cef5ac65de4f20577", func := "keyloft/keyloftlaw07.ValueWithin", spec := "valueWithin", inPlace := ["internal/abi.NoEscape"], unfollowed := true, recurses := true, loops := true, apart := false, narrowed := true }
def ValueWithinUptoSaid : Prop := valueWithinUptoRow.holds Try.pinned (OpenSpec.upto valueWithinSpec)

/-- 'keyloftlaw07.ValueBack', WHERE WHAT IT READS IS OF BULK AT MOST 1048576: true; the input reads as it did. -/
def valueBackUptoRow : OpenClaim := { program := "ythmpmpepokeedaa", sum := "dc09b4e50c8f5caec908f7f03403ccf304845f501598af1cef5ac65de4f20577", func := "keyloft/keyloftlaw07.ValueBack", spec := "valueBack", inPlace := ["internal/abi.NoEscape"], unfollowed := true, recurses := true, loops := true, apart := false, narrowed := true }
def ValueBackUptoSaid : Prop := valueBackUptoRow.holds Try.pinned (OpenSpec.upto valueBackSpec)

/-- 'keyloftlaw07.ValueNests', WHERE WHAT IT READS IS OF BULK AT MOST 1048576: true; the input reads as it did. -/
def valueNestsUptoRow : OpenClaim := { program := "ythmpmpepokeedaa", sum := "dc09b4e50c8f5caec908f7f03403ccf304845f501598af1cef5ac65de4f20577", func := "keyloft/keyloftlaw07.ValueNests", spec := "valueNests", inPlace := ["internal/abi.NoEscape"], unfollowed := true, recurses := true, loops := true, apart := false, narrowed := true }
def ValueNestsUptoSaid : Prop := valueNestsUptoRow.holds Try.pinned (OpenSpec.upto valueNestsSpec)

/-- 'keyloftlaw06.LabelTells', WHERE WHAT IT READS IS OF BULK AT MOST 1048576: true; the input reads as it did. -/
def labelTellsUptoRow : OpenClaim := { program := "ythmpmpepokeedaa", sum := "dc09b4e50c8f5caec908f7f03403ccf304845f501598af1cef5ac65de4f20577", func := "keyloft/keyloftlaw06.LabelTells", spec := "labelTells", inPlace := ["internal/abi.NoEscape", "internal/bytealg.abigen_runtime_cmpstring"], unfollowed := true, recurses := true, apart := false, narrowed := true }
def LabelTellsUptoSaid : Prop := labelTellsUptoRow.holds Try.pinned (OpenSpec.upto labelTellsSpec)

/-- 'keyloftlaw06.LabelOrder', WHERE WHAT IT READS IS OF BULK AT MOST 1048576: true; the input reads as it did. -/
def labelOrderUptoRow : OpenClaim := { program := "ythmpmpepokeedaa", sum := "dc09b4e50c8f5caec908f7f03403ccf304845f501598af1cef5ac65de4f20577", func := "keyloft/keyloftlaw06.LabelOrder", spec := "labelOrder", inPlace := ["internal/abi.NoEscape", "internal/bytealg.abigen_runtime_cmpstring"], unfollowed := true, recurses := true, apart := false, narrowed := true }
def LabelOrderUptoSaid : Prop := labelOrderUptoRow.holds Try.pinned (OpenSpec.upto labelOrderSpec)

/-- 'keyloftlaw06.LabelMore', WHERE WHAT IT READS IS OF BULK AT MOST 1048576: true; the input reads as it did. -/
def labelMoreUptoRow : OpenClaim := { program := "ythmpmpepokeedaa", sum := "dc09b4e50c8f5caec908f7f03403ccf304845f501598af1cef5ac65de4f20577", func := "keyloft/keyloftlaw06.LabelMore", spec := "labelMore", inPlace := ["internal/abi.NoEscape", "internal/bytealg.abigen_runtime_cmpstring"], unfollowed := true, recurses := true, apart := false, narrowed := true }
def LabelMoreUptoSaid : Prop := labelMoreUptoRow.holds Try.pinned (OpenSpec.upto labelMoreSpec)

/-- 'keyloftlaw06.LabelNames', WHERE WHAT IT READS IS OF BULK AT MOST 1048576: true; the input reads as it did. -/
def labelNamesUptoRow : OpenClaim := { program := "ythmpmpepokeedaa", sum := "dc09b4e50c8f5caec908f7f03403ccf304845f501598af1cef5ac65de4f20577", func := "keyloft/keyloftlaw06.LabelNames", spec := "labelNames", inPlace := ["internal/abi.NoEscape", "internal/bytealg.abigen_runtime_cmpstring"], unfollowed := true, recurses := true, apart := false, narrowed := true }
def LabelNamesUptoSaid : Prop := labelNamesUptoRow.holds Try.pinned (OpenSpec.upto labelNamesSpec)

end Rows
end Go.Proofs.Ythmpmpepokeedaa
