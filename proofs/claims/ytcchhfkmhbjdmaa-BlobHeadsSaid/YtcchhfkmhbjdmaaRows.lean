/-
  No cell of these rows narrows 'for every input' (looked for: loops, veiled, ifaces, maps, wideKeys, modest, calm, conditions, laid).
  DERIVED. THE GIVEN ROWS OF THIS SEAT. 14 by the template 'for every input the law returns true; each argument reads behind the call as it read before'; 0 by the template 'total and deterministic' (their statements: YtcchhfkmhbjdmaaTotals.lean).
  GIVEN WITH THE SEED: the statements are not yours to turn. If you find one false, say at which input.
  Laid BY PROGRAM, IN A SANDBOX (cutbox-rows.mjs): the forced cells as the released guide's own fill.sh prints them over the translation 6433376a8ee94e71… (all of the seat's roots in one cut). By AI agents, Wed Nov 11 2026. No macro, syntax, notation, axiom, sorry.
-/
import Derived.Test.YtcchhfkmhbjdmaaChecked
import GoSem.Claim
import GoSem.ClaimJoined
import GoSem.ClaimMapViews
import Derived.JoinedTies
import Derived.KernelRfl
namespace Go.Proofs.Ytcchhfkmhbjdmaa
/- THE CELL 'sum', in the pinned program and in every row, IS THE sha256 OF THE DUMP (.gsa) THAT YtcchhfkmhbjdmaaProg.lean LOADS. Nothing in Lean hashes anything: it is a label: what it is worth is what the hold of that sum in a sandbox is worth. -/
noncomputable def Try.pinned : Pinned := { name := "ytcchhfkmhbjdmaa", sum := "6433376a8ee94e71c1226a706a9cb99c78d5dceb164ad5753a3c3b7842300674", checked := Try.checked }
namespace Rows
def none {H : Type} : Left H := { results := [], args := [] }

/-- 'keyloftlaw01.AesTells': WHATEVER THE INPUT: true; the input reads as it did. -/
def aesTellsSpec : ChangeSpec := { name := "aesTells", fn := fun _ => fun
  | [d1, d2, d3, d4] => { results := [.lit (.bool true)], args := [d1, d2, d3, d4] }
  | _ => none }
def aesTellsRow : OpenClaim := { program := "ytcchhfkmhbjdmaa", sum := "6433376a8ee94e71c1226a706a9cb99c78d5dceb164ad5753a3c3b7842300674", func := "keyloft/keyloftlaw01.AesTells", spec := "aesTells", unfollowed := true, recurses := true, apart := false }
def AesTellsSaid : Prop := aesTellsRow.holds Try.pinned (OpenSpec.ofChange aesTellsSpec)

/-- ITS FALSE NEIGHBOUR: 'it returns false'. Refute it at one input. -/
def aesTellsWrong : ChangeSpec := { name := "aesTells", fn := fun _ => fun
  | [d1, d2, d3, d4] => { results := [.lit (.bool false)], args := [d1, d2, d3, d4] }
  | _ => none }
def AesTellsWrongFalsely : Prop := aesTellsRow.holds Try.pinned (OpenSpec.ofChange aesTellsWrong)

/-- 'keyloftlaw01.AesApart': WHATEVER THE INPUT: true; the input reads as it did. -/
def aesApartSpec : ChangeSpec := { name := "aesApart", fn := fun _ => fun
  | [d1, d2, d3, d4, d5] => { results := [.lit (.bool true)], args := [d1, d2, d3, d4, d5] }
  | _ => none }
def aesApartRow : OpenClaim := { program := "ytcchhfkmhbjdmaa", sum := "6433376a8ee94e71c1226a706a9cb99c78d5dceb164ad5753a3c3b7842300674", func := "keyloft/keyloftlaw01.AesApart", spec := "aesApart", unfollowed := true, recurses := true, apart := false }
def AesApartSaid : Prop := aesApartRow.holds Try.pinned (OpenSpec.ofChange aesApartSpec)

/-- ITS FALSE NEIGHBOUR: 'it returns false'. Refute it at one input. -/
def aesApartWrong : ChangeSpec := { name := "aesApart", fn := fun _ => fun
  | [d1, d2, d3, d4, d5] => { results := [.lit (.bool false)], args := [d1, d2, d3, d4, d5] }
  | _ => none }
def AesApartWrongFalsely : Prop := aesApartRow.holds Try.pinned (OpenSpec.ofChange aesApartWrong)

/-- 'keyloftlaw01.AesField': WHATEVER THE INPUT: true; the input reads as it did. -/
def aesFieldSpec : ChangeSpec := { name := "aesField", fn := fun _ => fun
  | [d1, d2, d3] => { results := [.lit (.bool true)], args := [d1, d2, d3] }
  | _ => none }
def aesFieldRow : OpenClaim := { program := "ytcchhfkmhbjdmaa", sum := "6433376a8ee94e71c1226a706a9cb99c78d5dceb164ad5753a3c3b7842300674", func := "keyloft/keyloftlaw01.AesField", spec := "aesField", unfollowed := true, recurses := true, apart := false }
def AesFieldSaid : Prop := aesFieldRow.holds Try.pinned (OpenSpec.ofChange aesFieldSpec)

/-- ITS FALSE NEIGHBOUR: 'it returns false'. Refute it at one input. -/
def aesFieldWrong : ChangeSpec := { name := "aesField", fn := fun _ => fun
  | [d1, d2, d3] => { results := [.lit (.bool false)], args := [d1, d2, d3] }
  | _ => none }
def AesFieldWrongFalsely : Prop := aesFieldRow.holds Try.pinned (OpenSpec.ofChange aesFieldWrong)

/-- 'keyloftlaw01.AesInverse': WHATEVER THE INPUT: true; the input reads as it did. -/
def aesInverseSpec : ChangeSpec := { name := "aesInverse", fn := fun _ => fun
  | [d] => { results := [.lit (.bool true)], args := [d] }
  | _ => none }
def aesInverseRow : OpenClaim := { program := "ytcchhfkmhbjdmaa", sum := "6433376a8ee94e71c1226a706a9cb99c78d5dceb164ad5753a3c3b7842300674", func := "keyloft/keyloftlaw01.AesInverse", spec := "aesInverse", unfollowed := true, recurses := true, apart := false }
def AesInverseSaid : Prop := aesInverseRow.holds Try.pinned (OpenSpec.ofChange aesInverseSpec)

/-- ITS FALSE NEIGHBOUR: 'it returns false'. Refute it at one input. -/
def aesInverseWrong : ChangeSpec := { name := "aesInverse", fn := fun _ => fun
  | [d] => { results := [.lit (.bool false)], args := [d] }
  | _ => none }
def AesInverseWrongFalsely : Prop := aesInverseRow.holds Try.pinned (OpenSpec.ofChange aesInverseWrong)

/-- 'keyloftlaw02.ShaTells': WHATEVER THE INPUT: true; the input reads as it did. -/
def shaTellsSpec : ChangeSpec := { name := "shaTells", fn := fun _ => fun
  | [d] => { results := [.lit (.bool true)], args := [d] }
  | _ => none }
def shaTellsRow : OpenClaim := { program := "ytcchhfkmhbjdmaa", sum := "6433376a8ee94e71c1226a706a9cb99c78d5dceb164ad5753a3c3b7842300674", func := "keyloft/keyloftlaw02.ShaTells", spec := "shaTells", inPlace := ["internal/abi.NoEscape", "internal/bytealg.MakeNoZero"], apart := false }
def ShaTellsSaid : Prop := shaTellsRow.holds Try.pinned (OpenSpec.ofChange shaTellsSpec)

/-- ITS FALSE NEIGHBOUR: 'it returns false'. Refute it at one input. -/
def shaTellsWrong : ChangeSpec := { name := "shaTells", fn := fun _ => fun
  | [d] => { results := [.lit (.bool false)], args := [d] }
  | _ => none }
def ShaTellsWrongFalsely : Prop := shaTellsRow.holds Try.pinned (OpenSpec.ofChange shaTellsWrong)

/-- 'keyloftlaw02.ShaAgain': WHATEVER THE INPUT: true; the input reads as it did. -/
def shaAgainSpec : ChangeSpec := { name := "shaAgain", fn := fun _ => fun
  | [d1, d2, d3] => { results := [.lit (.bool true)], args := [d1, d2, d3] }
  | _ => none }
def shaAgainRow : OpenClaim := { program := "ytcchhfkmhbjdmaa", sum := "6433376a8ee94e71c1226a706a9cb99c78d5dceb164ad5753a3c3b7842300674", func := "keyloft/keyloftlaw02.ShaAgain", spec := "shaAgain", inPlace := ["internal/abi.NoEscape", "internal/bytealg.MakeNoZero"], apart := false }
def ShaAgainSaid : Prop := shaAgainRow.holds Try.pinned (OpenSpec.ofChange shaAgainSpec)

/-- ITS FALSE NEIGHBOUR: 'it returns false'. Refute it at one input. -/
def shaAgainWrong : ChangeSpec := { name := "shaAgain", fn := fun _ => fun
  | [d1, d2, d3] => { results := [.lit (.bool false)], args := [d1, d2, d3] }
  | _ => none }
def ShaAgainWrongFalsely : Prop := shaAgainRow.holds Try.pinned (OpenSpec.ofChange shaAgainWrong)

/-- 'keyloftlaw03.MacTells': WHATEVER THE INPUT: true; the input reads as it did. -/
def macTellsSpec : ChangeSpec := { name := "macTells", fn := fun _ => fun
  | [d1, d2, d3, d4, d5] => { results := [.lit (.bool true)], args := [d1, d2, d3, d4, d5] }
  | _ => none }
def macTellsRow : OpenClaim := { program := "ytcchhfkmhbjdmaa", sum := "6433376a8ee94e71c1226a706a9cb99c78d5dceb164ad5753a3c3b7842300674", func := "keyloft/keyloftlaw03.MacTells", spec := "macTells", inPlace := ["internal/abi.NoEscape", "internal/bytealg.MakeNoZero"], unfollowed := true, recurses := true, apart := false }
def MacTellsSaid : Prop := macTellsRow.holds Try.pinned (OpenSpec.ofChange macTellsSpec)

/-- ITS FALSE NEIGHBOUR: 'it returns false'. Refute it at one input. -/
def macTellsWrong : ChangeSpec := { name := "macTells", fn := fun _ => fun
  | [d1, d2, d3, d4, d5] => { results := [.lit (.bool false)], args := [d1, d2, d3, d4, d5] }
  | _ => none }
def MacTellsWrongFalsely : Prop := macTellsRow.holds Try.pinned (OpenSpec.ofChange macTellsWrong)

/-- 'keyloftlaw03.MacKeys': WHATEVER THE INPUT: true; the input reads as it did. -/
def macKeysSpec : ChangeSpec := { name := "macKeys", fn := fun _ => fun
  | [d1, d2, d3, d4] => { results := [.lit (.bool true)], args := [d1, d2, d3, d4] }
  | _ => none }
def macKeysRow : OpenClaim := { program := "ytcchhfkmhbjdmaa", sum := "6433376a8ee94e71c1226a706a9cb99c78d5dceb164ad5753a3c3b7842300674", func := "keyloft/keyloftlaw03.MacKeys", spec := "macKeys", inPlace := ["internal/abi.NoEscape", "internal/bytealg.MakeNoZero"], unfollowed := true, recurses := true, apart := false }
def MacKeysSaid : Prop := macKeysRow.holds Try.pinned (OpenSpec.ofChange macKeysSpec)

/-- ITS FALSE NEIGHBOUR: 'it returns false'. Refute it at one input. -/
def macKeysWrong : ChangeSpec := { name := "macKeys", fn := fun _ => fun
  | [d1, d2, d3, d4] => { results := [.lit (.bool false)], args := [d1, d2, d3, d4] }
  | _ => none }
def MacKeysWrongFalsely : Prop := macKeysRow.holds Try.pinned (OpenSpec.ofChange macKeysWrong)

/-- 'keyloftlaw04.GcmTells': WHATEVER THE INPUT: true; the input reads as it did. -/
def gcmTellsSpec : ChangeSpec := { name := "gcmTells", fn := fun _ => fun
  | [d1, d2, d3, d4] => { results := [.lit (.bool true)], args := [d1, d2, d3, d4] }
  | _ => none }
def gcmTellsRow : OpenClaim := { program := "ytcchhfkmhbjdmaa", sum := "6433376a8ee94e71c1226a706a9cb99c78d5dceb164ad5753a3c3b7842300674", func := "keyloft/keyloftlaw04.GcmTells", spec := "gcmTells", inPlace := ["internal/abi.NoEscape", "internal/bytealg.MakeNoZero"], unfollowed := true, recurses := true, apart := false }
def GcmTellsSaid : Prop := gcmTellsRow.holds Try.pinned (OpenSpec.ofChange gcmTellsSpec)

/-- ITS FALSE NEIGHBOUR: 'it returns false'. Refute it at one input. -/
def gcmTellsWrong : ChangeSpec := { name := "gcmTells", fn := fun _ => fun
  | [d1, d2, d3, d4] => { results := [.lit (.bool false)], args := [d1, d2, d3, d4] }
  | _ => none }
def GcmTellsWrongFalsely : Prop := gcmTellsRow.holds Try.pinned (OpenSpec.ofChange gcmTellsWrong)

/-- 'keyloftlaw04.GcmStream': WHATEVER THE INPUT: true; the input reads as it did. -/
def gcmStreamSpec : ChangeSpec := { name := "gcmStream", fn := fun _ => fun
  | [d1, d2, d3, d4, d5] => { results := [.lit (.bool true)], args := [d1, d2, d3, d4, d5] }
  | _ => none }
def gcmStreamRow : OpenClaim := { program := "ytcchhfkmhbjdmaa", sum := "6433376a8ee94e71c1226a706a9cb99c78d5dceb164ad5753a3c3b7842300674", func := "keyloft/keyloftlaw04.GcmStream", spec := "gcmStream", inPlace := ["internal/abi.NoEscape", "internal/bytealg.MakeNoZero"], unfollowed := true, recurses := true, apart := false }
def GcmStreamSaid : Prop := gcmStreamRow.holds Try.pinned (OpenSpec.ofChange gcmStreamSpec)

/-- ITS FALSE NEIGHBOUR: 'it returns false'. Refute it at one input. -/
def gcmStreamWrong : ChangeSpec := { name := "gcmStream", fn := fun _ => fun
  | [d1, d2, d3, d4, d5] => { results := [.lit (.bool false)], args := [d1, d2, d3, d4, d5] }
  | _ => none }
def GcmStreamWrongFalsely : Prop := gcmStreamRow.holds Try.pinned (OpenSpec.ofChange gcmStreamWrong)

/-- 'keyloftlaw04.GcmField': WHATEVER THE INPUT: true; the input reads as it did. -/
def gcmFieldSpec : ChangeSpec := { name := "gcmField", fn := fun _ => fun
  | [d1, d2, d3] => { results := [.lit (.bool true)], args := [d1, d2, d3] }
  | _ => none }
def gcmFieldRow : OpenClaim := { program := "ytcchhfkmhbjdmaa", sum := "6433376a8ee94e71c1226a706a9cb99c78d5dceb164ad5753a3c3b7842300674", func := "keyloft/keyloftlaw04.GcmField", spec := "gcmField", inPlace := ["internal/abi.NoEscape", "internal/bytealg.MakeNoZero"], unfollowed := true, recurses := true, apart := false }
def GcmFieldSaid : Prop := gcmFieldRow.holds Try.pinned (OpenSpec.ofChange gcmFieldSpec)

/-- ITS FALSE NEIGHBOUR: 'it returns false'. Refute it at one input. -/
def gcmFieldWrong : ChangeSpec := { name := "gcmField", fn := fun _ => fun
  | [d1, d2, d3] => { results := [.lit (.bool false)], args := [d1, d2, d3] }
  | _ => none }
def GcmFieldWrongFalsely : Prop := gcmFieldRow.holds Try.pinned (OpenSpec.ofChange gcmFieldWrong)

/-- 'keyloftlaw05.WrapTells': WHATEVER THE INPUT: true; the input reads as it did. -/
def wrapTellsSpec : ChangeSpec := { name := "wrapTells", fn := fun _ => fun
  | [d1, d2, d3, d4] => { results := [.lit (.bool true)], args := [d1, d2, d3, d4] }
  | _ => none }
def wrapTellsRow : OpenClaim := { program := "ytcchhfkmhbjdmaa", sum := "6433376a8ee94e71c1226a706a9cb99c78d5dceb164ad5753a3c3b7842300674", func := "keyloft/keyloftlaw05.WrapTells", spec := "wrapTells", inPlace := ["internal/abi.NoEscape", "internal/bytealg.MakeNoZero"], unfollowed := true, recurses := true, apart := false }
def WrapTellsSaid : Prop := wrapTellsRow.holds Try.pinned (OpenSpec.ofChange wrapTellsSpec)

/-- ITS FALSE NEIGHBOUR: 'it returns false'. Refute it at one input. -/
def wrapTellsWrong : ChangeSpec := { name := "wrapTells", fn := fun _ => fun
  | [d1, d2, d3, d4] => { results := [.lit (.bool false)], args := [d1, d2, d3, d4] }
  | _ => none }
def WrapTellsWrongFalsely : Prop := wrapTellsRow.holds Try.pinned (OpenSpec.ofChange wrapTellsWrong)

/-- 'keyloftlaw11.RingTells': WHATEVER THE INPUT: true; the input reads as it did. -/
def ringTellsSpec : ChangeSpec := { name := "ringTells", fn := fun _ => fun
  | [d1, d2] => { results := [.lit (.bool true)], args := [d1, d2] }
  | _ => none }
def ringTellsRow : OpenClaim := { program := "ytcchhfkmhbjdmaa", sum := "6433376a8ee94e71c1226a706a9cb99c78d5dceb164ad5753a3c3b7842300674", func := "keyloft/keyloftlaw11.RingTells", spec := "ringTells", inPlace := ["internal/abi.NoEscape", "internal/bytealg.MakeNoZero"], unfollowed := true, recurses := true, apart := false }
def RingTellsSaid : Prop := ringTellsRow.holds Try.pinned (OpenSpec.ofChange ringTellsSpec)

/-- ITS FALSE NEIGHBOUR: 'it returns false'. Refute it at one input. -/
def ringTellsWrong : ChangeSpec := { name := "ringTells", fn := fun _ => fun
  | [d1, d2] => { results := [.lit (.bool false)], args := [d1, d2] }
  | _ => none }
def RingTellsWrongFalsely : Prop := ringTellsRow.holds Try.pinned (OpenSpec.ofChange ringTellsWrong)

/-- 'keyloftlaw12.BlobHeads': WHATEVER THE INPUT: true; the input reads as it did. -/
def blobHeadsSpec : ChangeSpec := { name := "blobHeads", fn := fun _ => fun
  | [d1, d2, d3, d4, d5] => { results := [.lit (.bool true)], args := [d1, d2, d3, d4, d5] }
  | _ => none }
def blobHeadsRow : OpenClaim := { program := "ytcchhfkmhbjdmaa", sum := "6433376a8ee94e71c1226a706a9cb99c78d5dceb164ad5753a3c3b7842300674", func := "keyloft/keyloftlaw12.BlobHeads", spec := "blobHeads", inPlace := ["internal/abi.NoEscape", "internal/bytealg.abigen_runtime_cmpstring", "internal/bytealg.MakeNoZero"], unfollowed := true, recurses := true, apart := false }
def BlobHeadsSaid : Prop := blobHeadsRow.holds Try.pinned (OpenSpec.ofChange blobHeadsSpec)

/-- ITS FALSE NEIGHBOUR: 'it returns false'. Refute it at one input. -/
def blobHeadsWrong : ChangeSpec := { name := "blobHeads", fn := fun _ => fun
  | [d1, d2, d3, d4, d5] => { results := [.lit (.bool false)], args := [d1, d2, d3, d4, d5] }
  | _ => none }
def BlobHeadsWrongFalsely : Prop := blobHeadsRow.holds Try.pinned (OpenSpec.ofChange blobHeadsWrong)

/- THE SECOND FORM. 'bulk': how many values and letters a reading holds, each counted each time it is reached (what is shared counts as often as it is met; a slice's spare places count too). A statement '..UptoSaid' is the law's where the arguments, and the package variables that the reading takes, are together of bulk at most 1048576: NARROWER than '..Said'. Prove '..Said' where nothing that the law and all that it calls make is longer than what came in: it says more and counts as full. Else prove '..UptoSaid'. A law counts once. -/
mutual
def uptoBulk {H : Type} : DataW H → Nat
  | .lit (.string bytes) => bytes.length + 1
  | .lit _ => 1
  | .nil => 1
  | .ptr d => uptoBulk d + 1
  | .slice elems spare => uptoBulkAll elems + uptoBulkAll spare + 1
  | .agg parts => uptoBulkAll parts + 1
  | .iface _ d => uptoBulk d + 1
  | .map entries => uptoBulkEntries entries + 1
  | .held _ => 1
def uptoBulkAll {H : Type} : List (DataW H) → Nat
  | [] => 0
  | d :: r => uptoBulk d + uptoBulkAll r
def uptoBulkEntries {H : Type} : List (Lit × DataW H) → Nat
  | [] => 0
  | x :: r => uptoBulkEntry x + uptoBulkEntries r
def uptoBulkEntry {H : Type} : Lit × DataW H → Nat
  | (.string bytes, d) => bytes.length + uptoBulk d + 1
  | (_, d) => uptoBulk d + 1
 end
def uptoSmall : (H : Type) → List (DataW H) → Bool := fun _ ds => decide (uptoBulkAll ds ≤ 1048576)
def OpenSpec.upto (s : _root_.Go.ChangeSpec) : _root_.Go.OpenSpec := { _root_.Go.OpenSpec.ofChange s with cond := some uptoSmall }

/-- 'keyloftlaw01.AesTells', WHERE WHAT IT READS IS OF BULK AT MOST 1048576: true; the input reads as it did. -/
def aesTellsUptoRow : OpenClaim := { program := "ytcchhfkmhbjdmaa", sum := "6433376a8ee94e71c1226a706a9cb99c78d5dceb164ad5753a3c3b7842300674", func := "keyloft/keyloftlaw01.AesTells", spec := "aesTells", unfollowed := true, recurses := true, apart := false, narrowed := true }
def AesTellsUptoSaid : Prop := aesTellsUptoRow.holds Try.pinned (OpenSpec.upto aesTellsSpec)

/-- 'keyloftlaw01.AesApart', WHERE WHAT IT READS IS OF BULK AT MOST 1048576: true; the input reads as it did. -/
def aesApartUptoRow : OpenClaim := { program := "ytcchhfkmhbjdmaa", sum := "6433376a8ee94e71c1226a706a9cb99c78d5dceb164ad5753a3c3b7842300674", func := "keyloft/keyloftlaw01.AesApart", spec := "aesApart", unfollowed := true, recurses := true, apart := false, narrowed := true }
def AesApartUptoSaid : Prop := aesApartUptoRow.holds Try.pinned (OpenSpec.upto aesApartSpec)

/-- 'keyloftlaw01.AesField', WHERE WHAT IT READS IS OF BULK AT MOST 1048576: true; the input reads as it did. -/
def aesFieldUptoRow : OpenClaim := { program := "ytcchhfkmhbjdmaa", sum := "6433376a8ee94e71c1226a706a9cb99c78d5dceb164ad5753a3c3b7842300674", func := "keyloft/keyloftlaw01.AesField", spec := "aesField", unfollowed := true, recurses := true, apart := false, narrowed := true }
def AesFieldUptoSaid : Prop := aesFieldUptoRow.holds Try.pinned (OpenSpec.upto aesFieldSpec)

/-- 'keyloftlaw01.AesInverse', WHERE WHAT IT READS IS OF BULK AT MOST 1048576: true; the input reads as it did. -/
def aesInverseUptoRow : OpenClaim := { program := "ytcchhfkmhbjdmaa", sum := "6433376a8ee94e71c1226a706a9cb99c78d5dceb164ad5753a3c3b7842300674", func := "keyloft/keyloftlaw01.AesInverse", spec := "aesInverse", unfollowed := true, recurses := true, apart := false, narrowed := true }
def AesInverseUptoSaid : Prop := aesInverseUptoRow.holds Try.pinned (OpenSpec.upto aesInverseSpec)

/-- 'keyloftlaw02.ShaTells', WHERE WHAT IT READS IS OF BULK AT MOST 1048576: true; the input reads as it did. -/
def shaTellsUptoRow : OpenClaim := { program := "ytcchhfkmhbjdmaa", sum := "6433376a8ee94e71c1226a706a9cb99c78d5dceb164ad5753a3c3b7842300674", func := "keyloft/keyloftlaw02.ShaTells", spec := "shaTells", inPlace := ["internal/abi.NoEscape", "internal/bytealg.MakeNoZero"], apart := false, narrowed := true }
def ShaTellsUptoSaid : Prop := shaTellsUptoRow.holds Try.pinned (OpenSpec.upto shaTellsSpec)

/-- 'keyloftlaw02.ShaAgain', WHERE WHAT IT READS IS OF BULK AT MOST 1048576: true; the input reads as it did. -/
def shaAgainUptoRow : OpenClaim := { program := "ytcchhfkmhbjdmaa", sum := "6433376a8ee94e71c1226a706a9cb99c78d5dceb164ad5753a3c3b7842300674", func := "keyloft/keyloftlaw02.ShaAgain", spec := "shaAgain", inPlace := ["internal/abi.NoEscape", "internal/bytealg.MakeNoZero"], apart := false, narrowed := true }
def ShaAgainUptoSaid : Prop := shaAgainUptoRow.holds Try.pinned (OpenSpec.upto shaAgainSpec)

/-- 'keyloftlaw03.MacTells', WHERE WHAT IT READS IS OF BULK AT MOST 1048576: true; the input reads as it did. -/
def macTellsUptoRow : OpenClaim := { program := "ytcchhfkmhbjdmaa", sum := "6433376a8ee94e71c1226a706a9cb99c78d5dceb164ad5753a3c3b7842300674", func := "keyloft/keyloftlaw03.MacTells", spec := "macTells", inPlace := ["internal/abi.NoEscape", "internal/bytealg.MakeNoZero"], unfollowed := true, recurses := true, apart := false, narrowed := true }
def MacTellsUptoSaid : Prop := macTellsUptoRow.holds Try.pinned (OpenSpec.upto macTellsSpec)

/-- 'keyloftlaw03.MacKeys', WHERE WHAT IT READS IS OF BULK AT MOST 1048576: true; the input reads as it did. -/
def macKeysUptoRow : OpenClaim := { program := "ytcchhfkmhbjdmaa", sum := "6433376a8ee94e71c1226a706a9cb99c78d5dceb164ad5753a3c3b7842300674", func := "keyloft/keyloftlaw03.MacKeys", spec := "macKeys", inPlace := ["internal/abi.NoEscape", "internal/bytealg.MakeNoZero"], unfollowed := true, recurses := true, apart := false, narrowed := true }
def MacKeysUptoSaid : Prop := macKeysUptoRow.holds Try.pinned (OpenSpec.upto macKeysSpec)

/-- 'keyloftlaw04.GcmTells', WHERE WHAT IT READS IS OF BULK AT MOST 1048576: true; the input reads as it did. -/
def gcmTellsUptoRow : OpenClaim := { program := "ytcchhfkmhbjdmaa", sum := "6433376a8ee94e71c1226a706a9cb99c78d5dceb164ad5753a3c3b7842300674", func := "keyloft/keyloftlaw04.GcmTells", spec := "gcmTells", inPlace := ["internal/abi.NoEscape", "internal/bytealg.MakeNoZero"], unfollowed := true, recurses := true, apart := false, narrowed := true }
def GcmTellsUptoSaid : Prop := gcmTellsUptoRow.holds Try.pinned (OpenSpec.upto gcmTellsSpec)

/-- 'keyloftlaw04.GcmStream', WHERE WHAT IT READS IS OF BULK AT MOST 1048576: true; the input reads as it did. -/
def gcmStreamUptoRow : OpenClaim := { program := "ytcchhfkmhbjdmaa", sum := "6433376a8ee94e71c1226a706a9cb99c78d5dceb164ad5753a3c3b7842300674", func := "keyloft/keyloftlaw04.GcmStream", spec := "gcmStream", inPlace := ["internal/abi.NoEscape", "internal/bytealg.MakeNoZero"], unfollowed := true, recurses := true, apart := false, narrowed := true }
def GcmStreamUptoSaid : Prop := gcmStreamUptoRow.holds Try.pinned (OpenSpec.upto gcmStreamSpec)

/-- 'keyloftlaw04.GcmField', WHERE WHAT IT READS IS OF BULK AT MOST 1048576: true; the input reads as it did. -/
def gcmFieldUptoRow : OpenClaim := { program := "ytcchhfkmhbjdmaa", sum := "6433376a8ee94e71c1226a706a9cb99c78d5dceb164ad5753a3c3b7842300674", func := "keyloft/keyloftlaw04.GcmField", spec := "gcmField", inPlace := ["internal/abi.NoEscape", "internal/bytealg.MakeNoZero"], unfollowed := true, recurses := true, apart := false, narrowed := true }
def GcmFieldUptoSaid : Prop := gcmFieldUptoRow.holds Try.pinned (OpenSpec.upto gcmFieldSpec)

/-- 'keyloftlaw05.WrapTells', WHERE WHAT IT READS IS OF BULK AT MOST 1048576: true; the input reads as it did. -/
def wrapTellsUptoRow : OpenClaim := { program := "ytcchhfkmhbjdmaa", sum := "6433376a8ee94e71c1226a706a9cb99c78d5dceb164ad5753a3c3b7842300674", func := "keyloft/keyloftlaw05.WrapTells", spec := "wrapTells", inPlace := ["internal/abi.NoEscape", "internal/bytealg.MakeNoZero"], unfollowed := true, recurses := true, apart := false, narrowed := true }
def WrapTellsUptoSaid : Prop := wrapTellsUptoRow.holds Try.pinned (OpenSpec.upto wrapTellsSpec)

/-- 'keyloftlaw11.RingTells', WHERE WHAT IT READS IS OF BULK AT MOST 1048576: true; the input reads as it did. -/
def ringTellsUptoRow : OpenClaim := { program := "ytcchhfkmhbjdmaa", sum := "6433376a8ee94e71c1226a706a9cb99c78d5dceb164ad5753a3c3b7842300674", func := "keyloft/keyloftlaw11.RingTells", spec := "ringTells", inPlace := ["internal/abi.NoEscape", "internal/bytealg.MakeNoZero"], unfollowed := true, recurses := true, apart := false, narrowed := true }
def RingTellsUptoSaid : Prop := ringTellsUptoRow.holds Try.pinned (OpenSpec.upto ringTellsSpec)

/-- 'keyloftlaw12.BlobHeads', WHERE WHAT IT READS IS OF BULK AT MOST 1048576: true; the input reads as it did. -/
def blobHeadsUptoRow : OpenClaim := { program := "ytcchhfkmhbjdmaa", sum := "6433376a8ee94e71c1226a706a9cb99c78d5dceb164ad5753a3c3b7842300674", func := "keyloft/keyloftlaw12.BlobHeads", spec := "blobHeads", inPlace := ["internal/abi.NoEscape", "internal/bytealg.abigen_runtime_cmpstring", "internal/bytealg.MakeNoZero"], unfollowed := true, recurses := true, apart := false, narrowed := true }
def BlobHeadsUptoSaid : Prop := blobHeadsUptoRow.holds Try.pinned (OpenSpec.upto blobHeadsSpec)

end Rows
end Go.Proofs.Ytcchhfkmhbjdmaa
