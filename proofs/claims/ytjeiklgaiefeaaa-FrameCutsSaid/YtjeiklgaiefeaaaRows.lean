/-
  No cell of these rows narrows 'for every input' (looked for: loops, veiled, ifaces, maps, wideKeys, modest, calm, conditions, laid).
  DERIVED. THE GIVEN ROWS OF THIS SEAT. 18 by the template 'for every input the law returns true; each argument reads behind the call as it read before'; 0 by the template 'total and deterministic' (their statements: YtjeiklgaiefeaaaTotals.lean).
  GIVEN WITH THE SEED: the statements are not yours to turn. If you find one false, say at which input.
  Laid BY PROGRAM, IN A SANDBOX (cutbox-rows.mjs): the forced cells as the released guide's own fill.sh prints them over the translation 30d147471c3c3915… (all of the seat's roots in one cut). By AI agents, Wed Nov 11 2026. No macro, syntax, notation, axiom, sorry.
-/
import Derived.Test.YtjeiklgaiefeaaaChecked
import GoSem.Claim
import GoSem.ClaimJoined
import GoSem.ClaimMapViews
import Derived.JoinedTies
import Derived.KernelRfl
namespace Go.Proofs.Ytjeiklgaiefeaaa
/- THE CELL 'sum', in the pinned program and in every row, IS THE sha256 OF THE DUMP (.gsa) THAT YtjeiklgaiefeaaaProg.lean LOADS. Nothing in Lean hashes anything: it is a label: what it is worth is what the hold of that sum in a sandbox is worth. -/
noncomputable def Try.pinned : Pinned := { name := "ytjeiklgaiefeaaa", sum := "30d147471c3c39158cfa77f2f4b0fd34b8e52a0592a8c47462ced88f296307eb", checked := Try.checked }
namespace Rows
def none {H : Type} : Left H := { results := [], args := [] }

/-- 'recensionlaw02.CrcsumTable': WHATEVER THE INPUT: true; the input reads as it did. -/
def crcsumTableSpec : ChangeSpec := { name := "crcsumTable", fn := fun _ => fun
  | [] => { results := [.lit (.bool true)], args := [] }
  | _ => none }
def crcsumTableRow : OpenClaim := { program := "ytjeiklgaiefeaaa", sum := "30d147471c3c39158cfa77f2f4b0fd34b8e52a0592a8c47462ced88f296307eb", func := "recension/recensionlaw02.CrcsumTable", spec := "crcsumTable", apart := false }
def CrcsumTableSaid : Prop := crcsumTableRow.holds Try.pinned (OpenSpec.ofChange crcsumTableSpec)

/-- ITS FALSE NEIGHBOUR: 'it returns false'. Refute it at one input. -/
def crcsumTableWrong : ChangeSpec := { name := "crcsumTable", fn := fun _ => fun
  | [] => { results := [.lit (.bool false)], args := [] }
  | _ => none }
def CrcsumTableWrongFalsely : Prop := crcsumTableRow.holds Try.pinned (OpenSpec.ofChange crcsumTableWrong)

/-- 'recensionlaw02.CrcsumSums': WHATEVER THE INPUT: true; the input reads as it did. -/
def crcsumSumsSpec : ChangeSpec := { name := "crcsumSums", fn := fun _ => fun
  | [d1, d2] => { results := [.lit (.bool true)], args := [d1, d2] }
  | _ => none }
def crcsumSumsRow : OpenClaim := { program := "ytjeiklgaiefeaaa", sum := "30d147471c3c39158cfa77f2f4b0fd34b8e52a0592a8c47462ced88f296307eb", func := "recension/recensionlaw02.CrcsumSums", spec := "crcsumSums", apart := false }
def CrcsumSumsSaid : Prop := crcsumSumsRow.holds Try.pinned (OpenSpec.ofChange crcsumSumsSpec)

/-- ITS FALSE NEIGHBOUR: 'it returns false'. Refute it at one input. -/
def crcsumSumsWrong : ChangeSpec := { name := "crcsumSums", fn := fun _ => fun
  | [d1, d2] => { results := [.lit (.bool false)], args := [d1, d2] }
  | _ => none }
def CrcsumSumsWrongFalsely : Prop := crcsumSumsRow.holds Try.pinned (OpenSpec.ofChange crcsumSumsWrong)

/-- 'recensionlaw02.CrcsumAny': WHATEVER THE INPUT: true; the input reads as it did. -/
def crcsumAnySpec : ChangeSpec := { name := "crcsumAny", fn := fun _ => fun
  | [d1, d2] => { results := [.lit (.bool true)], args := [d1, d2] }
  | _ => none }
def crcsumAnyRow : OpenClaim := { program := "ytjeiklgaiefeaaa", sum := "30d147471c3c39158cfa77f2f4b0fd34b8e52a0592a8c47462ced88f296307eb", func := "recension/recensionlaw02.CrcsumAny", spec := "crcsumAny", apart := false }
def CrcsumAnySaid : Prop := crcsumAnyRow.holds Try.pinned (OpenSpec.ofChange crcsumAnySpec)

/-- ITS FALSE NEIGHBOUR: 'it returns false'. Refute it at one input. -/
def crcsumAnyWrong : ChangeSpec := { name := "crcsumAny", fn := fun _ => fun
  | [d1, d2] => { results := [.lit (.bool false)], args := [d1, d2] }
  | _ => none }
def CrcsumAnyWrongFalsely : Prop := crcsumAnyRow.holds Try.pinned (OpenSpec.ofChange crcsumAnyWrong)

/-- 'recensionlaw02.CrcsumBytes': WHATEVER THE INPUT: true; the input reads as it did. -/
def crcsumBytesSpec : ChangeSpec := { name := "crcsumBytes", fn := fun _ => fun
  | [d] => { results := [.lit (.bool true)], args := [d] }
  | _ => none }
def crcsumBytesRow : OpenClaim := { program := "ytjeiklgaiefeaaa", sum := "30d147471c3c39158cfa77f2f4b0fd34b8e52a0592a8c47462ced88f296307eb", func := "recension/recensionlaw02.CrcsumBytes", spec := "crcsumBytes", apart := false }
def CrcsumBytesSaid : Prop := crcsumBytesRow.holds Try.pinned (OpenSpec.ofChange crcsumBytesSpec)

/-- ITS FALSE NEIGHBOUR: 'it returns false'. Refute it at one input. -/
def crcsumBytesWrong : ChangeSpec := { name := "crcsumBytes", fn := fun _ => fun
  | [d] => { results := [.lit (.bool false)], args := [d] }
  | _ => none }
def CrcsumBytesWrongFalsely : Prop := crcsumBytesRow.holds Try.pinned (OpenSpec.ofChange crcsumBytesWrong)

/-- 'recensionlaw02.CrcsumOne': WHATEVER THE INPUT: true; the input reads as it did. -/
def crcsumOneSpec : ChangeSpec := { name := "crcsumOne", fn := fun _ => fun
  | [d1, d2, d3] => { results := [.lit (.bool true)], args := [d1, d2, d3] }
  | _ => none }
def crcsumOneRow : OpenClaim := { program := "ytjeiklgaiefeaaa", sum := "30d147471c3c39158cfa77f2f4b0fd34b8e52a0592a8c47462ced88f296307eb", func := "recension/recensionlaw02.CrcsumOne", spec := "crcsumOne", apart := false }
def CrcsumOneSaid : Prop := crcsumOneRow.holds Try.pinned (OpenSpec.ofChange crcsumOneSpec)

/-- ITS FALSE NEIGHBOUR: 'it returns false'. Refute it at one input. -/
def crcsumOneWrong : ChangeSpec := { name := "crcsumOne", fn := fun _ => fun
  | [d1, d2, d3] => { results := [.lit (.bool false)], args := [d1, d2, d3] }
  | _ => none }
def CrcsumOneWrongFalsely : Prop := crcsumOneRow.holds Try.pinned (OpenSpec.ofChange crcsumOneWrong)

/-- 'recensionlaw02.CrcsumThree': WHATEVER THE INPUT: true; the input reads as it did. -/
def crcsumThreeSpec : ChangeSpec := { name := "crcsumThree", fn := fun _ => fun
  | [d1, d2, d3] => { results := [.lit (.bool true)], args := [d1, d2, d3] }
  | _ => none }
def crcsumThreeRow : OpenClaim := { program := "ytjeiklgaiefeaaa", sum := "30d147471c3c39158cfa77f2f4b0fd34b8e52a0592a8c47462ced88f296307eb", func := "recension/recensionlaw02.CrcsumThree", spec := "crcsumThree", apart := false }
def CrcsumThreeSaid : Prop := crcsumThreeRow.holds Try.pinned (OpenSpec.ofChange crcsumThreeSpec)

/-- ITS FALSE NEIGHBOUR: 'it returns false'. Refute it at one input. -/
def crcsumThreeWrong : ChangeSpec := { name := "crcsumThree", fn := fun _ => fun
  | [d1, d2, d3] => { results := [.lit (.bool false)], args := [d1, d2, d3] }
  | _ => none }
def CrcsumThreeWrongFalsely : Prop := crcsumThreeRow.holds Try.pinned (OpenSpec.ofChange crcsumThreeWrong)

/-- 'recensionlaw01.VarintNats': WHATEVER THE INPUT: true; the input reads as it did. -/
def varintNatsSpec : ChangeSpec := { name := "varintNats", fn := fun _ => fun
  | [d1, d2] => { results := [.lit (.bool true)], args := [d1, d2] }
  | _ => none }
def varintNatsRow : OpenClaim := { program := "ytjeiklgaiefeaaa", sum := "30d147471c3c39158cfa77f2f4b0fd34b8e52a0592a8c47462ced88f296307eb", func := "recension/recensionlaw01.VarintNats", spec := "varintNats", apart := false }
def VarintNatsSaid : Prop := varintNatsRow.holds Try.pinned (OpenSpec.ofChange varintNatsSpec)

/-- ITS FALSE NEIGHBOUR: 'it returns false'. Refute it at one input. -/
def varintNatsWrong : ChangeSpec := { name := "varintNats", fn := fun _ => fun
  | [d1, d2] => { results := [.lit (.bool false)], args := [d1, d2] }
  | _ => none }
def VarintNatsWrongFalsely : Prop := varintNatsRow.holds Try.pinned (OpenSpec.ofChange varintNatsWrong)

/-- 'recensionlaw01.VarintInts': WHATEVER THE INPUT: true; the input reads as it did. -/
def varintIntsSpec : ChangeSpec := { name := "varintInts", fn := fun _ => fun
  | [d1, d2] => { results := [.lit (.bool true)], args := [d1, d2] }
  | _ => none }
def varintIntsRow : OpenClaim := { program := "ytjeiklgaiefeaaa", sum := "30d147471c3c39158cfa77f2f4b0fd34b8e52a0592a8c47462ced88f296307eb", func := "recension/recensionlaw01.VarintInts", spec := "varintInts", apart := false }
def VarintIntsSaid : Prop := varintIntsRow.holds Try.pinned (OpenSpec.ofChange varintIntsSpec)

/-- ITS FALSE NEIGHBOUR: 'it returns false'. Refute it at one input. -/
def varintIntsWrong : ChangeSpec := { name := "varintInts", fn := fun _ => fun
  | [d1, d2] => { results := [.lit (.bool false)], args := [d1, d2] }
  | _ => none }
def VarintIntsWrongFalsely : Prop := varintIntsRow.holds Try.pinned (OpenSpec.ofChange varintIntsWrong)

/-- 'recensionlaw01.VarintTexts': WHATEVER THE INPUT: true; the input reads as it did. -/
def varintTextsSpec : ChangeSpec := { name := "varintTexts", fn := fun _ => fun
  | [d1, d2] => { results := [.lit (.bool true)], args := [d1, d2] }
  | _ => none }
def varintTextsRow : OpenClaim := { program := "ytjeiklgaiefeaaa", sum := "30d147471c3c39158cfa77f2f4b0fd34b8e52a0592a8c47462ced88f296307eb", func := "recension/recensionlaw01.VarintTexts", spec := "varintTexts", apart := false }
def VarintTextsSaid : Prop := varintTextsRow.holds Try.pinned (OpenSpec.ofChange varintTextsSpec)

/-- ITS FALSE NEIGHBOUR: 'it returns false'. Refute it at one input. -/
def varintTextsWrong : ChangeSpec := { name := "varintTexts", fn := fun _ => fun
  | [d1, d2] => { results := [.lit (.bool false)], args := [d1, d2] }
  | _ => none }
def VarintTextsWrongFalsely : Prop := varintTextsRow.holds Try.pinned (OpenSpec.ofChange varintTextsWrong)

/-- 'recensionlaw01.VarintCuts': WHATEVER THE INPUT: true; the input reads as it did. -/
def varintCutsSpec : ChangeSpec := { name := "varintCuts", fn := fun _ => fun
  | [d1, d2, d3] => { results := [.lit (.bool true)], args := [d1, d2, d3] }
  | _ => none }
def varintCutsRow : OpenClaim := { program := "ytjeiklgaiefeaaa", sum := "30d147471c3c39158cfa77f2f4b0fd34b8e52a0592a8c47462ced88f296307eb", func := "recension/recensionlaw01.VarintCuts", spec := "varintCuts", apart := false }
def VarintCutsSaid : Prop := varintCutsRow.holds Try.pinned (OpenSpec.ofChange varintCutsSpec)

/-- ITS FALSE NEIGHBOUR: 'it returns false'. Refute it at one input. -/
def varintCutsWrong : ChangeSpec := { name := "varintCuts", fn := fun _ => fun
  | [d1, d2, d3] => { results := [.lit (.bool false)], args := [d1, d2, d3] }
  | _ => none }
def VarintCutsWrongFalsely : Prop := varintCutsRow.holds Try.pinned (OpenSpec.ofChange varintCutsWrong)

/-- 'recensionlaw01.VarintLists': WHATEVER THE INPUT: true; the input reads as it did. -/
def varintListsSpec : ChangeSpec := { name := "varintLists", fn := fun _ => fun
  | [d1, d2] => { results := [.lit (.bool true)], args := [d1, d2] }
  | _ => none }
def varintListsRow : OpenClaim := { program := "ytjeiklgaiefeaaa", sum := "30d147471c3c39158cfa77f2f4b0fd34b8e52a0592a8c47462ced88f296307eb", func := "recension/recensionlaw01.VarintLists", spec := "varintLists", apart := false }
def VarintListsSaid : Prop := varintListsRow.holds Try.pinned (OpenSpec.ofChange varintListsSpec)

/-- ITS FALSE NEIGHBOUR: 'it returns false'. Refute it at one input. -/
def varintListsWrong : ChangeSpec := { name := "varintLists", fn := fun _ => fun
  | [d1, d2] => { results := [.lit (.bool false)], args := [d1, d2] }
  | _ => none }
def VarintListsWrongFalsely : Prop := varintListsRow.holds Try.pinned (OpenSpec.ofChange varintListsWrong)

/-- 'recensionlaw01.VarintBack': WHATEVER THE INPUT: true; the input reads as it did. -/
def varintBackSpec : ChangeSpec := { name := "varintBack", fn := fun _ => fun
  | [d1, d2, d3, d4] => { results := [.lit (.bool true)], args := [d1, d2, d3, d4] }
  | _ => none }
def varintBackRow : OpenClaim := { program := "ytjeiklgaiefeaaa", sum := "30d147471c3c39158cfa77f2f4b0fd34b8e52a0592a8c47462ced88f296307eb", func := "recension/recensionlaw01.VarintBack", spec := "varintBack", apart := false }
def VarintBackSaid : Prop := varintBackRow.holds Try.pinned (OpenSpec.ofChange varintBackSpec)

/-- ITS FALSE NEIGHBOUR: 'it returns false'. Refute it at one input. -/
def varintBackWrong : ChangeSpec := { name := "varintBack", fn := fun _ => fun
  | [d1, d2, d3, d4] => { results := [.lit (.bool false)], args := [d1, d2, d3, d4] }
  | _ => none }
def VarintBackWrongFalsely : Prop := varintBackRow.holds Try.pinned (OpenSpec.ofChange varintBackWrong)

/-- 'recensionlaw01.VarintAgain': WHATEVER THE INPUT: true; the input reads as it did. -/
def varintAgainSpec : ChangeSpec := { name := "varintAgain", fn := fun _ => fun
  | [d] => { results := [.lit (.bool true)], args := [d] }
  | _ => none }
def varintAgainRow : OpenClaim := { program := "ytjeiklgaiefeaaa", sum := "30d147471c3c39158cfa77f2f4b0fd34b8e52a0592a8c47462ced88f296307eb", func := "recension/recensionlaw01.VarintAgain", spec := "varintAgain", apart := false }
def VarintAgainSaid : Prop := varintAgainRow.holds Try.pinned (OpenSpec.ofChange varintAgainSpec)

/-- ITS FALSE NEIGHBOUR: 'it returns false'. Refute it at one input. -/
def varintAgainWrong : ChangeSpec := { name := "varintAgain", fn := fun _ => fun
  | [d] => { results := [.lit (.bool false)], args := [d] }
  | _ => none }
def VarintAgainWrongFalsely : Prop := varintAgainRow.holds Try.pinned (OpenSpec.ofChange varintAgainWrong)

/-- 'recensionlaw03.FrameFrames': WHATEVER THE INPUT: true; the input reads as it did. -/
def frameFramesSpec : ChangeSpec := { name := "frameFrames", fn := fun _ => fun
  | [d1, d2] => { results := [.lit (.bool true)], args := [d1, d2] }
  | _ => none }
def frameFramesRow : OpenClaim := { program := "ytjeiklgaiefeaaa", sum := "30d147471c3c39158cfa77f2f4b0fd34b8e52a0592a8c47462ced88f296307eb", func := "recension/recensionlaw03.FrameFrames", spec := "frameFrames", unfollowed := true, recurses := true, apart := false }
def FrameFramesSaid : Prop := frameFramesRow.holds Try.pinned (OpenSpec.ofChange frameFramesSpec)

/-- ITS FALSE NEIGHBOUR: 'it returns false'. Refute it at one input. -/
def frameFramesWrong : ChangeSpec := { name := "frameFrames", fn := fun _ => fun
  | [d1, d2] => { results := [.lit (.bool false)], args := [d1, d2] }
  | _ => none }
def FrameFramesWrongFalsely : Prop := frameFramesRow.holds Try.pinned (OpenSpec.ofChange frameFramesWrong)

/-- 'recensionlaw03.FrameSplits': WHATEVER THE INPUT: true; the input reads as it did. -/
def frameSplitsSpec : ChangeSpec := { name := "frameSplits", fn := fun _ => fun
  | [d1, d2] => { results := [.lit (.bool true)], args := [d1, d2] }
  | _ => none }
def frameSplitsRow : OpenClaim := { program := "ytjeiklgaiefeaaa", sum := "30d147471c3c39158cfa77f2f4b0fd34b8e52a0592a8c47462ced88f296307eb", func := "recension/recensionlaw03.FrameSplits", spec := "frameSplits", unfollowed := true, recurses := true, apart := false }
def FrameSplitsSaid : Prop := frameSplitsRow.holds Try.pinned (OpenSpec.ofChange frameSplitsSpec)

/-- ITS FALSE NEIGHBOUR: 'it returns false'. Refute it at one input. -/
def frameSplitsWrong : ChangeSpec := { name := "frameSplits", fn := fun _ => fun
  | [d1, d2] => { results := [.lit (.bool false)], args := [d1, d2] }
  | _ => none }
def FrameSplitsWrongFalsely : Prop := frameSplitsRow.holds Try.pinned (OpenSpec.ofChange frameSplitsWrong)

/-- 'recensionlaw03.FrameBack': WHATEVER THE INPUT: true; the input reads as it did. -/
def frameBackSpec : ChangeSpec := { name := "frameBack", fn := fun _ => fun
  | [d] => { results := [.lit (.bool true)], args := [d] }
  | _ => none }
def frameBackRow : OpenClaim := { program := "ytjeiklgaiefeaaa", sum := "30d147471c3c39158cfa77f2f4b0fd34b8e52a0592a8c47462ced88f296307eb", func := "recension/recensionlaw03.FrameBack", spec := "frameBack", unfollowed := true, recurses := true, apart := false }
def FrameBackSaid : Prop := frameBackRow.holds Try.pinned (OpenSpec.ofChange frameBackSpec)

/-- ITS FALSE NEIGHBOUR: 'it returns false'. Refute it at one input. -/
def frameBackWrong : ChangeSpec := { name := "frameBack", fn := fun _ => fun
  | [d] => { results := [.lit (.bool false)], args := [d] }
  | _ => none }
def FrameBackWrongFalsely : Prop := frameBackRow.holds Try.pinned (OpenSpec.ofChange frameBackWrong)

/-- 'recensionlaw03.FrameCuts': WHATEVER THE INPUT: true; the input reads as it did. -/
def frameCutsSpec : ChangeSpec := { name := "frameCuts", fn := fun _ => fun
  | [d1, d2] => { results := [.lit (.bool true)], args := [d1, d2] }
  | _ => none }
def frameCutsRow : OpenClaim := { program := "ytjeiklgaiefeaaa", sum := "30d147471c3c39158cfa77f2f4b0fd34b8e52a0592a8c47462ced88f296307eb", func := "recension/recensionlaw03.FrameCuts", spec := "frameCuts", unfollowed := true, recurses := true, apart := false }
def FrameCutsSaid : Prop := frameCutsRow.holds Try.pinned (OpenSpec.ofChange frameCutsSpec)

/-- ITS FALSE NEIGHBOUR: 'it returns false'. Refute it at one input. -/
def frameCutsWrong : ChangeSpec := { name := "frameCuts", fn := fun _ => fun
  | [d1, d2] => { results := [.lit (.bool false)], args := [d1, d2] }
  | _ => none }
def FrameCutsWrongFalsely : Prop := frameCutsRow.holds Try.pinned (OpenSpec.ofChange frameCutsWrong)

/-- 'recensionlaw03.FrameAgain': WHATEVER THE INPUT: true; the input reads as it did. -/
def frameAgainSpec : ChangeSpec := { name := "frameAgain", fn := fun _ => fun
  | [d] => { results := [.lit (.bool true)], args := [d] }
  | _ => none }
def frameAgainRow : OpenClaim := { program := "ytjeiklgaiefeaaa", sum := "30d147471c3c39158cfa77f2f4b0fd34b8e52a0592a8c47462ced88f296307eb", func := "recension/recensionlaw03.FrameAgain", spec := "frameAgain", unfollowed := true, recurses := true, apart := false }
def FrameAgainSaid : Prop := frameAgainRow.holds Try.pinned (OpenSpec.ofChange frameAgainSpec)

/-- ITS FALSE NEIGHBOUR: 'it returns false'. Refute it at one input. -/
def frameAgainWrong : ChangeSpec := { name := "frameAgain", fn := fun _ => fun
  | [d] => { results := [.lit (.bool false)], args := [d] }
  | _ => none }
def FrameAgainWrongFalsely : Prop := frameAgainRow.holds Try.pinned (OpenSpec.ofChange frameAgainWrong)

/- THE SECOND FORM. 'bulk': how many values and letters a reading holds, each counted each time it is reached (what is shared counts as often as it is met; a slice's spare places count too). A statement '..UptoSaid' is the law's where the arguments, and the package variables that the reading takes, are together of bulk at most 1048576: NARROWER than '..Said'. Prove '..Said' where nothing that the law and all that it calls make is longer than what came in: it says more and counts as full. Else prove '..UptoSaid'. A law counts once. -/
mutual
def uptoBulk {H : Type} : DataW H → Nat
  | .lit (.string bytes) => bytes.length + 1
  | .lit _ => 1
  | .nil => 1
  | .ptr d => uptoBulk d + 1
  | .slice elems spare => uptoBulkAll elems + uptoBulkAll spare + 1
  | .agg parts => uptoBulkAll parts + 1
  | .iface _ d => uptoBulk d + 1
  | .map entries => uptoBulkEntries entries + 1
  | .held _ => 1
def uptoBulkAll {H : Type} : List (DataW H) → Nat
  | [] => 0
  | d :: r => uptoBulk d + uptoBulkAll r
def uptoBulkEntries {H : Type} : List (Lit × DataW H) → Nat
  | [] => 0
  | x :: r => uptoBulkEntry x + uptoBulkEntries r
def uptoBulkEntry {H : Type} : Lit × DataW H → Nat
  | (.string bytes, d) => bytes.length + uptoBulk d + 1
  | (_, d) => uptoBulk d + 1
 end
def uptoSmall : (H : Type) → List (DataW H) → Bool := fun _ ds => decide (uptoBulkAll ds ≤ 1048576)
def OpenSpec.upto (s : _root_.Go.ChangeSpec) : _root_.Go.OpenSpec := { _root_.Go.OpenSpec.ofChange s with cond := some uptoSmall }

/-- 'recensionlaw02.CrcsumTable', WHERE WHAT IT READS IS OF BULK AT MOST 1048576: true; the input reads as it did. -/
def crcsumTableUptoRow : OpenClaim := { program := "ytjeiklgaiefeaaa", sum := "30d147471c3c39158cfa77f2f4b0fd34b8e52a0592a8c47462ced88f296307eb", func := "recension/recensionlaw02.CrcsumTable", spec := "crcsumTable", apart := false, narrowed := true }
def CrcsumTableUptoSaid : Prop := crcsumTableUptoRow.holds Try.pinned (OpenSpec.upto crcsumTableSpec)

/-- 'recensionlaw02.CrcsumSums', WHERE WHAT IT READS IS OF BULK AT MOST 1048576: true; the input reads as it did. -/
def crcsumSumsUptoRow : OpenClaim := { program := "ytjeiklgaiefeaaa", sum := "30d147471c3c39158cfa77f2f4b0fd34b8e52a0592a8c47462ced88f296307eb", func := "recension/recensionlaw02.CrcsumSums", spec := "crcsumSums", apart := false, narrowed := true }
def CrcsumSumsUptoSaid : Prop := crcsumSumsUptoRow.holds Try.pinned (OpenSpec.upto crcsumSumsSpec)

/-- 'recensionlaw02.CrcsumAny', WHERE WHAT IT READS IS OF BULK AT MOST 1048576: true; the input reads as it did. -/
def crcsumAnyUptoRow : OpenClaim := { program := "ytjeiklgaiefeaaa", sum := "30d147471c3c39158cfa77f2f4b0fd34b8e52a0592a8c47462ced88f296307eb", func := "recension/recensionlaw02.CrcsumAny", spec := "crcsumAny", apart := false, narrowed := true }
def CrcsumAnyUptoSaid : Prop := crcsumAnyUptoRow.holds Try.pinned (OpenSpec.upto crcsumAnySpec)

/-- 'recensionlaw02.CrcsumBytes', WHERE WHAT IT READS IS OF BULK AT MOST 1048576: true; the input reads as it did. -/
def crcsumBytesUptoRow : OpenClaim := { program := "ytjeiklgaiefeaaa", sum := "30d147471c3c39158cfa77f2f4b0fd34b8e52a0592a8c47462ced88f296307eb", func := "recension/recensionlaw02.CrcsumBytes", spec := "crcsumBytes", apart := false, narrowed := true }
def CrcsumBytesUptoSaid : Prop := crcsumBytesUptoRow.holds Try.pinned (OpenSpec.upto crcsumBytesSpec)

/-- 'recensionlaw02.CrcsumOne', WHERE WHAT IT READS IS OF BULK AT MOST 1048576: true; the input reads as it did. -/
def crcsumOneUptoRow : OpenClaim := { program := "ytjeiklgaiefeaaa", sum := "30d147471c3c39158cfa77f2f4b0fd34b8e52a0592a8c47462ced88f296307eb", func := "recension/recensionlaw02.CrcsumOne", spec := "crcsumOne", apart := false, narrowed := true }
def CrcsumOneUptoSaid : Prop := crcsumOneUptoRow.holds Try.pinned (OpenSpec.upto crcsumOneSpec)

/-- 'recensionlaw02.CrcsumThree', WHERE WHAT IT READS IS OF BULK AT MOST 1048576: true; the input reads as it did. -/
def crcsumThreeUptoRow : OpenClaim := { program := "ytjeiklgaiefeaaa", sum := "30d147471c3c39158cfa77f2f4b0fd34b8e52a0592a8c47462ced88f296307eb", func := "recension/recensionlaw02.CrcsumThree", spec := "crcsumThree", apart := false, narrowed := true }
def CrcsumThreeUptoSaid : Prop := crcsumThreeUptoRow.holds Try.pinned (OpenSpec.upto crcsumThreeSpec)

/-- 'recensionlaw01.VarintNats', WHERE WHAT IT READS IS OF BULK AT MOST 1048576: true; the input reads as it did. -/
def varintNatsUptoRow : OpenClaim := { program := "ytjeiklgaiefeaaa", sum := "30d147471c3c39158cfa77f2f4b0fd34b8e52a0592a8c47462ced88f296307eb", func := "recension/recensionlaw01.VarintNats", spec := "varintNats", apart := false, narrowed := true }
def VarintNatsUptoSaid : Prop := varintNatsUptoRow.holds Try.pinned (OpenSpec.upto varintNatsSpec)

/-- 'recensionlaw01.VarintInts', WHERE WHAT IT READS IS OF BULK AT MOST 1048576: true; the input reads as it did. -/
def varintIntsUptoRow : OpenClaim := { program := "ytjeiklgaiefeaaa", sum := "30d147471c3c39158cfa77f2f4b0fd34b8e52a0592a8c47462ced88f296307eb", func := "recension/recensionlaw01.VarintInts", spec := "varintInts", apart := false, narrowed := true }
def VarintIntsUptoSaid : Prop := varintIntsUptoRow.holds Try.pinned (OpenSpec.upto varintIntsSpec)

/-- 'recensionlaw01.VarintTexts', WHERE WHAT IT READS IS OF BULK AT MOST 1048576: true; the input reads as it did. -/
def varintTextsUptoRow : OpenClaim := { program := "ytjeiklgaiefeaaa", sum := "30d147471c3c39158cfa77f2f4b0fd34b8e52a0592a8c47462ced88f296307eb", func := "recension/recensionlaw01.VarintTexts", spec := "varintTexts", apart := false, narrowed := true }
def VarintTextsUptoSaid : Prop := varintTextsUptoRow.holds Try.pinned (OpenSpec.upto varintTextsSpec)

/-- 'recensionlaw01.VarintCuts', WHERE WHAT IT READS IS OF BULK AT MOST 1048576: true; the input reads as it did. -/
def varintCutsUptoRow : OpenClaim := { program := "ytjeiklgaiefeaaa", sum := "30d147471c3c39158cfa77f2f4b0fd34b8e52a0592a8c47462ced88f296307eb", func := "recension/recensionlaw01.VarintCuts", spec := "varintCuts", apart := false, narrowed := true }
def VarintCutsUptoSaid : Prop := varintCutsUptoRow.holds Try.pinned (OpenSpec.upto varintCutsSpec)

/-- 'recensionlaw01.VarintLists', WHERE WHAT IT READS IS OF BULK AT MOST 1048576: true; the input reads as it did. -/
def varintListsUptoRow : OpenClaim := { program := "ytjeiklgaiefeaaa", sum := "30d147471c3c39158cfa77f2f4b0fd34b8e52a0592a8c47462ced88f296307eb", func := "recension/recensionlaw01.VarintLists", spec := "varintLists", apart := false, narrowed := true }
def VarintListsUptoSaid : Prop := varintListsUptoRow.holds Try.pinned (OpenSpec.upto varintListsSpec)

/-- 'recensionlaw01.VarintBack', WHERE WHAT IT READS IS OF BULK AT MOST 1048576: true; the input reads as it did. -/
def varintBackUptoRow : OpenClaim := { program := "ytjeiklgaiefeaaa", sum := "30d147471c3c39158cfa77f2f4b0fd34b8e52a0592a8c47462ced88f296307eb", func := "recension/recensionlaw01.VarintBack", spec := "varintBack", apart := false, narrowed := true }
def VarintBackUptoSaid : Prop := varintBackUptoRow.holds Try.pinned (OpenSpec.upto varintBackSpec)

/-- 'recensionlaw01.VarintAgain', WHERE WHAT IT READS IS OF BULK AT MOST 1048576: true; the input reads as it did. -/
def varintAgainUptoRow : OpenClaim := { program := "ytjeiklgaiefeaaa", sum := "30d147471c3c39158cfa77f2f4b0fd34b8e52a0592a8c47462ced88f296307eb", func := "recension/recensionlaw01.VarintAgain", spec := "varintAgain", apart := false, narrowed := true }
def VarintAgainUptoSaid : Prop := varintAgainUptoRow.holds Try.pinned (OpenSpec.upto varintAgainSpec)

/-- 'recensionlaw03.FrameFrames', WHERE WHAT IT READS IS OF BULK AT MOST 1048576: true; the input reads as it did. -/
def frameFramesUptoRow : OpenClaim := { program := "ytjeiklgaiefeaaa", sum := "30d147471c3c39158cfa77f2f4b0fd34b8e52a0592a8c47462ced88f296307eb", func := "recension/recensionlaw03.FrameFrames", spec := "frameFrames", unfollowed := true, recurses := true, apart := false, narrowed := true }
def FrameFramesUptoSaid : Prop := frameFramesUptoRow.holds Try.pinned (OpenSpec.upto frameFramesSpec)

/-- 'recensionlaw03.FrameSplits', WHERE WHAT IT READS IS OF BULK AT MOST 1048576: true; the input reads as it did. -/
def frameSplitsUptoRow : OpenClaim := { program := "ytjeiklgaiefeaaa", sum := "30d147471c3c39158cfa77f2f4b0fd34b8e52a0592a8c47462ced88f296307eb", func := "recension/recensionlaw03.FrameSplits", spec := "frameSplits", unfollowed := true, recurses := true, apart := false, narrowed := true }
def FrameSplitsUptoSaid : Prop := frameSplitsUptoRow.holds Try.pinned (OpenSpec.upto frameSplitsSpec)

/-- 'recensionlaw03.FrameBack', WHERE WHAT IT READS IS OF BULK AT MOST 1048576: true; the input reads as it did. -/
def frameBackUptoRow : OpenClaim := { program := "ytjeiklgaiefeaaa", sum := "30d147471c3c39158cfa77f2f4b0fd34b8e52a0592a8c47462ced88f296307eb", func := "recension/recensionlaw03.FrameBack", spec := "frameBack", unfollowed := true, recurses := true, apart := false, narrowed := true }
def FrameBackUptoSaid : Prop := frameBackUptoRow.holds Try.pinned (OpenSpec.upto frameBackSpec)

/-- 'recensionlaw03.FrameCuts', WHERE WHAT IT READS IS OF BULK AT MOST 1048576: true; the input reads as it did. -/
def frameCutsUptoRow : OpenClaim := { program := "ytjeiklgaiefeaaa", sum := "30d147471c3c39158cfa77f2f4b0fd34b8e52a0592a8c47462ced88f296307eb", func := "recension/recensionlaw03.FrameCuts", spec := "frameCuts", unfollowed := true, recurses := true, apart := false, narrowed := true }
def FrameCutsUptoSaid : Prop := frameCutsUptoRow.holds Try.pinned (OpenSpec.upto frameCutsSpec)

/-- 'recensionlaw03.FrameAgain', WHERE WHAT IT READS IS OF BULK AT MOST 1048576: true; the input reads as it did. -/
def frameAgainUptoRow : OpenClaim := { program := "ytjeiklgaiefeaaa", sum := "30d147471c3c39158cfa77f2f4b0fd34b8e52a0592a8c47462ced88f296307eb", func := "recension/recensionlaw03.FrameAgain", spec := "frameAgain", unfollowed := true, recurses := true, apart := false, narrowed := true }
def FrameAgainUptoSaid : Prop := frameAgainUptoRow.holds Try.pinned (OpenSpec.upto frameAgainSpec)

end Rows
end Go.Proofs.Ytjeiklgaiefeaaa
