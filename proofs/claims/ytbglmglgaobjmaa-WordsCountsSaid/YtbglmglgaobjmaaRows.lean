/-
  No cell of these rows narrows 'for every input' (looked for: loops, veiled, ifaces, maps, wideKeys, modest, calm, conditions, laid).
  DERIVED. THE GIVEN ROWS OF THIS SEAT. 15 by the template 'for every input the law returns true; each argument reads behind the call as it read before'; 0 by the template 'total and deterministic' (their statements: YtbglmglgaobjmaaTotals.lean).
  GIVEN WITH THE SEED: the statements are not yours to turn. If you find one false, say at which input.
  Laid BY PROGRAM, IN A SANDBOX (cutbox-rows.mjs): the forced cells as the released guide's own fill.sh prints them over the translation fd84d1f489e2c83b… (all of the seat's roots in one cut). By AI agents, Wed Nov 11 2026. No macro, syntax, notation, axiom, sorry.
-/
import Derived.Test.YtbglmglgaobjmaaChecked
import GoSem.Claim
import GoSem.ClaimJoined
import GoSem.ClaimMapViews
import Derived.JoinedTies
import Derived.KernelRfl
namespace Go.Proofs.Ytbglmglgaobjmaa
/- THE CELL 'sum', in the pinned program and in every row, IS THE sha256 OF THE DUMP (.gsa) THAT YtbglmglgaobjmaaProg.lean LOADS. Nothing in Lean hashes anything: it is a label: what it is worth is what the hold of that sum in a sandbox is worth. -/
noncomputable def Try.pinned : Pinned := { name := "ytbglmglgaobjmaa", sum := "fd84d1f489e2c83b422e4266159e55a4d973bc3ad71f155b43afb6a23ae1e27e", checked := Try.checked }
namespace Rows
def none {H : Type} : Left H := { results := [], args := [] }

/-- 'citadellaw02.CrcSum': WHATEVER THE INPUT: true; the input reads as it did. -/
def crcSumSpec : ChangeSpec := { name := "crcSum", fn := fun _ => fun
  | [d1, d2] => { results := [.lit (.bool true)], args := [d1, d2] }
  | _ => none }
def crcSumRow : OpenClaim := { program := "ytbglmglgaobjmaa", sum := "fd84d1f489e2c83b422e4266159e55a4d973bc3ad71f155b43afb6a23ae1e27e", func := "citadel/citadellaw02.CrcSum", spec := "crcSum", apart := false }
def CrcSumSaid : Prop := crcSumRow.holds Try.pinned (OpenSpec.ofChange crcSumSpec)

/-- ITS FALSE NEIGHBOUR: 'it returns false'. Refute it at one input. -/
def crcSumWrong : ChangeSpec := { name := "crcSum", fn := fun _ => fun
  | [d1, d2] => { results := [.lit (.bool false)], args := [d1, d2] }
  | _ => none }
def CrcSumWrongFalsely : Prop := crcSumRow.holds Try.pinned (OpenSpec.ofChange crcSumWrong)

/-- 'citadellaw01.WordsRows': WHATEVER THE INPUT: true; the input reads as it did. -/
def wordsRowsSpec : ChangeSpec := { name := "wordsRows", fn := fun _ => fun
  | [d1, d2, d3, d4] => { results := [.lit (.bool true)], args := [d1, d2, d3, d4] }
  | _ => none }
def wordsRowsRow : OpenClaim := { program := "ytbglmglgaobjmaa", sum := "fd84d1f489e2c83b422e4266159e55a4d973bc3ad71f155b43afb6a23ae1e27e", func := "citadel/citadellaw01.WordsRows", spec := "wordsRows", apart := false }
def WordsRowsSaid : Prop := wordsRowsRow.holds Try.pinned (OpenSpec.ofChange wordsRowsSpec)

/-- ITS FALSE NEIGHBOUR: 'it returns false'. Refute it at one input. -/
def wordsRowsWrong : ChangeSpec := { name := "wordsRows", fn := fun _ => fun
  | [d1, d2, d3, d4] => { results := [.lit (.bool false)], args := [d1, d2, d3, d4] }
  | _ => none }
def WordsRowsWrongFalsely : Prop := wordsRowsRow.holds Try.pinned (OpenSpec.ofChange wordsRowsWrong)

/-- 'citadellaw01.WordsOrder': WHATEVER THE INPUT: true; the input reads as it did. -/
def wordsOrderSpec : ChangeSpec := { name := "wordsOrder", fn := fun _ => fun
  | [d1, d2, d3] => { results := [.lit (.bool true)], args := [d1, d2, d3] }
  | _ => none }
def wordsOrderRow : OpenClaim := { program := "ytbglmglgaobjmaa", sum := "fd84d1f489e2c83b422e4266159e55a4d973bc3ad71f155b43afb6a23ae1e27e", func := "citadel/citadellaw01.WordsOrder", spec := "wordsOrder", inPlace := ["internal/bytealg.MakeNoZero", "internal/bytealg.abigen_runtime_cmpstring", "internal/bytealg.Compare"], apart := false }
def WordsOrderSaid : Prop := wordsOrderRow.holds Try.pinned (OpenSpec.ofChange wordsOrderSpec)

/-- ITS FALSE NEIGHBOUR: 'it returns false'. Refute it at one input. -/
def wordsOrderWrong : ChangeSpec := { name := "wordsOrder", fn := fun _ => fun
  | [d1, d2, d3] => { results := [.lit (.bool false)], args := [d1, d2, d3] }
  | _ => none }
def WordsOrderWrongFalsely : Prop := wordsOrderRow.holds Try.pinned (OpenSpec.ofChange wordsOrderWrong)

/-- 'citadellaw07.FrameSeal': WHATEVER THE INPUT: true; the input reads as it did. -/
def frameSealSpec : ChangeSpec := { name := "frameSeal", fn := fun _ => fun
  | [d1, d2] => { results := [.lit (.bool true)], args := [d1, d2] }
  | _ => none }
def frameSealRow : OpenClaim := { program := "ytbglmglgaobjmaa", sum := "fd84d1f489e2c83b422e4266159e55a4d973bc3ad71f155b43afb6a23ae1e27e", func := "citadel/citadellaw07.FrameSeal", spec := "frameSeal", inPlace := ["internal/bytealg.MakeNoZero"], apart := false }
def FrameSealSaid : Prop := frameSealRow.holds Try.pinned (OpenSpec.ofChange frameSealSpec)

/-- ITS FALSE NEIGHBOUR: 'it returns false'. Refute it at one input. -/
def frameSealWrong : ChangeSpec := { name := "frameSeal", fn := fun _ => fun
  | [d1, d2] => { results := [.lit (.bool false)], args := [d1, d2] }
  | _ => none }
def FrameSealWrongFalsely : Prop := frameSealRow.holds Try.pinned (OpenSpec.ofChange frameSealWrong)

/-- 'citadellaw02.CrcPut': WHATEVER THE INPUT: true; the input reads as it did. -/
def crcPutSpec : ChangeSpec := { name := "crcPut", fn := fun _ => fun
  | [d] => { results := [.lit (.bool true)], args := [d] }
  | _ => none }
def crcPutRow : OpenClaim := { program := "ytbglmglgaobjmaa", sum := "fd84d1f489e2c83b422e4266159e55a4d973bc3ad71f155b43afb6a23ae1e27e", func := "citadel/citadellaw02.CrcPut", spec := "crcPut", inPlace := ["internal/bytealg.MakeNoZero", "internal/bytealg.abigen_runtime_cmpstring"], apart := false }
def CrcPutSaid : Prop := crcPutRow.holds Try.pinned (OpenSpec.ofChange crcPutSpec)

/-- ITS FALSE NEIGHBOUR: 'it returns false'. Refute it at one input. -/
def crcPutWrong : ChangeSpec := { name := "crcPut", fn := fun _ => fun
  | [d] => { results := [.lit (.bool false)], args := [d] }
  | _ => none }
def CrcPutWrongFalsely : Prop := crcPutRow.holds Try.pinned (OpenSpec.ofChange crcPutWrong)

/-- 'citadellaw02.CrcPieces': WHATEVER THE INPUT: true; the input reads as it did. -/
def crcPiecesSpec : ChangeSpec := { name := "crcPieces", fn := fun _ => fun
  | [d1, d2] => { results := [.lit (.bool true)], args := [d1, d2] }
  | _ => none }
def crcPiecesRow : OpenClaim := { program := "ytbglmglgaobjmaa", sum := "fd84d1f489e2c83b422e4266159e55a4d973bc3ad71f155b43afb6a23ae1e27e", func := "citadel/citadellaw02.CrcPieces", spec := "crcPieces", inPlace := ["internal/bytealg.MakeNoZero", "internal/bytealg.abigen_runtime_cmpstring"], apart := false }
def CrcPiecesSaid : Prop := crcPiecesRow.holds Try.pinned (OpenSpec.ofChange crcPiecesSpec)

/-- ITS FALSE NEIGHBOUR: 'it returns false'. Refute it at one input. -/
def crcPiecesWrong : ChangeSpec := { name := "crcPieces", fn := fun _ => fun
  | [d1, d2] => { results := [.lit (.bool false)], args := [d1, d2] }
  | _ => none }
def CrcPiecesWrongFalsely : Prop := crcPiecesRow.holds Try.pinned (OpenSpec.ofChange crcPiecesWrong)

/-- 'citadellaw02.CrcTells': WHATEVER THE INPUT: true; the input reads as it did. -/
def crcTellsSpec : ChangeSpec := { name := "crcTells", fn := fun _ => fun
  | [d1, d2, d3] => { results := [.lit (.bool true)], args := [d1, d2, d3] }
  | _ => none }
def crcTellsRow : OpenClaim := { program := "ytbglmglgaobjmaa", sum := "fd84d1f489e2c83b422e4266159e55a4d973bc3ad71f155b43afb6a23ae1e27e", func := "citadel/citadellaw02.CrcTells", spec := "crcTells", inPlace := ["internal/bytealg.MakeNoZero", "internal/bytealg.abigen_runtime_cmpstring"], apart := false }
def CrcTellsSaid : Prop := crcTellsRow.holds Try.pinned (OpenSpec.ofChange crcTellsSpec)

/-- ITS FALSE NEIGHBOUR: 'it returns false'. Refute it at one input. -/
def crcTellsWrong : ChangeSpec := { name := "crcTells", fn := fun _ => fun
  | [d1, d2, d3] => { results := [.lit (.bool false)], args := [d1, d2, d3] }
  | _ => none }
def CrcTellsWrongFalsely : Prop := crcTellsRow.holds Try.pinned (OpenSpec.ofChange crcTellsWrong)

/-- 'citadellaw02.CrcThree': WHATEVER THE INPUT: true; the input reads as it did. -/
def crcThreeSpec : ChangeSpec := { name := "crcThree", fn := fun _ => fun
  | [d1, d2, d3] => { results := [.lit (.bool true)], args := [d1, d2, d3] }
  | _ => none }
def crcThreeRow : OpenClaim := { program := "ytbglmglgaobjmaa", sum := "fd84d1f489e2c83b422e4266159e55a4d973bc3ad71f155b43afb6a23ae1e27e", func := "citadel/citadellaw02.CrcThree", spec := "crcThree", inPlace := ["internal/bytealg.MakeNoZero", "internal/bytealg.abigen_runtime_cmpstring"], apart := false }
def CrcThreeSaid : Prop := crcThreeRow.holds Try.pinned (OpenSpec.ofChange crcThreeSpec)

/-- ITS FALSE NEIGHBOUR: 'it returns false'. Refute it at one input. -/
def crcThreeWrong : ChangeSpec := { name := "crcThree", fn := fun _ => fun
  | [d1, d2, d3] => { results := [.lit (.bool false)], args := [d1, d2, d3] }
  | _ => none }
def CrcThreeWrongFalsely : Prop := crcThreeRow.holds Try.pinned (OpenSpec.ofChange crcThreeWrong)

/-- 'citadellaw02.CrcBack': WHATEVER THE INPUT: true; the input reads as it did. -/
def crcBackSpec : ChangeSpec := { name := "crcBack", fn := fun _ => fun
  | [d1, d2, d3] => { results := [.lit (.bool true)], args := [d1, d2, d3] }
  | _ => none }
def crcBackRow : OpenClaim := { program := "ytbglmglgaobjmaa", sum := "fd84d1f489e2c83b422e4266159e55a4d973bc3ad71f155b43afb6a23ae1e27e", func := "citadel/citadellaw02.CrcBack", spec := "crcBack", inPlace := ["internal/bytealg.MakeNoZero", "internal/bytealg.abigen_runtime_cmpstring"], apart := false }
def CrcBackSaid : Prop := crcBackRow.holds Try.pinned (OpenSpec.ofChange crcBackSpec)

/-- ITS FALSE NEIGHBOUR: 'it returns false'. Refute it at one input. -/
def crcBackWrong : ChangeSpec := { name := "crcBack", fn := fun _ => fun
  | [d1, d2, d3] => { results := [.lit (.bool false)], args := [d1, d2, d3] }
  | _ => none }
def CrcBackWrongFalsely : Prop := crcBackRow.holds Try.pinned (OpenSpec.ofChange crcBackWrong)

/-- 'citadellaw07.FrameOpen': WHATEVER THE INPUT: true; the input reads as it did. -/
def frameOpenSpec : ChangeSpec := { name := "frameOpen", fn := fun _ => fun
  | [d1, d2] => { results := [.lit (.bool true)], args := [d1, d2] }
  | _ => none }
def frameOpenRow : OpenClaim := { program := "ytbglmglgaobjmaa", sum := "fd84d1f489e2c83b422e4266159e55a4d973bc3ad71f155b43afb6a23ae1e27e", func := "citadel/citadellaw07.FrameOpen", spec := "frameOpen", inPlace := ["internal/bytealg.MakeNoZero", "internal/bytealg.abigen_runtime_cmpstring"], unfollowed := true, recurses := true, apart := false }
def FrameOpenSaid : Prop := frameOpenRow.holds Try.pinned (OpenSpec.ofChange frameOpenSpec)

/-- ITS FALSE NEIGHBOUR: 'it returns false'. Refute it at one input. -/
def frameOpenWrong : ChangeSpec := { name := "frameOpen", fn := fun _ => fun
  | [d1, d2] => { results := [.lit (.bool false)], args := [d1, d2] }
  | _ => none }
def FrameOpenWrongFalsely : Prop := frameOpenRow.holds Try.pinned (OpenSpec.ofChange frameOpenWrong)

/-- 'citadellaw07.FrameBack': WHATEVER THE INPUT: true; the input reads as it did. -/
def frameBackSpec : ChangeSpec := { name := "frameBack", fn := fun _ => fun
  | [d1, d2, d3, d4] => { results := [.lit (.bool true)], args := [d1, d2, d3, d4] }
  | _ => none }
def frameBackRow : OpenClaim := { program := "ytbglmglgaobjmaa", sum := "fd84d1f489e2c83b422e4266159e55a4d973bc3ad71f155b43afb6a23ae1e27e", func := "citadel/citadellaw07.FrameBack", spec := "frameBack", inPlace := ["internal/bytealg.MakeNoZero", "internal/bytealg.abigen_runtime_cmpstring"], unfollowed := true, recurses := true, apart := false }
def FrameBackSaid : Prop := frameBackRow.holds Try.pinned (OpenSpec.ofChange frameBackSpec)

/-- ITS FALSE NEIGHBOUR: 'it returns false'. Refute it at one input. -/
def frameBackWrong : ChangeSpec := { name := "frameBack", fn := fun _ => fun
  | [d1, d2, d3, d4] => { results := [.lit (.bool false)], args := [d1, d2, d3, d4] }
  | _ => none }
def FrameBackWrongFalsely : Prop := frameBackRow.holds Try.pinned (OpenSpec.ofChange frameBackWrong)

/-- 'citadellaw07.FrameOther': WHATEVER THE INPUT: true; the input reads as it did. -/
def frameOtherSpec : ChangeSpec := { name := "frameOther", fn := fun _ => fun
  | [d1, d2, d3, d4] => { results := [.lit (.bool true)], args := [d1, d2, d3, d4] }
  | _ => none }
def frameOtherRow : OpenClaim := { program := "ytbglmglgaobjmaa", sum := "fd84d1f489e2c83b422e4266159e55a4d973bc3ad71f155b43afb6a23ae1e27e", func := "citadel/citadellaw07.FrameOther", spec := "frameOther", inPlace := ["internal/bytealg.MakeNoZero", "internal/bytealg.abigen_runtime_cmpstring"], unfollowed := true, recurses := true, apart := false }
def FrameOtherSaid : Prop := frameOtherRow.holds Try.pinned (OpenSpec.ofChange frameOtherSpec)

/-- ITS FALSE NEIGHBOUR: 'it returns false'. Refute it at one input. -/
def frameOtherWrong : ChangeSpec := { name := "frameOther", fn := fun _ => fun
  | [d1, d2, d3, d4] => { results := [.lit (.bool false)], args := [d1, d2, d3, d4] }
  | _ => none }
def FrameOtherWrongFalsely : Prop := frameOtherRow.holds Try.pinned (OpenSpec.ofChange frameOtherWrong)

/-- 'citadellaw07.FrameSize': WHATEVER THE INPUT: true; the input reads as it did. -/
def frameSizeSpec : ChangeSpec := { name := "frameSize", fn := fun _ => fun
  | [d1, d2, d3, d4] => { results := [.lit (.bool true)], args := [d1, d2, d3, d4] }
  | _ => none }
def frameSizeRow : OpenClaim := { program := "ytbglmglgaobjmaa", sum := "fd84d1f489e2c83b422e4266159e55a4d973bc3ad71f155b43afb6a23ae1e27e", func := "citadel/citadellaw07.FrameSize", spec := "frameSize", inPlace := ["internal/bytealg.MakeNoZero", "internal/bytealg.abigen_runtime_cmpstring"], unfollowed := true, recurses := true, apart := false }
def FrameSizeSaid : Prop := frameSizeRow.holds Try.pinned (OpenSpec.ofChange frameSizeSpec)

/-- ITS FALSE NEIGHBOUR: 'it returns false'. Refute it at one input. -/
def frameSizeWrong : ChangeSpec := { name := "frameSize", fn := fun _ => fun
  | [d1, d2, d3, d4] => { results := [.lit (.bool false)], args := [d1, d2, d3, d4] }
  | _ => none }
def FrameSizeWrongFalsely : Prop := frameSizeRow.holds Try.pinned (OpenSpec.ofChange frameSizeWrong)

/-- 'citadellaw01.WordsBoth': WHATEVER THE INPUT: true; the input reads as it did. -/
def wordsBothSpec : ChangeSpec := { name := "wordsBoth", fn := fun _ => fun
  | [d1, d2, d3] => { results := [.lit (.bool true)], args := [d1, d2, d3] }
  | _ => none }
def wordsBothRow : OpenClaim := { program := "ytbglmglgaobjmaa", sum := "fd84d1f489e2c83b422e4266159e55a4d973bc3ad71f155b43afb6a23ae1e27e", func := "citadel/citadellaw01.WordsBoth", spec := "wordsBoth", inPlace := ["internal/bytealg.abigen_runtime_cmpstring", "internal/bytealg.MakeNoZero", "internal/bytealg.Compare"], unfollowed := true, recurses := true, apart := false }
def WordsBothSaid : Prop := wordsBothRow.holds Try.pinned (OpenSpec.ofChange wordsBothSpec)

/-- ITS FALSE NEIGHBOUR: 'it returns false'. Refute it at one input. -/
def wordsBothWrong : ChangeSpec := { name := "wordsBoth", fn := fun _ => fun
  | [d1, d2, d3] => { results := [.lit (.bool false)], args := [d1, d2, d3] }
  | _ => none }
def WordsBothWrongFalsely : Prop := wordsBothRow.holds Try.pinned (OpenSpec.ofChange wordsBothWrong)

/-- 'citadellaw01.WordsCounts': WHATEVER THE INPUT: true; the input reads as it did. -/
def wordsCountsSpec : ChangeSpec := { name := "wordsCounts", fn := fun _ => fun
  | [d1, d2, d3, d4, d5, d6] => { results := [.lit (.bool true)], args := [d1, d2, d3, d4, d5, d6] }
  | _ => none }
def wordsCountsRow : OpenClaim := { program := "ytbglmglgaobjmaa", sum := "fd84d1f489e2c83b422e4266159e55a4d973bc3ad71f155b43afb6a23ae1e27e", func := "citadel/citadellaw01.WordsCounts", spec := "wordsCounts", inPlace := ["internal/bytealg.abigen_runtime_cmpstring", "internal/bytealg.MakeNoZero", "internal/bytealg.Compare"], unfollowed := true, recurses := true, apart := false }
def WordsCountsSaid : Prop := wordsCountsRow.holds Try.pinned (OpenSpec.ofChange wordsCountsSpec)

/-- ITS FALSE NEIGHBOUR: 'it returns false'. Refute it at one input. -/
def wordsCountsWrong : ChangeSpec := { name := "wordsCounts", fn := fun _ => fun
  | [d1, d2, d3, d4, d5, d6] => { results := [.lit (.bool false)], args := [d1, d2, d3, d4, d5, d6] }
  | _ => none }
def WordsCountsWrongFalsely : Prop := wordsCountsRow.holds Try.pinned (OpenSpec.ofChange wordsCountsWrong)

/- THE SECOND FORM. 'bulk': how many values and letters a reading holds, each counted each time it is reached (what is shared counts as often as it is met; a slice's spare places count too). A statement '..UptoSaid' is the law's where the arguments, and the package variables that the reading takes, are together of bulk at most 1048576: NARROWER than '..Said'. Prove '..Said' where nothing that the law and all that it calls make is longer than what came in: it says more and counts as full. Else prove '..UptoSaid'. A law counts once. -/
mutual
def uptoBulk {H : Type} : DataW H → Nat
  | .lit (.string bytes) => bytes.length + 1
  | .lit _ => 1
  | .nil => 1
  | .ptr d => uptoBulk d + 1
  | .slice elems spare => uptoBulkAll elems + uptoBulkAll spare + 1
  | .agg parts => uptoBulkAll parts + 1
  | .iface _ d => uptoBulk d + 1
  | .map entries => uptoBulkEntries entries + 1
  | .held _ => 1
def uptoBulkAll {H : Type} : List (DataW H) → Nat
  | [] => 0
  | d :: r => uptoBulk d + uptoBulkAll r
def uptoBulkEntries {H : Type} : List (Lit × DataW H) → Nat
  | [] => 0
  | x :: r => uptoBulkEntry x + uptoBulkEntries r
def uptoBulkEntry {H : Type} : Lit × DataW H → Nat
  | (.string bytes, d) => bytes.length + uptoBulk d + 1
  | (_, d) => uptoBulk d + 1
 end
def uptoSmall : (H : Type) → List (DataW H) → Bool := fun _ ds => decide (uptoBulkAll ds ≤ 1048576)
def OpenSpec.upto (s : _root_.Go.ChangeSpec) : _root_.Go.OpenSpec := { _root_.Go.OpenSpec.ofChange s with cond := some uptoSmall }

/-- 'citadellaw02.CrcSum', WHERE WHAT IT READS IS OF BULK AT MOST 1048576: true; the input reads as it did. -/
def crcSumUptoRow : OpenClaim := { program := "ytbglmglgaobjmaa", sum := "fd84d1f489e2c83b422e4266159e55a4d973bc3ad71f155b43afb6a23ae1e27e", func := "citadel/citadellaw02.CrcSum", spec := "crcSum", apart := false, narrowed := true }
def CrcSumUptoSaid : Prop := crcSumUptoRow.holds Try.pinned (OpenSpec.upto crcSumSpec)

/-- 'citadellaw01.WordsRows', WHERE WHAT IT READS IS OF BULK AT MOST 1048576: true; the input reads as it did. -/
def wordsRowsUptoRow : OpenClaim := { program := "ytbglmglgaobjmaa", sum := "fd84d1f489e2c83b422e4266159e55a4d973bc3ad71f155b43afb6a23ae1e27e", func := "citadel/citadellaw01.WordsRows", spec := "wordsRows", apart := false, narrowed := true }
def WordsRowsUptoSaid : Prop := wordsRowsUptoRow.holds Try.pinned (OpenSpec.upto wordsRowsSpec)

/-- 'citadellaw01.WordsOrder', WHERE WHAT IT READS IS OF BULK AT MOST 1048576: true; the input reads as it did. -/
def wordsOrderUptoRow : OpenClaim := { program := "ytbglmglgaobjmaa", sum := "fd84d1f489e2c83b422e4266159e55a4d973bc3ad71f155b43afb6a23ae1e27e", func := "citadel/citadellaw01.WordsOrder", spec := "wordsOrder", inPlace := ["internal/bytealg.MakeNoZero", "internal/bytealg.abigen_runtime_cmpstring", "internal/bytealg.Compare"], apart := false, narrowed := true }
def WordsOrderUptoSaid : Prop := wordsOrderUptoRow.holds Try.pinned (OpenSpec.upto wordsOrderSpec)

/-- 'citadellaw07.FrameSeal', WHERE WHAT IT READS IS OF BULK AT MOST 1048576: true; the input reads as it did. -/
def frameSealUptoRow : OpenClaim := { program := "ytbglmglgaobjmaa", sum := "fd84d1f489e2c83b422e4266159e55a4d973bc3ad71f155b43afb6a23ae1e27e", func := "citadel/citadellaw07.FrameSeal", spec := "frameSeal", inPlace := ["internal/bytealg.MakeNoZero"], apart := false, narrowed := true }
def FrameSealUptoSaid : Prop := frameSealUptoRow.holds Try.pinned (OpenSpec.upto frameSealSpec)

/-- 'citadellaw02.CrcPut', WHERE WHAT IT READS IS OF BULK AT MOST 1048576: true; the input reads as it did. -/
def crcPutUptoRow : OpenClaim := { program := "ytbglmglgaobjmaa", sum := "fd84d1f489e2c83b422e4266159e55a4d973bc3ad71f155b43afb6a23ae1e27e", func := "citadel/citadellaw02.CrcPut", spec := "crcPut", inPlace := ["internal/bytealg.MakeNoZero", "internal/bytealg.abigen_runtime_cmpstring"], apart := false, narrowed := true }
def CrcPutUptoSaid : Prop := crcPutUptoRow.holds Try.pinned (OpenSpec.upto crcPutSpec)

/-- 'citadellaw02.CrcPieces', WHERE WHAT IT READS IS OF BULK AT MOST 1048576: true; the input reads as it did. -/
def crcPiecesUptoRow : OpenClaim := { program := "ytbglmglgaobjmaa", sum := "fd84d1f489e2c83b422e4266159e55a4d973bc3ad71f155b43afb6a23ae1e27e", func := "citadel/citadellaw02.CrcPieces", spec := "crcPieces", inPlace := ["internal/bytealg.MakeNoZero", "internal/bytealg.abigen_runtime_cmpstring"], apart := false, narrowed := true }
def CrcPiecesUptoSaid : Prop := crcPiecesUptoRow.holds Try.pinned (OpenSpec.upto crcPiecesSpec)

/-- 'citadellaw02.CrcTells', WHERE WHAT IT READS IS OF BULK AT MOST 1048576: true; the input reads as it did. -/
def crcTellsUptoRow : OpenClaim := { program := "ytbglmglgaobjmaa", sum := "fd84d1f489e2c83b422e4266159e55a4d973bc3ad71f155b43afb6a23ae1e27e", func := "citadel/citadellaw02.CrcTells", spec := "crcTells", inPlace := ["internal/bytealg.MakeNoZero", "internal/bytealg.abigen_runtime_cmpstring"], apart := false, narrowed := true }
def CrcTellsUptoSaid : Prop := crcTellsUptoRow.holds Try.pinned (OpenSpec.upto crcTellsSpec)

/-- 'citadellaw02.CrcThree', WHERE WHAT IT READS IS OF BULK AT MOST 1048576: true; the input reads as it did. -/
def crcThreeUptoRow : OpenClaim := { program := "ytbglmglgaobjmaa", sum := "fd84d1f489e2c83b422e4266159e55a4d973bc3ad71f155b43afb6a23ae1e27e", func := "citadel/citadellaw02.CrcThree", spec := "crcThree", inPlace := ["internal/bytealg.MakeNoZero", "internal/bytealg.abigen_runtime_cmpstring"], apart := false, narrowed := true }
def CrcThreeUptoSaid : Prop := crcThreeUptoRow.holds Try.pinned (OpenSpec.upto crcThreeSpec)

/-- 'citadellaw02.CrcBack', WHERE WHAT IT READS IS OF BULK AT MOST 1048576: true; the input reads as it did. -/
def crcBackUptoRow : OpenClaim := { program := "ytbglmglgaobjmaa", sum := "fd84d1f489e2c83b422e4266159e55a4d973bc3ad71f155b43afb6a23ae1e27e", func := "citadel/citadellaw02.CrcBack", spec := "crcBack", inPlace := ["internal/bytealg.MakeNoZero", "internal/bytealg.abigen_runtime_cmpstring"], apart := false, narrowed := true }
def CrcBackUptoSaid : Prop := crcBackUptoRow.holds Try.pinned (OpenSpec.upto crcBackSpec)

/-- 'citadellaw07.FrameOpen', WHERE WHAT IT READS IS OF BULK AT MOST 1048576: true; the input reads as it did. -/
def frameOpenUptoRow : OpenClaim := { program := "ytbglmglgaobjmaa", sum := "fd84d1f489e2c83b422e4266159e55a4d973bc3ad71f155b43afb6a23ae1e27e", func := "citadel/citadellaw07.FrameOpen", spec := "frameOpen", inPlace := ["internal/bytealg.MakeNoZero", "internal/bytealg.abigen_runtime_cmpstring"], unfollowed := true, recurses := true, apart := false, narrowed := true }
def FrameOpenUptoSaid : Prop := frameOpenUptoRow.holds Try.pinned (OpenSpec.upto frameOpenSpec)

/-- 'citadellaw07.FrameBack', WHERE WHAT IT READS IS OF BULK AT MOST 1048576: true; the input reads as it did. -/
def frameBackUptoRow : OpenClaim := { program := "ytbglmglgaobjmaa", sum := "fd84d1f489e2c83b422e4266159e55a4d973bc3ad71f155b43afb6a23ae1e27e", func := "citadel/citadellaw07.FrameBack", spec := "frameBack", inPlace := ["internal/bytealg.MakeNoZero", "internal/bytealg.abigen_runtime_cmpstring"], unfollowed := true, recurses := true, apart := false, narrowed := true }
def FrameBackUptoSaid : Prop := frameBackUptoRow.holds Try.pinned (OpenSpec.upto frameBackSpec)

/-- 'citadellaw07.FrameOther', WHERE WHAT IT READS IS OF BULK AT MOST 1048576: true; the input reads as it did. -/
def frameOtherUptoRow : OpenClaim := { program := "ytbglmglgaobjmaa", sum := "fd84d1f489e2c83b422e4266159e55a4d973bc3ad71f155b43afb6a23ae1e27e", func := "citadel/citadellaw07.FrameOther", spec := "frameOther", inPlace := ["internal/bytealg.MakeNoZero", "internal/bytealg.abigen_runtime_cmpstring"], unfollowed := true, recurses := true, apart := false, narrowed := true }
def FrameOtherUptoSaid : Prop := frameOtherUptoRow.holds Try.pinned (OpenSpec.upto frameOtherSpec)

/-- 'citadellaw07.FrameSize', WHERE WHAT IT READS IS OF BULK AT MOST 1048576: true; the input reads as it did. -/
def frameSizeUptoRow : OpenClaim := { program := "ytbglmglgaobjmaa", sum := "fd84d1f489e2c83b422e4266159e55a4d973bc3ad71f155b43afb6a23ae1e27e", func := "citadel/citadellaw07.FrameSize", spec := "frameSize", inPlace := ["internal/bytealg.MakeNoZero", "internal/bytealg.abigen_runtime_cmpstring"], unfollowed := true, recurses := true, apart := false, narrowed := true }
def FrameSizeUptoSaid : Prop := frameSizeUptoRow.holds Try.pinned (OpenSpec.upto frameSizeSpec)

/-- 'citadellaw01.WordsBoth', WHERE WHAT IT READS IS OF BULK AT MOST 1048576: true; the input reads as it did. -/
def wordsBothUptoRow : OpenClaim := { program := "ytbglmglgaobjmaa", sum := "fd84d1f489e2c83b422e4266159e55a4d973bc3ad71f155b43afb6a23ae1e27e", func := "citadel/citadellaw01.WordsBoth", spec := "wordsBoth", inPlace := ["internal/bytealg.abigen_runtime_cmpstring", "internal/bytealg.MakeNoZero", "internal/bytealg.Compare"], unfollowed := true, recurses := true, apart := false, narrowed := true }
def WordsBothUptoSaid : Prop := wordsBothUptoRow.holds Try.pinned (OpenSpec.upto wordsBothSpec)

/-- 'citadellaw01.WordsCounts', WHERE WHAT IT READS IS OF BULK AT MOST 1048576: true; the input reads as it did. -/
def wordsCountsUptoRow : OpenClaim := { program := "ytbglmglgaobjmaa", sum := "fd84d1f489e2c83b422e4266159e55a4d973bc3ad71f155b43afb6a23ae1e27e", func := "citadel/citadellaw01.WordsCounts", spec := "wordsCounts", inPlace := ["internal/bytealg.abigen_runtime_cmpstring", "internal/bytealg.MakeNoZero", "internal/bytealg.Compare"], unfollowed := true, recurses := true, apart := false, narrowed := true }
def WordsCountsUptoSaid : Prop := wordsCountsUptoRow.holds Try.pinned (OpenSpec.upto wordsCountsSpec)

end Rows
end Go.Proofs.Ytbglmglgaobjmaa
