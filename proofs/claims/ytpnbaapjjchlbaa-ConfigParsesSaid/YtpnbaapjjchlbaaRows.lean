/-
  No cell of these rows narrows 'for every input' (looked for: loops, veiled, ifaces, maps, wideKeys, modest, calm, conditions, laid).
  DERIVED. THE GIVEN ROWS OF THIS SEAT. 15 by the template 'for every input the law returns true; each argument reads behind the call as it read before'; 0 by the template 'total and deterministic' (their statements: YtpnbaapjjchlbaaTotals.lean).
  GIVEN WITH THE SEED: the statements are not yours to turn. If you find one false, say at which input.
  Laid BY PROGRAM, IN A SANDBOX (cutbox-rows.mjs): the forced cells as the released guide's own fill.sh prints them over the translation 0b68bd9fe7cfcd35… (all of the seat's roots in one cut). By AI agents, Wed Nov 11 2026. No macro, syntax, notation, axiom, sorry.
-/
import Derived.Test.YtpnbaapjjchlbaaChecked
import GoSem.Claim
import GoSem.ClaimJoined
import GoSem.ClaimMapViews
import Derived.JoinedTies
import Derived.KernelRfl
namespace Go.Proofs.Ytpnbaapjjchlbaa
/- THE CELL 'sum', in the pinned program and in every row, IS THE sha256 OF THE DUMP (.gsa) THAT YtpnbaapjjchlbaaProg.lean LOADS. Nothing in Lean hashes anything: it is a label: what it is worth is what the hold of that sum in a sandbox is worth. -/
noncomputable def Try.pinned : Pinned := { name := "ytpnbaapjjchlbaa", sum := "0b68bd9fe7cfcd357cf3fab01eac7e2b217c39669af30cfb68cddc71d1fea30d", checked := Try.checked }
namespace Rows
def none {H : Type} : Left H := { results := [], args := [] }

/-- 'citadellaw12.ValidChecks': WHATEVER THE INPUT: true; the input reads as it did. -/
def validChecksSpec : ChangeSpec := { name := "validChecks", fn := fun _ => fun
  | [d] => { results := [.lit (.bool true)], args := [d] }
  | _ => none }
def validChecksRow : OpenClaim := { program := "ytpnbaapjjchlbaa", sum := "0b68bd9fe7cfcd357cf3fab01eac7e2b217c39669af30cfb68cddc71d1fea30d", func := "citadel/citadellaw12.ValidChecks", spec := "validChecks", unfollowed := true, recurses := true, apart := false }
def ValidChecksSaid : Prop := validChecksRow.holds Try.pinned (OpenSpec.ofChange validChecksSpec)

/-- ITS FALSE NEIGHBOUR: 'it returns false'. Refute it at one input. -/
def validChecksWrong : ChangeSpec := { name := "validChecks", fn := fun _ => fun
  | [d] => { results := [.lit (.bool false)], args := [d] }
  | _ => none }
def ValidChecksWrongFalsely : Prop := validChecksRow.holds Try.pinned (OpenSpec.ofChange validChecksWrong)

/-- 'citadellaw12.ValidLess': WHATEVER THE INPUT: true; the input reads as it did. -/
def validLessSpec : ChangeSpec := { name := "validLess", fn := fun _ => fun
  | [d1, d2, d3] => { results := [.lit (.bool true)], args := [d1, d2, d3] }
  | _ => none }
def validLessRow : OpenClaim := { program := "ytpnbaapjjchlbaa", sum := "0b68bd9fe7cfcd357cf3fab01eac7e2b217c39669af30cfb68cddc71d1fea30d", func := "citadel/citadellaw12.ValidLess", spec := "validLess", unfollowed := true, recurses := true, apart := false }
def ValidLessSaid : Prop := validLessRow.holds Try.pinned (OpenSpec.ofChange validLessSpec)

/-- ITS FALSE NEIGHBOUR: 'it returns false'. Refute it at one input. -/
def validLessWrong : ChangeSpec := { name := "validLess", fn := fun _ => fun
  | [d1, d2, d3] => { results := [.lit (.bool false)], args := [d1, d2, d3] }
  | _ => none }
def ValidLessWrongFalsely : Prop := validLessRow.holds Try.pinned (OpenSpec.ofChange validLessWrong)

/-- 'citadellaw12.ValidParts': WHATEVER THE INPUT: true; the input reads as it did. -/
def validPartsSpec : ChangeSpec := { name := "validParts", fn := fun _ => fun
  | [d] => { results := [.lit (.bool true)], args := [d] }
  | _ => none }
def validPartsRow : OpenClaim := { program := "ytpnbaapjjchlbaa", sum := "0b68bd9fe7cfcd357cf3fab01eac7e2b217c39669af30cfb68cddc71d1fea30d", func := "citadel/citadellaw12.ValidParts", spec := "validParts", unfollowed := true, recurses := true, apart := false }
def ValidPartsSaid : Prop := validPartsRow.holds Try.pinned (OpenSpec.ofChange validPartsSpec)

/-- ITS FALSE NEIGHBOUR: 'it returns false'. Refute it at one input. -/
def validPartsWrong : ChangeSpec := { name := "validParts", fn := fun _ => fun
  | [d] => { results := [.lit (.bool false)], args := [d] }
  | _ => none }
def ValidPartsWrongFalsely : Prop := validPartsRow.holds Try.pinned (OpenSpec.ofChange validPartsWrong)

/-- 'citadellaw12.ValidGone': WHATEVER THE INPUT: true; the input reads as it did. -/
def validGoneSpec : ChangeSpec := { name := "validGone", fn := fun _ => fun
  | [d1, d2] => { results := [.lit (.bool true)], args := [d1, d2] }
  | _ => none }
def validGoneRow : OpenClaim := { program := "ytpnbaapjjchlbaa", sum := "0b68bd9fe7cfcd357cf3fab01eac7e2b217c39669af30cfb68cddc71d1fea30d", func := "citadel/citadellaw12.ValidGone", spec := "validGone", unfollowed := true, recurses := true, apart := false }
def ValidGoneSaid : Prop := validGoneRow.holds Try.pinned (OpenSpec.ofChange validGoneSpec)

/-- ITS FALSE NEIGHBOUR: 'it returns false'. Refute it at one input. -/
def validGoneWrong : ChangeSpec := { name := "validGone", fn := fun _ => fun
  | [d1, d2] => { results := [.lit (.bool false)], args := [d1, d2] }
  | _ => none }
def ValidGoneWrongFalsely : Prop := validGoneRow.holds Try.pinned (OpenSpec.ofChange validGoneWrong)

/-- 'citadellaw13.CompatChecks': WHATEVER THE INPUT: true; the input reads as it did. -/
def compatChecksSpec : ChangeSpec := { name := "compatChecks", fn := fun _ => fun
  | [d1, d2, d3] => { results := [.lit (.bool true)], args := [d1, d2, d3] }
  | _ => none }
def compatChecksRow : OpenClaim := { program := "ytpnbaapjjchlbaa", sum := "0b68bd9fe7cfcd357cf3fab01eac7e2b217c39669af30cfb68cddc71d1fea30d", func := "citadel/citadellaw13.CompatChecks", spec := "compatChecks", unfollowed := true, recurses := true, apart := false }
def CompatChecksSaid : Prop := compatChecksRow.holds Try.pinned (OpenSpec.ofChange compatChecksSpec)

/-- ITS FALSE NEIGHBOUR: 'it returns false'. Refute it at one input. -/
def compatChecksWrong : ChangeSpec := { name := "compatChecks", fn := fun _ => fun
  | [d1, d2, d3] => { results := [.lit (.bool false)], args := [d1, d2, d3] }
  | _ => none }
def CompatChecksWrongFalsely : Prop := compatChecksRow.holds Try.pinned (OpenSpec.ofChange compatChecksWrong)

/-- 'citadellaw13.CompatLists': WHATEVER THE INPUT: true; the input reads as it did. -/
def compatListsSpec : ChangeSpec := { name := "compatLists", fn := fun _ => fun
  | [d1, d2] => { results := [.lit (.bool true)], args := [d1, d2] }
  | _ => none }
def compatListsRow : OpenClaim := { program := "ytpnbaapjjchlbaa", sum := "0b68bd9fe7cfcd357cf3fab01eac7e2b217c39669af30cfb68cddc71d1fea30d", func := "citadel/citadellaw13.CompatLists", spec := "compatLists", unfollowed := true, recurses := true, apart := false }
def CompatListsSaid : Prop := compatListsRow.holds Try.pinned (OpenSpec.ofChange compatListsSpec)

/-- ITS FALSE NEIGHBOUR: 'it returns false'. Refute it at one input. -/
def compatListsWrong : ChangeSpec := { name := "compatLists", fn := fun _ => fun
  | [d1, d2] => { results := [.lit (.bool false)], args := [d1, d2] }
  | _ => none }
def CompatListsWrongFalsely : Prop := compatListsRow.holds Try.pinned (OpenSpec.ofChange compatListsWrong)

/-- 'citadellaw13.CompatTurned': WHATEVER THE INPUT: true; the input reads as it did. -/
def compatTurnedSpec : ChangeSpec := { name := "compatTurned", fn := fun _ => fun
  | [d1, d2] => { results := [.lit (.bool true)], args := [d1, d2] }
  | _ => none }
def compatTurnedRow : OpenClaim := { program := "ytpnbaapjjchlbaa", sum := "0b68bd9fe7cfcd357cf3fab01eac7e2b217c39669af30cfb68cddc71d1fea30d", func := "citadel/citadellaw13.CompatTurned", spec := "compatTurned", unfollowed := true, recurses := true, apart := false }
def CompatTurnedSaid : Prop := compatTurnedRow.holds Try.pinned (OpenSpec.ofChange compatTurnedSpec)

/-- ITS FALSE NEIGHBOUR: 'it returns false'. Refute it at one input. -/
def compatTurnedWrong : ChangeSpec := { name := "compatTurned", fn := fun _ => fun
  | [d1, d2] => { results := [.lit (.bool false)], args := [d1, d2] }
  | _ => none }
def CompatTurnedWrongFalsely : Prop := compatTurnedRow.holds Try.pinned (OpenSpec.ofChange compatTurnedWrong)

/-- 'citadellaw13.CompatSelf': WHATEVER THE INPUT: true; the input reads as it did. -/
def compatSelfSpec : ChangeSpec := { name := "compatSelf", fn := fun _ => fun
  | [d] => { results := [.lit (.bool true)], args := [d] }
  | _ => none }
def compatSelfRow : OpenClaim := { program := "ytpnbaapjjchlbaa", sum := "0b68bd9fe7cfcd357cf3fab01eac7e2b217c39669af30cfb68cddc71d1fea30d", func := "citadel/citadellaw13.CompatSelf", spec := "compatSelf", unfollowed := true, recurses := true, apart := false }
def CompatSelfSaid : Prop := compatSelfRow.holds Try.pinned (OpenSpec.ofChange compatSelfSpec)

/-- ITS FALSE NEIGHBOUR: 'it returns false'. Refute it at one input. -/
def compatSelfWrong : ChangeSpec := { name := "compatSelf", fn := fun _ => fun
  | [d] => { results := [.lit (.bool false)], args := [d] }
  | _ => none }
def CompatSelfWrongFalsely : Prop := compatSelfRow.holds Try.pinned (OpenSpec.ofChange compatSelfWrong)

/-- 'citadellaw13.CompatSplit': WHATEVER THE INPUT: true; the input reads as it did. -/
def compatSplitSpec : ChangeSpec := { name := "compatSplit", fn := fun _ => fun
  | [d1, d2] => { results := [.lit (.bool true)], args := [d1, d2] }
  | _ => none }
def compatSplitRow : OpenClaim := { program := "ytpnbaapjjchlbaa", sum := "0b68bd9fe7cfcd357cf3fab01eac7e2b217c39669af30cfb68cddc71d1fea30d", func := "citadel/citadellaw13.CompatSplit", spec := "compatSplit", unfollowed := true, recurses := true, apart := false }
def CompatSplitSaid : Prop := compatSplitRow.holds Try.pinned (OpenSpec.ofChange compatSplitSpec)

/-- ITS FALSE NEIGHBOUR: 'it returns false'. Refute it at one input. -/
def compatSplitWrong : ChangeSpec := { name := "compatSplit", fn := fun _ => fun
  | [d1, d2] => { results := [.lit (.bool false)], args := [d1, d2] }
  | _ => none }
def CompatSplitWrongFalsely : Prop := compatSplitRow.holds Try.pinned (OpenSpec.ofChange compatSplitWrong)

/-- 'citadellaw11.ConfigPrints': WHATEVER THE INPUT: true; the input reads as it did. -/
def configPrintsSpec : ChangeSpec := { name := "configPrints", fn := fun _ => fun
  | [d] => { results := [.lit (.bool true)], args := [d] }
  | _ => none }
def configPrintsRow : OpenClaim := { program := "ytpnbaapjjchlbaa", sum := "0b68bd9fe7cfcd357cf3fab01eac7e2b217c39669af30cfb68cddc71d1fea30d", func := "citadel/citadellaw11.ConfigPrints", spec := "configPrints", inPlace := ["internal/bytealg.MakeNoZero"], unfollowed := true, recurses := true, apart := false }
def ConfigPrintsSaid : Prop := configPrintsRow.holds Try.pinned (OpenSpec.ofChange configPrintsSpec)

/-- ITS FALSE NEIGHBOUR: 'it returns false'. Refute it at one input. -/
def configPrintsWrong : ChangeSpec := { name := "configPrints", fn := fun _ => fun
  | [d] => { results := [.lit (.bool false)], args := [d] }
  | _ => none }
def ConfigPrintsWrongFalsely : Prop := configPrintsRow.holds Try.pinned (OpenSpec.ofChange configPrintsWrong)

/-- 'citadellaw11.ConfigParses': WHATEVER THE INPUT: true; the input reads as it did. -/
def configParsesSpec : ChangeSpec := { name := "configParses", fn := fun _ => fun
  | [d1, d2, d3, d4, d5, d6] => { results := [.lit (.bool true)], args := [d1, d2, d3, d4, d5, d6] }
  | _ => none }
def configParsesRow : OpenClaim := { program := "ytpnbaapjjchlbaa", sum := "0b68bd9fe7cfcd357cf3fab01eac7e2b217c39669af30cfb68cddc71d1fea30d", func := "citadel/citadellaw11.ConfigParses", spec := "configParses", inPlace := ["internal/bytealg.MakeNoZero"], unfollowed := true, recurses := true, apart := false }
def ConfigParsesSaid : Prop := configParsesRow.holds Try.pinned (OpenSpec.ofChange configParsesSpec)

/-- ITS FALSE NEIGHBOUR: 'it returns false'. Refute it at one input. -/
def configParsesWrong : ChangeSpec := { name := "configParses", fn := fun _ => fun
  | [d1, d2, d3, d4, d5, d6] => { results := [.lit (.bool false)], args := [d1, d2, d3, d4, d5, d6] }
  | _ => none }
def ConfigParsesWrongFalsely : Prop := configParsesRow.holds Try.pinned (OpenSpec.ofChange configParsesWrong)

/-- 'citadellaw11.ConfigFinds': WHATEVER THE INPUT: true; the input reads as it did. -/
def configFindsSpec : ChangeSpec := { name := "configFinds", fn := fun _ => fun
  | [d1, d2, d3] => { results := [.lit (.bool true)], args := [d1, d2, d3] }
  | _ => none }
def configFindsRow : OpenClaim := { program := "ytpnbaapjjchlbaa", sum := "0b68bd9fe7cfcd357cf3fab01eac7e2b217c39669af30cfb68cddc71d1fea30d", func := "citadel/citadellaw11.ConfigFinds", spec := "configFinds", inPlace := ["internal/bytealg.MakeNoZero"], unfollowed := true, recurses := true, apart := false }
def ConfigFindsSaid : Prop := configFindsRow.holds Try.pinned (OpenSpec.ofChange configFindsSpec)

/-- ITS FALSE NEIGHBOUR: 'it returns false'. Refute it at one input. -/
def configFindsWrong : ChangeSpec := { name := "configFinds", fn := fun _ => fun
  | [d1, d2, d3] => { results := [.lit (.bool false)], args := [d1, d2, d3] }
  | _ => none }
def ConfigFindsWrongFalsely : Prop := configFindsRow.holds Try.pinned (OpenSpec.ofChange configFindsWrong)

/-- 'citadellaw11.ConfigBack': WHATEVER THE INPUT: true; the input reads as it did. -/
def configBackSpec : ChangeSpec := { name := "configBack", fn := fun _ => fun
  | [d1, d2] => { results := [.lit (.bool true)], args := [d1, d2] }
  | _ => none }
def configBackRow : OpenClaim := { program := "ytpnbaapjjchlbaa", sum := "0b68bd9fe7cfcd357cf3fab01eac7e2b217c39669af30cfb68cddc71d1fea30d", func := "citadel/citadellaw11.ConfigBack", spec := "configBack", inPlace := ["internal/bytealg.MakeNoZero"], unfollowed := true, recurses := true, apart := false }
def ConfigBackSaid : Prop := configBackRow.holds Try.pinned (OpenSpec.ofChange configBackSpec)

/-- ITS FALSE NEIGHBOUR: 'it returns false'. Refute it at one input. -/
def configBackWrong : ChangeSpec := { name := "configBack", fn := fun _ => fun
  | [d1, d2] => { results := [.lit (.bool false)], args := [d1, d2] }
  | _ => none }
def ConfigBackWrongFalsely : Prop := configBackRow.holds Try.pinned (OpenSpec.ofChange configBackWrong)

/-- 'citadellaw11.ConfigForms': WHATEVER THE INPUT: true; the input reads as it did. -/
def configFormsSpec : ChangeSpec := { name := "configForms", fn := fun _ => fun
  | [d1, d2] => { results := [.lit (.bool true)], args := [d1, d2] }
  | _ => none }
def configFormsRow : OpenClaim := { program := "ytpnbaapjjchlbaa", sum := "0b68bd9fe7cfcd357cf3fab01eac7e2b217c39669af30cfb68cddc71d1fea30d", func := "citadel/citadellaw11.ConfigForms", spec := "configForms", inPlace := ["internal/bytealg.MakeNoZero"], unfollowed := true, recurses := true, apart := false }
def ConfigFormsSaid : Prop := configFormsRow.holds Try.pinned (OpenSpec.ofChange configFormsSpec)

/-- ITS FALSE NEIGHBOUR: 'it returns false'. Refute it at one input. -/
def configFormsWrong : ChangeSpec := { name := "configForms", fn := fun _ => fun
  | [d1, d2] => { results := [.lit (.bool false)], args := [d1, d2] }
  | _ => none }
def ConfigFormsWrongFalsely : Prop := configFormsRow.holds Try.pinned (OpenSpec.ofChange configFormsWrong)

/-- 'citadellaw11.ConfigCut': WHATEVER THE INPUT: true; the input reads as it did. -/
def configCutSpec : ChangeSpec := { name := "configCut", fn := fun _ => fun
  | [d1, d2, d3] => { results := [.lit (.bool true)], args := [d1, d2, d3] }
  | _ => none }
def configCutRow : OpenClaim := { program := "ytpnbaapjjchlbaa", sum := "0b68bd9fe7cfcd357cf3fab01eac7e2b217c39669af30cfb68cddc71d1fea30d", func := "citadel/citadellaw11.ConfigCut", spec := "configCut", inPlace := ["internal/bytealg.MakeNoZero"], unfollowed := true, recurses := true, apart := false }
def ConfigCutSaid : Prop := configCutRow.holds Try.pinned (OpenSpec.ofChange configCutSpec)

/-- ITS FALSE NEIGHBOUR: 'it returns false'. Refute it at one input. -/
def configCutWrong : ChangeSpec := { name := "configCut", fn := fun _ => fun
  | [d1, d2, d3] => { results := [.lit (.bool false)], args := [d1, d2, d3] }
  | _ => none }
def ConfigCutWrongFalsely : Prop := configCutRow.holds Try.pinned (OpenSpec.ofChange configCutWrong)

/- THE SECOND FORM. 'bulk': how many values and letters a reading holds, each counted each time it is reached (what is shared counts as often as it is met; a slice's spare places count too). A statement '..UptoSaid' is the law's where the arguments, and the package variables that the reading takes, are together of bulk at most 1048576: NARROWER than '..Said'. Prove '..Said' where nothing that the law and all that it calls make is longer than what came in: it says more and counts as full. Else prove '..UptoSaid'. A law counts once. -/
mutual
def uptoBulk {H : Type} : DataW H → Nat
  | .lit (.string bytes) => bytes.length + 1
  | .lit _ => 1
  | .nil => 1
  | .ptr d => uptoBulk d + 1
  | .slice elems spare => uptoBulkAll elems + uptoBulkAll spare + 1
  | .agg parts => uptoBulkAll parts + 1
  | .iface _ d => uptoBulk d + 1
  | .map entries => uptoBulkEntries entries + 1
  | .held _ => 1
def uptoBulkAll {H : Type} : List (DataW H) → Nat
  | [] => 0
  | d :: r => uptoBulk d + uptoBulkAll r
def uptoBulkEntries {H : Type} : List (Lit × DataW H) → Nat
  | [] => 0
  | x :: r => uptoBulkEntry x + uptoBulkEntries r
def uptoBulkEntry {H : Type} : Lit × DataW H → Nat
  | (.string bytes, d) => bytes.length + uptoBulk d + 1
  | (_, d) => uptoBulk d + 1
 end
def uptoSmall : (H : Type) → List (DataW H) → Bool := fun _ ds => decide (uptoBulkAll ds ≤ 1048576)
def OpenSpec.upto (s : _root_.Go.ChangeSpec) : _root_.Go.OpenSpec := { _root_.Go.OpenSpec.ofChange s with cond := some uptoSmall }

/-- 'citadellaw12.ValidChecks', WHERE WHAT IT READS IS OF BULK AT MOST 1048576: true; the input reads as it did. -/
def validChecksUptoRow : OpenClaim := { program := "ytpnbaapjjchlbaa", sum := "0b68bd9fe7cfcd357cf3fab01eac7e2b217c39669af30cfb68cddc71d1fea30d", func := "citadel/citadellaw12.ValidChecks", spec := "validChecks", unfollowed := true, recurses := true, apart := false, narrowed := true }
def ValidChecksUptoSaid : Prop := validChecksUptoRow.holds Try.pinned (OpenSpec.upto validChecksSpec)

/-- 'citadellaw12.ValidLess', WHERE WHAT IT READS IS OF BULK AT MOST 1048576: true; the input reads as it did. -/
def validLessUptoRow : OpenClaim := { program := "ytpnbaapjjchlbaa", sum := "0b68bd9fe7cfcd357cf3fab01eac7e2b217c39669af30cfb68cddc71d1fea30d", func := "citadel/citadellaw12.ValidLess", spec := "validLess", unfollowed := true, recurses := true, apart := false, narrowed := true }
def ValidLessUptoSaid : Prop := validLessUptoRow.holds Try.pinned (OpenSpec.upto validLessSpec)

/-- 'citadellaw12.ValidParts', WHERE WHAT IT READS IS OF BULK AT MOST 1048576: true; the input reads as it did. -/
def validPartsUptoRow : OpenClaim := { program := "ytpnbaapjjchlbaa", sum := "0b68bd9fe7cfcd357cf3fab01eac7e2b217c39669af30cfb68cddc71d1fea30d", func := "citadel/citadellaw12.ValidParts", spec := "validParts", unfollowed := true, recurses := true, apart := false, narrowed := true }
def ValidPartsUptoSaid : Prop := validPartsUptoRow.holds Try.pinned (OpenSpec.upto validPartsSpec)

/-- 'citadellaw12.ValidGone', WHERE WHAT IT READS IS OF BULK AT MOST 1048576: true; the input reads as it did. -/
def validGoneUptoRow : OpenClaim := { program := "ytpnbaapjjchlbaa", sum := "0b68bd9fe7cfcd357cf3fab01eac7e2b217c39669af30cfb68cddc71d1fea30d", func := "citadel/citadellaw12.ValidGone", spec := "validGone", unfollowed := true, recurses := true, apart := false, narrowed := true }
def ValidGoneUptoSaid : Prop := validGoneUptoRow.holds Try.pinned (OpenSpec.upto validGoneSpec)

/-- 'citadellaw13.CompatChecks', WHERE WHAT IT READS IS OF BULK AT MOST 1048576: true; the input reads as it did. -/
def compatChecksUptoRow : OpenClaim := { program := "ytpnbaapjjchlbaa", sum := "0b68bd9fe7cfcd357cf3fab01eac7e2b217c39669af30cfb68cddc71d1fea30d", func := "citadel/citadellaw13.CompatChecks", spec := "compatChecks", unfollowed := true, recurses := true, apart := false, narrowed := true }
def CompatChecksUptoSaid : Prop := compatChecksUptoRow.holds Try.pinned (OpenSpec.upto compatChecksSpec)

/-- 'citadellaw13.CompatLists', WHERE WHAT IT READS IS OF BULK AT MOST 1048576: true; the input reads as it did. -/
def compatListsUptoRow : OpenClaim := { program := "ytpnbaapjjchlbaa", sum := "0b68bd9fe7cfcd357cf3fab01eac7e2b217c39669af30cfb68cddc71d1fea30d", func := "citadel/citadellaw13.CompatLists", spec := "compatLists", unfollowed := true, recurses := true, apart := false, narrowed := true }
def CompatListsUptoSaid : Prop := compatListsUptoRow.holds Try.pinned (OpenSpec.upto compatListsSpec)

/-- 'citadellaw13.CompatTurned', WHERE WHAT IT READS IS OF BULK AT MOST 1048576: true; the input reads as it did. -/
def compatTurnedUptoRow : OpenClaim := { program := "ytpnbaapjjchlbaa", sum := "0b68bd9fe7cfcd357cf3fab01eac7e2b217c39669af30cfb68cddc71d1fea30d", func := "citadel/citadellaw13.CompatTurned", spec := "compatTurned", unfollowed := true, recurses := true, apart := false, narrowed := true }
def CompatTurnedUptoSaid : Prop := compatTurnedUptoRow.holds Try.pinned (OpenSpec.upto compatTurnedSpec)

/-- 'citadellaw13.CompatSelf', WHERE WHAT IT READS IS OF BULK AT MOST 1048576: true; the input reads as it did. -/
def compatSelfUptoRow : OpenClaim := { program := "ytpnbaapjjchlbaa", sum := "0b68bd9fe7cfcd357cf3fab01eac7e2b217c39669af30cfb68cddc71d1fea30d", func := "citadel/citadellaw13.CompatSelf", spec := "compatSelf", unfollowed := true, recurses := true, apart := false, narrowed := true }
def CompatSelfUptoSaid : Prop := compatSelfUptoRow.holds Try.pinned (OpenSpec.upto compatSelfSpec)

/-- 'citadellaw13.CompatSplit', WHERE WHAT IT READS IS OF BULK AT MOST 1048576: true; the input reads as it did. -/
def compatSplitUptoRow : OpenClaim := { program := "ytpnbaapjjchlbaa", sum := "0b68bd9fe7cfcd357cf3fab01eac7e2b217c39669af30cfb68cddc71d1fea30d", func := "citadel/citadellaw13.CompatSplit", spec := "compatSplit", unfollowed := true, recurses := true, apart := false, narrowed := true }
def CompatSplitUptoSaid : Prop := compatSplitUptoRow.holds Try.pinned (OpenSpec.upto compatSplitSpec)

/-- 'citadellaw11.ConfigPrints', WHERE WHAT IT READS IS OF BULK AT MOST 1048576: true; the input reads as it did. -/
def configPrintsUptoRow : OpenClaim := { program := "ytpnbaapjjchlbaa", sum := "0b68bd9fe7cfcd357cf3fab01eac7e2b217c39669af30cfb68cddc71d1fea30d", func := "citadel/citadellaw11.ConfigPrints", spec := "configPrints", inPlace := ["internal/bytealg.MakeNoZero"], unfollowed := true, recurses := true, apart := false, narrowed := true }
def ConfigPrintsUptoSaid : Prop := configPrintsUptoRow.holds Try.pinned (OpenSpec.upto configPrintsSpec)

/-- 'citadellaw11.ConfigParses', WHERE WHAT IT READS IS OF BULK AT MOST 1048576: true; the input reads as it did. -/
def configParsesUptoRow : OpenClaim := { program := "ytpnbaapjjchlbaa", sum := "0b68bd9fe7cfcd357cf3fab01eac7e2b217c39669af30cfb68cddc71d1fea30d", func := "citadel/citadellaw11.ConfigParses", spec := "configParses", inPlace := ["internal/bytealg.MakeNoZero"], unfollowed := true, recurses := true, apart := false, narrowed := true }
def ConfigParsesUptoSaid : Prop := configParsesUptoRow.holds Try.pinned (OpenSpec.upto configParsesSpec)

/-- 'citadellaw11.ConfigFinds', WHERE WHAT IT READS IS OF BULK AT MOST 1048576: true; the input reads as it did. -/
def configFindsUptoRow : OpenClaim := { program := "ytpnbaapjjchlbaa", sum := "0b68bd9fe7cfcd357cf3fab01eac7e2b217c39669af30cfb68cddc71d1fea30d", func := "citadel/citadellaw11.ConfigFinds", spec := "configFinds", inPlace := ["internal/bytealg.MakeNoZero"], unfollowed := true, recurses := true, apart := false, narrowed := true }
def ConfigFindsUptoSaid : Prop := configFindsUptoRow.holds Try.pinned (OpenSpec.upto configFindsSpec)

/-- 'citadellaw11.ConfigBack', WHERE WHAT IT READS IS OF BULK AT MOST 1048576: true; the input reads as it did. -/
def configBackUptoRow : OpenClaim := { program := "ytpnbaapjjchlbaa", sum := "0b68bd9fe7cfcd357cf3fab01eac7e2b217c39669af30cfb68cddc71d1fea30d", func := "citadel/citadellaw11.ConfigBack", spec := "configBack", inPlace := ["internal/bytealg.MakeNoZero"], unfollowed := true, recurses := true, apart := false, narrowed := true }
def ConfigBackUptoSaid : Prop := configBackUptoRow.holds Try.pinned (OpenSpec.upto configBackSpec)

/-- 'citadellaw11.ConfigForms', WHERE WHAT IT READS IS OF BULK AT MOST 1048576: true; the input reads as it did. -/
def configFormsUptoRow : OpenClaim := { program := "ytpnbaapjjchlbaa", sum := "0b68bd9fe7cfcd357cf3fab01eac7e2b217c39669af30cfb68cddc71d1fea30d", func := "citadel/citadellaw11.ConfigForms", spec := "configForms", inPlace := ["internal/bytealg.MakeNoZero"], unfollowed := true, recurses := true, apart := false, narrowed := true }
def ConfigFormsUptoSaid : Prop := configFormsUptoRow.holds Try.pinned (OpenSpec.upto configFormsSpec)

/-- 'citadellaw11.ConfigCut', WHERE WHAT IT READS IS OF BULK AT MOST 1048576: true; the input reads as it did. -/
def configCutUptoRow : OpenClaim := { program := "ytpnbaapjjchlbaa", sum := "0b68bd9fe7cfcd357cf3fab01eac7e2b217c39669af30cfb68cddc71d1fea30d", func := "citadel/citadellaw11.ConfigCut", spec := "configCut", inPlace := ["internal/bytealg.MakeNoZero"], unfollowed := true, recurses := true, apart := false, narrowed := true }
def ConfigCutUptoSaid : Prop := configCutUptoRow.holds Try.pinned (OpenSpec.upto configCutSpec)

end Rows
end Go.Proofs.Ytpnbaapjjchlbaa
