/-
  No cell of these rows narrows 'for every input' (looked for: loops, veiled, ifaces, maps, wideKeys, modest, calm, conditions, laid).
  DERIVED. THE GIVEN ROWS OF THIS SEAT. 5 by the template 'for every input the law returns true; each argument reads behind the call as it read before'; 0 by the template 'total and deterministic' (their statements: YtlholdllibghbaaGreatTotals.lean).
  GIVEN WITH THE SEED: the statements are not yours to turn. If you find one false, say at which input.
  Laid BY PROGRAM, IN A SANDBOX (cutbox-rows.mjs): the forced cells as the released guide's own fill.sh prints them over the translation 5bf4d3b338883dea… (all of the seat's roots in one cut). By AI agents, Wed Nov 11 2026. No macro, syntax, notation, axiom, sorry.
-/
import Derived.Test.YtlholdllibghbaaGreatChecked
import GoSem.Claim
import GoSem.ClaimJoined
import GoSem.ClaimMapViews
import Derived.JoinedTies
import Derived.KernelRfl
namespace Go.Proofs.YtlholdllibghbaaGreat
/- THE CELL 'sum', in the pinned program and in every row, IS THE sha256 OF THE DUMP (.gsa) THAT YtlholdllibghbaaGreatProg.lean LOADS. Nothing in Lean hashes anything: it is a label: what it is worth is what the hold of that sum in a sandbox is worth. -/
noncomputable def Tryz.pinned : Pinned := { name := "ytlholdllibghbaagreat", sum := "5bf4d3b338883deaab81762adfcc1587a48afdeecae63597f3d816f6b454cc5d", checked := Tryz.checked }
namespace Rows
def none {H : Type} : Left H := { results := [], args := [] }

/-- 'citadellaw21.StateFresh': WHATEVER THE INPUT: true; the input reads as it did. -/
def stateFreshSpec : ChangeSpec := { name := "stateFresh", fn := fun _ => fun
  | [d] => { results := [.lit (.bool true)], args := [d] }
  | _ => none }
def stateFreshRow : OpenClaim := { program := "ytlholdllibghbaagreat", sum := "5bf4d3b338883deaab81762adfcc1587a48afdeecae63597f3d816f6b454cc5d", func := "citadel/citadellaw21.StateFresh", spec := "stateFresh", inPlace := ["internal/bytealg.MakeNoZero"], unfollowed := true, recurses := true, apart := false }
def StateFreshSaid : Prop := stateFreshRow.holds Tryz.pinned (OpenSpec.ofChange stateFreshSpec)

/-- ITS FALSE NEIGHBOUR: 'it returns false'. Refute it at one input. -/
def stateFreshWrong : ChangeSpec := { name := "stateFresh", fn := fun _ => fun
  | [d] => { results := [.lit (.bool false)], args := [d] }
  | _ => none }
def StateFreshWrongFalsely : Prop := stateFreshRow.holds Tryz.pinned (OpenSpec.ofChange stateFreshWrong)

/-- 'citadellaw14.ManifestBytes': WHATEVER THE INPUT: true; the input reads as it did. -/
def manifestBytesSpec : ChangeSpec := { name := "manifestBytes", fn := fun _ => fun
  | [d1, d2, d3, d4, d5] => { results := [.lit (.bool true)], args := [d1, d2, d3, d4, d5] }
  | _ => none }
def manifestBytesRow : OpenClaim := { program := "ytlholdllibghbaagreat", sum := "5bf4d3b338883deaab81762adfcc1587a48afdeecae63597f3d816f6b454cc5d", func := "citadel/citadellaw14.ManifestBytes", spec := "manifestBytes", inPlace := ["internal/bytealg.MakeNoZero"], unfollowed := true, recurses := true, apart := false }
def ManifestBytesSaid : Prop := manifestBytesRow.holds Tryz.pinned (OpenSpec.ofChange manifestBytesSpec)

/-- ITS FALSE NEIGHBOUR: 'it returns false'. Refute it at one input. -/
def manifestBytesWrong : ChangeSpec := { name := "manifestBytes", fn := fun _ => fun
  | [d1, d2, d3, d4, d5] => { results := [.lit (.bool false)], args := [d1, d2, d3, d4, d5] }
  | _ => none }
def ManifestBytesWrongFalsely : Prop := manifestBytesRow.holds Tryz.pinned (OpenSpec.ofChange manifestBytesWrong)

/-- 'citadellaw14.ManifestChecks': WHATEVER THE INPUT: true; the input reads as it did. -/
def manifestChecksSpec : ChangeSpec := { name := "manifestChecks", fn := fun _ => fun
  | [d1, d2, d3, d4, d5, d6, d7] => { results := [.lit (.bool true)], args := [d1, d2, d3, d4, d5, d6, d7] }
  | _ => none }
def manifestChecksRow : OpenClaim := { program := "ytlholdllibghbaagreat", sum := "5bf4d3b338883deaab81762adfcc1587a48afdeecae63597f3d816f6b454cc5d", func := "citadel/citadellaw14.ManifestChecks", spec := "manifestChecks", inPlace := ["internal/bytealg.MakeNoZero"], unfollowed := true, recurses := true, apart := false }
def ManifestChecksSaid : Prop := manifestChecksRow.holds Tryz.pinned (OpenSpec.ofChange manifestChecksSpec)

/-- ITS FALSE NEIGHBOUR: 'it returns false'. Refute it at one input. -/
def manifestChecksWrong : ChangeSpec := { name := "manifestChecks", fn := fun _ => fun
  | [d1, d2, d3, d4, d5, d6, d7] => { results := [.lit (.bool false)], args := [d1, d2, d3, d4, d5, d6, d7] }
  | _ => none }
def ManifestChecksWrongFalsely : Prop := manifestChecksRow.holds Tryz.pinned (OpenSpec.ofChange manifestChecksWrong)

/-- 'citadellaw14.ManifestSeals': WHATEVER THE INPUT: true; the input reads as it did. -/
def manifestSealsSpec : ChangeSpec := { name := "manifestSeals", fn := fun _ => fun
  | [d1, d2, d3, d4] => { results := [.lit (.bool true)], args := [d1, d2, d3, d4] }
  | _ => none }
def manifestSealsRow : OpenClaim := { program := "ytlholdllibghbaagreat", sum := "5bf4d3b338883deaab81762adfcc1587a48afdeecae63597f3d816f6b454cc5d", func := "citadel/citadellaw14.ManifestSeals", spec := "manifestSeals", inPlace := ["internal/bytealg.MakeNoZero"], unfollowed := true, recurses := true, apart := false }
def ManifestSealsSaid : Prop := manifestSealsRow.holds Tryz.pinned (OpenSpec.ofChange manifestSealsSpec)

/-- ITS FALSE NEIGHBOUR: 'it returns false'. Refute it at one input. -/
def manifestSealsWrong : ChangeSpec := { name := "manifestSeals", fn := fun _ => fun
  | [d1, d2, d3, d4] => { results := [.lit (.bool false)], args := [d1, d2, d3, d4] }
  | _ => none }
def ManifestSealsWrongFalsely : Prop := manifestSealsRow.holds Tryz.pinned (OpenSpec.ofChange manifestSealsWrong)

/-- 'citadellaw14.ManifestBack': WHATEVER THE INPUT: true; the input reads as it did. -/
def manifestBackSpec : ChangeSpec := { name := "manifestBack", fn := fun _ => fun
  | [d1, d2, d3] => { results := [.lit (.bool true)], args := [d1, d2, d3] }
  | _ => none }
def manifestBackRow : OpenClaim := { program := "ytlholdllibghbaagreat", sum := "5bf4d3b338883deaab81762adfcc1587a48afdeecae63597f3d816f6b454cc5d", func := "citadel/citadellaw14.ManifestBack", spec := "manifestBack", inPlace := ["internal/bytealg.MakeNoZero"], unfollowed := true, recurses := true, apart := false }
def ManifestBackSaid : Prop := manifestBackRow.holds Tryz.pinned (OpenSpec.ofChange manifestBackSpec)

/-- ITS FALSE NEIGHBOUR: 'it returns false'. Refute it at one input. -/
def manifestBackWrong : ChangeSpec := { name := "manifestBack", fn := fun _ => fun
  | [d1, d2, d3] => { results := [.lit (.bool false)], args := [d1, d2, d3] }
  | _ => none }
def ManifestBackWrongFalsely : Prop := manifestBackRow.holds Tryz.pinned (OpenSpec.ofChange manifestBackWrong)

/- THE SECOND FORM. 'bulk': how many values and letters a reading holds, each counted each time it is reached (what is shared counts as often as it is met; a slice's spare places count too). A statement '..UptoSaid' is the law's where the arguments, and the package variables that the reading takes, are together of bulk at most 1048576: NARROWER than '..Said'. Prove '..Said' where nothing that the law and all that it calls make is longer than what came in: it says more and counts as full. Else prove '..UptoSaid'. A law counts once. -/
mutual
def uptoBulk {H : Type} : DataW H → Nat
  | .lit (.string bytes) => bytes.length + 1
  | .lit _ => 1
  | .nil => 1
  | .ptr d => uptoBulk d + 1
  | .slice elems spare => uptoBulkAll elems + uptoBulkAll spare + 1
  | .agg parts => uptoBulkAll parts + 1
  | .iface _ d => uptoBulk d + 1
  | .map entries => uptoBulkEntries entries + 1
  | .held _ => 1
def uptoBulkAll {H : Type} : List (DataW H) → Nat
  | [] => 0
  | d :: r => uptoBulk d + uptoBulkAll r
def uptoBulkEntries {H : Type} : List (Lit × DataW H) → Nat
  | [] => 0
  | x :: r => uptoBulkEntry x + uptoBulkEntries r
def uptoBulkEntry {H : Type} : Lit × DataW H → Nat
  | (.string bytes, d) => bytes.length + uptoBulk d + 1
  | (_, d) => uptoBulk d + 1
 end
def uptoSmall : (H : Type) → List (DataW H) → Bool := fun _ ds => decide (uptoBulkAll ds ≤ 1048576)
def OpenSpec.upto (s : _root_.Go.ChangeSpec) : _root_.Go.OpenSpec := { _root_.Go.OpenSpec.ofChange s with cond := some uptoSmall }

/-- 'citadellaw21.StateFresh', WHERE WHAT IT READS IS OF BULK AT MOST 1048576: true; the input reads as it did. -/
def stateFreshUptoRow : OpenClaim := { program := "ytlholdllibghbaagreat", sum := "5bf4d3b338883deaab81762adfcc1587a48afdeecae63597f3d816f6b454cc5d", func := "citadel/citadellaw21.StateFresh", spec := "stateFresh", inPlace := ["internal/bytealg.MakeNoZero"], unfollowed := true, recurses := true, apart := false, narrowed := true }
def StateFreshUptoSaid : Prop := stateFreshUptoRow.holds Tryz.pinned (OpenSpec.upto stateFreshSpec)

/-- 'citadellaw14.ManifestBytes', WHERE WHAT IT READS IS OF BULK AT MOST 1048576: true; the input reads as it did. -/
def manifestBytesUptoRow : OpenClaim := { program := "ytlholdllibghbaagreat", sum := "5bf4d3b338883deaab81762adfcc1587a48afdeecae63597f3d816f6b454cc5d", func := "citadel/citadellaw14.ManifestBytes", spec := "manifestBytes", inPlace := ["internal/bytealg.MakeNoZero"], unfollowed := true, recurses := true, apart := false, narrowed := true }
def ManifestBytesUptoSaid : Prop := manifestBytesUptoRow.holds Tryz.pinned (OpenSpec.upto manifestBytesSpec)

/-- 'citadellaw14.ManifestChecks', WHERE WHAT IT READS IS OF BULK AT MOST 1048576: true; the input reads as it did. -/
def manifestChecksUptoRow : OpenClaim := { program := "ytlholdllibghbaagreat", sum := "5bf4d3b338883deaab81762adfcc1587a48afdeecae63597f3d816f6b454cc5d", func := "citadel/citadellaw14.ManifestChecks", spec := "manifestChecks", inPlace := ["internal/bytealg.MakeNoZero"], unfollowed := true, recurses := true, apart := false, narrowed := true }
def ManifestChecksUptoSaid : Prop := manifestChecksUptoRow.holds Tryz.pinned (OpenSpec.upto manifestChecksSpec)

/-- 'citadellaw14.ManifestSeals', WHERE WHAT IT READS IS OF BULK AT MOST 1048576: true; the input reads as it did. -/
def manifestSealsUptoRow : OpenClaim := { program := "ytlholdllibghbaagreat", sum := "5bf4d3b338883deaab81762adfcc1587a48afdeecae63597f3d816f6b454cc5d", func := "citadel/citadellaw14.ManifestSeals", spec := "manifestSeals", inPlace := ["internal/bytealg.MakeNoZero"], unfollowed := true, recurses := true, apart := false, narrowed := true }
def ManifestSealsUptoSaid : Prop := manifestSealsUptoRow.holds Tryz.pinned (OpenSpec.upto manifestSealsSpec)

/-- 'citadellaw14.ManifestBack', WHERE WHAT IT READS IS OF BULK AT MOST 1048576: true; the input reads as it did. -/
def manifestBackUptoRow : OpenClaim := { program := "ytlholdllibghbaagreat", sum := "5bf4d3b338883deaab81762adfcc1587a48afdeecae63597f3d816f6b454cc5d", func := "citadel/citadellaw14.ManifestBack", spec := "manifestBack", inPlace := ["internal/bytealg.MakeNoZero"], unfollowed := true, recurses := true, apart := false, narrowed := true }
def ManifestBackUptoSaid : Prop := manifestBackUptoRow.holds Tryz.pinned (OpenSpec.upto manifestBackSpec)

end Rows
end Go.Proofs.YtlholdllibghbaaGreat
