/-
  No cell of these rows narrows 'for every input' (looked for: loops, veiled, ifaces, maps, wideKeys, modest, calm, conditions, laid).
  DERIVED. THE GIVEN ROWS OF THIS SEAT. 8 by the template 'for every input the law returns true; each argument reads behind the call as it read before'; 0 by the template 'total and deterministic' (their statements: YtglmijcfdcajkaaTotals.lean).
  GIVEN WITH THE SEED: the statements are not yours to turn. If you find one false, say at which input.
  Laid BY PROGRAM, IN A SANDBOX (cutbox-rows.mjs): the forced cells as the released guide's own fill.sh prints them over the translation 6d8b464e2b50ef7c… (all of the seat's roots in one cut). By AI agents, Wed Nov 11 2026. No macro, syntax, notation, axiom, sorry.
-/
import Derived.Test.YtglmijcfdcajkaaChecked
import GoSem.Claim
import GoSem.ClaimJoined
import GoSem.ClaimMapViews
import Derived.JoinedTies
import Derived.KernelRfl
namespace Go.Proofs.Ytglmijcfdcajkaa
/- THE CELL 'sum', in the pinned program and in every row, IS THE sha256 OF THE DUMP (.gsa) THAT YtglmijcfdcajkaaProg.lean LOADS. Nothing in Lean hashes anything: it is a label: what it is worth is what the hold of that sum in a sandbox is worth. -/
noncomputable def Try.pinned : Pinned := { name := "ytglmijcfdcajkaa", sum := "6d8b464e2b50ef7c1dda1d8e2c19152693e95014ab5a4b9b4e9da54ebfd5cbe2", checked := Try.checked }
namespace Rows
def none {H : Type} : Left H := { results := [], args := [] }

/-- 'citadellaw05.WireAdds': WHATEVER THE INPUT: true; the input reads as it did. -/
def wireAddsSpec : ChangeSpec := { name := "wireAdds", fn := fun _ => fun
  | [d] => { results := [.lit (.bool true)], args := [d] }
  | _ => none }
def wireAddsRow : OpenClaim := { program := "ytglmijcfdcajkaa", sum := "6d8b464e2b50ef7c1dda1d8e2c19152693e95014ab5a4b9b4e9da54ebfd5cbe2", func := "citadel/citadellaw05.WireAdds", spec := "wireAdds", inPlace := ["internal/bytealg.MakeNoZero"], apart := false }
def WireAddsSaid : Prop := wireAddsRow.holds Try.pinned (OpenSpec.ofChange wireAddsSpec)

/-- ITS FALSE NEIGHBOUR: 'it returns false'. Refute it at one input. -/
def wireAddsWrong : ChangeSpec := { name := "wireAdds", fn := fun _ => fun
  | [d] => { results := [.lit (.bool false)], args := [d] }
  | _ => none }
def WireAddsWrongFalsely : Prop := wireAddsRow.holds Try.pinned (OpenSpec.ofChange wireAddsWrong)

/-- 'citadellaw05.WireLong': WHATEVER THE INPUT: true; the input reads as it did. -/
def wireLongSpec : ChangeSpec := { name := "wireLong", fn := fun _ => fun
  | [d1, d2] => { results := [.lit (.bool true)], args := [d1, d2] }
  | _ => none }
def wireLongRow : OpenClaim := { program := "ytglmijcfdcajkaa", sum := "6d8b464e2b50ef7c1dda1d8e2c19152693e95014ab5a4b9b4e9da54ebfd5cbe2", func := "citadel/citadellaw05.WireLong", spec := "wireLong", inPlace := ["internal/bytealg.MakeNoZero"], unfollowed := true, recurses := true, apart := false }
def WireLongSaid : Prop := wireLongRow.holds Try.pinned (OpenSpec.ofChange wireLongSpec)

/-- ITS FALSE NEIGHBOUR: 'it returns false'. Refute it at one input. -/
def wireLongWrong : ChangeSpec := { name := "wireLong", fn := fun _ => fun
  | [d1, d2] => { results := [.lit (.bool false)], args := [d1, d2] }
  | _ => none }
def WireLongWrongFalsely : Prop := wireLongRow.holds Try.pinned (OpenSpec.ofChange wireLongWrong)

/-- 'citadellaw05.WireTakes': WHATEVER THE INPUT: true; the input reads as it did. -/
def wireTakesSpec : ChangeSpec := { name := "wireTakes", fn := fun _ => fun
  | [d1, d2] => { results := [.lit (.bool true)], args := [d1, d2] }
  | _ => none }
def wireTakesRow : OpenClaim := { program := "ytglmijcfdcajkaa", sum := "6d8b464e2b50ef7c1dda1d8e2c19152693e95014ab5a4b9b4e9da54ebfd5cbe2", func := "citadel/citadellaw05.WireTakes", spec := "wireTakes", inPlace := ["internal/bytealg.MakeNoZero"], unfollowed := true, recurses := true, apart := false }
def WireTakesSaid : Prop := wireTakesRow.holds Try.pinned (OpenSpec.ofChange wireTakesSpec)

/-- ITS FALSE NEIGHBOUR: 'it returns false'. Refute it at one input. -/
def wireTakesWrong : ChangeSpec := { name := "wireTakes", fn := fun _ => fun
  | [d1, d2] => { results := [.lit (.bool false)], args := [d1, d2] }
  | _ => none }
def WireTakesWrongFalsely : Prop := wireTakesRow.holds Try.pinned (OpenSpec.ofChange wireTakesWrong)

/-- 'citadellaw05.WireNobody': WHATEVER THE INPUT: true; the input reads as it did. -/
def wireNobodySpec : ChangeSpec := { name := "wireNobody", fn := fun _ => fun
  | [d] => { results := [.lit (.bool true)], args := [d] }
  | _ => none }
def wireNobodyRow : OpenClaim := { program := "ytglmijcfdcajkaa", sum := "6d8b464e2b50ef7c1dda1d8e2c19152693e95014ab5a4b9b4e9da54ebfd5cbe2", func := "citadel/citadellaw05.WireNobody", spec := "wireNobody", inPlace := ["internal/bytealg.MakeNoZero"], unfollowed := true, recurses := true, apart := false }
def WireNobodySaid : Prop := wireNobodyRow.holds Try.pinned (OpenSpec.ofChange wireNobodySpec)

/-- ITS FALSE NEIGHBOUR: 'it returns false'. Refute it at one input. -/
def wireNobodyWrong : ChangeSpec := { name := "wireNobody", fn := fun _ => fun
  | [d] => { results := [.lit (.bool false)], args := [d] }
  | _ => none }
def WireNobodyWrongFalsely : Prop := wireNobodyRow.holds Try.pinned (OpenSpec.ofChange wireNobodyWrong)

/-- 'citadellaw05.WireCounts': WHATEVER THE INPUT: true; the input reads as it did. -/
def wireCountsSpec : ChangeSpec := { name := "wireCounts", fn := fun _ => fun
  | [d1, d2, d3] => { results := [.lit (.bool true)], args := [d1, d2, d3] }
  | _ => none }
def wireCountsRow : OpenClaim := { program := "ytglmijcfdcajkaa", sum := "6d8b464e2b50ef7c1dda1d8e2c19152693e95014ab5a4b9b4e9da54ebfd5cbe2", func := "citadel/citadellaw05.WireCounts", spec := "wireCounts", inPlace := ["internal/bytealg.MakeNoZero", "internal/bytealg.abigen_runtime_cmpstring"], unfollowed := true, recurses := true, apart := false }
def WireCountsSaid : Prop := wireCountsRow.holds Try.pinned (OpenSpec.ofChange wireCountsSpec)

/-- ITS FALSE NEIGHBOUR: 'it returns false'. Refute it at one input. -/
def wireCountsWrong : ChangeSpec := { name := "wireCounts", fn := fun _ => fun
  | [d1, d2, d3] => { results := [.lit (.bool false)], args := [d1, d2, d3] }
  | _ => none }
def WireCountsWrongFalsely : Prop := wireCountsRow.holds Try.pinned (OpenSpec.ofChange wireCountsWrong)

/-- 'citadellaw05.WireBroken': WHATEVER THE INPUT: true; the input reads as it did. -/
def wireBrokenSpec : ChangeSpec := { name := "wireBroken", fn := fun _ => fun
  | [d1, d2] => { results := [.lit (.bool true)], args := [d1, d2] }
  | _ => none }
def wireBrokenRow : OpenClaim := { program := "ytglmijcfdcajkaa", sum := "6d8b464e2b50ef7c1dda1d8e2c19152693e95014ab5a4b9b4e9da54ebfd5cbe2", func := "citadel/citadellaw05.WireBroken", spec := "wireBroken", inPlace := ["internal/bytealg.MakeNoZero", "internal/bytealg.abigen_runtime_cmpstring"], unfollowed := true, recurses := true, apart := false }
def WireBrokenSaid : Prop := wireBrokenRow.holds Try.pinned (OpenSpec.ofChange wireBrokenSpec)

/-- ITS FALSE NEIGHBOUR: 'it returns false'. Refute it at one input. -/
def wireBrokenWrong : ChangeSpec := { name := "wireBroken", fn := fun _ => fun
  | [d1, d2] => { results := [.lit (.bool false)], args := [d1, d2] }
  | _ => none }
def WireBrokenWrongFalsely : Prop := wireBrokenRow.holds Try.pinned (OpenSpec.ofChange wireBrokenWrong)

/-- 'citadellaw05.WireOrder': WHATEVER THE INPUT: true; the input reads as it did. -/
def wireOrderSpec : ChangeSpec := { name := "wireOrder", fn := fun _ => fun
  | [d1, d2] => { results := [.lit (.bool true)], args := [d1, d2] }
  | _ => none }
def wireOrderRow : OpenClaim := { program := "ytglmijcfdcajkaa", sum := "6d8b464e2b50ef7c1dda1d8e2c19152693e95014ab5a4b9b4e9da54ebfd5cbe2", func := "citadel/citadellaw05.WireOrder", spec := "wireOrder", inPlace := ["internal/bytealg.MakeNoZero", "internal/bytealg.abigen_runtime_cmpstring"], unfollowed := true, recurses := true, apart := false }
def WireOrderSaid : Prop := wireOrderRow.holds Try.pinned (OpenSpec.ofChange wireOrderSpec)

/-- ITS FALSE NEIGHBOUR: 'it returns false'. Refute it at one input. -/
def wireOrderWrong : ChangeSpec := { name := "wireOrder", fn := fun _ => fun
  | [d1, d2] => { results := [.lit (.bool false)], args := [d1, d2] }
  | _ => none }
def WireOrderWrongFalsely : Prop := wireOrderRow.holds Try.pinned (OpenSpec.ofChange wireOrderWrong)

/-- 'citadellaw05.WireOneWay': WHATEVER THE INPUT: true; the input reads as it did. -/
def wireOneWaySpec : ChangeSpec := { name := "wireOneWay", fn := fun _ => fun
  | [d1, d2] => { results := [.lit (.bool true)], args := [d1, d2] }
  | _ => none }
def wireOneWayRow : OpenClaim := { program := "ytglmijcfdcajkaa", sum := "6d8b464e2b50ef7c1dda1d8e2c19152693e95014ab5a4b9b4e9da54ebfd5cbe2", func := "citadel/citadellaw05.WireOneWay", spec := "wireOneWay", inPlace := ["internal/bytealg.MakeNoZero", "internal/bytealg.abigen_runtime_cmpstring"], unfollowed := true, recurses := true, apart := false }
def WireOneWaySaid : Prop := wireOneWayRow.holds Try.pinned (OpenSpec.ofChange wireOneWaySpec)

/-- ITS FALSE NEIGHBOUR: 'it returns false'. Refute it at one input. -/
def wireOneWayWrong : ChangeSpec := { name := "wireOneWay", fn := fun _ => fun
  | [d1, d2] => { results := [.lit (.bool false)], args := [d1, d2] }
  | _ => none }
def WireOneWayWrongFalsely : Prop := wireOneWayRow.holds Try.pinned (OpenSpec.ofChange wireOneWayWrong)

/- THE SECOND FORM. 'bulk': how many values and letters a reading holds, each counted each time it is reached (what is shared counts as often as it is met; a slice's spare places count too). A statement '..UptoSaid' is the law's where the arguments, and the package variables that the reading takes, are together of bulk at most 1048576: NARROWER than '..Said'. Prove '..Said' where nothing that the law and all that it calls make is longer than what came in: it says more and counts as full. Else prove '..UptoSaid'. A law counts once. -/
mutual
def uptoBulk {H : Type} : DataW H → Nat
  | .lit (.string bytes) => bytes.length + 1
  | .lit _ => 1
  | .nil => 1
  | .ptr d => uptoBulk d + 1
  | .slice elems spare => uptoBulkAll elems + uptoBulkAll spare + 1
  | .agg parts => uptoBulkAll parts + 1
  | .iface _ d => uptoBulk d + 1
  | .map entries => uptoBulkEntries entries + 1
  | .held _ => 1
def uptoBulkAll {H : Type} : List (DataW H) → Nat
  | [] => 0
  | d :: r => uptoBulk d + uptoBulkAll r
def uptoBulkEntries {H : Type} : List (Lit × DataW H) → Nat
  | [] => 0
  | x :: r => uptoBulkEntry x + uptoBulkEntries r
def uptoBulkEntry {H : Type} : Lit × DataW H → Nat
  | (.string bytes, d) => bytes.length + uptoBulk d + 1
  | (_, d) => uptoBulk d + 1
 end
def uptoSmall : (H : Type) → List (DataW H) → Bool := fun _ ds => decide (uptoBulkAll ds ≤ 1048576)
def OpenSpec.upto (s : _root_.Go.ChangeSpec) : _root_.Go.OpenSpec := { _root_.Go.OpenSpec.ofChange s with cond := some uptoSmall }

/-- 'citadellaw05.WireAdds', WHERE WHAT IT READS IS OF BULK AT MOST 1048576: true; the input reads as it did. -/
def wireAddsUptoRow : OpenClaim := { program := "ytglmijcfdcajkaa", sum := "6d8b464e2b50ef7c1dda1d8e2c19152693e95014ab5a4b9b4e9da54ebfd5cbe2", func := "citadel/citadellaw05.WireAdds", spec := "wireAdds", inPlace := ["internal/bytealg.MakeNoZero"], apart := false, narrowed := true }
def WireAddsUptoSaid : Prop := wireAddsUptoRow.holds Try.pinned (OpenSpec.upto wireAddsSpec)

/-- 'citadellaw05.WireLong', WHERE WHAT IT READS IS OF BULK AT MOST 1048576: true; the input reads as it did. -/
def wireLongUptoRow : OpenClaim := { program := "ytglmijcfdcajkaa", sum := "6d8b464e2b50ef7c1dda1d8e2c19152693e95014ab5a4b9b4e9da54ebfd5cbe2", func := "citadel/citadellaw05.WireLong", spec := "wireLong", inPlace := ["internal/bytealg.MakeNoZero"], unfollowed := true, recurses := true, apart := false, narrowed := true }
def WireLongUptoSaid : Prop := wireLongUptoRow.holds Try.pinned (OpenSpec.upto wireLongSpec)

/-- 'citadellaw05.WireTakes', WHERE WHAT IT READS IS OF BULK AT MOST 1048576: true; the input reads as it did. -/
def wireTakesUptoRow : OpenClaim := { program := "ytglmijcfdcajkaa", sum := "6d8b464e2b50ef7c1dda1d8e2c19152693e95014ab5a4b9b4e9da54ebfd5cbe2", func := "citadel/citadellaw05.WireTakes", spec := "wireTakes", inPlace := ["internal/bytealg.MakeNoZero"], unfollowed := true, recurses := true, apart := false, narrowed := true }
def WireTakesUptoSaid : Prop := wireTakesUptoRow.holds Try.pinned (OpenSpec.upto wireTakesSpec)

/-- 'citadellaw05.WireNobody', WHERE WHAT IT READS IS OF BULK AT MOST 1048576: true; the input reads as it did. -/
def wireNobodyUptoRow : OpenClaim := { program := "ytglmijcfdcajkaa", sum := "6d8b464e2b50ef7c1dda1d8e2c19152693e95014ab5a4b9b4e9da54ebfd5cbe2", func := "citadel/citadellaw05.WireNobody", spec := "wireNobody", inPlace := ["internal/bytealg.MakeNoZero"], unfollowed := true, recurses := true, apart := false, narrowed := true }
def WireNobodyUptoSaid : Prop := wireNobodyUptoRow.holds Try.pinned (OpenSpec.upto wireNobodySpec)

/-- 'citadellaw05.WireCounts', WHERE WHAT IT READS IS OF BULK AT MOST 1048576: true; the input reads as it did. -/
def wireCountsUptoRow : OpenClaim := { program := "ytglmijcfdcajkaa", sum := "6d8b464e2b50ef7c1dda1d8e2c19152693e95014ab5a4b9b4e9da54ebfd5cbe2", func := "citadel/citadellaw05.WireCounts", spec := "wireCounts", inPlace := ["internal/bytealg.MakeNoZero", "internal/bytealg.abigen_runtime_cmpstring"], unfollowed := true, recurses := true, apart := false, narrowed := true }
def WireCountsUptoSaid : Prop := wireCountsUptoRow.holds Try.pinned (OpenSpec.upto wireCountsSpec)

/-- 'citadellaw05.WireBroken', WHERE WHAT IT READS IS OF BULK AT MOST 1048576: true; the input reads as it did. -/
def wireBrokenUptoRow : OpenClaim := { program := "ytglmijcfdcajkaa", sum := "6d8b464e2b50ef7c1dda1d8e2c19152693e95014ab5a4b9b4e9da54ebfd5cbe2", func := "citadel/citadellaw05.WireBroken", spec := "wireBroken", inPlace := ["internal/bytealg.MakeNoZero", "internal/bytealg.abigen_runtime_cmpstring"], unfollowed := true, recurses := true, apart := false, narrowed := true }
def WireBrokenUptoSaid : Prop := wireBrokenUptoRow.holds Try.pinned (OpenSpec.upto wireBrokenSpec)

/-- 'citadellaw05.WireOrder', WHERE WHAT IT READS IS OF BULK AT MOST 1048576: true; the input reads as it did. -/
def wireOrderUptoRow : OpenClaim := { program := "ytglmijcfdcajkaa", sum := "6d8b464e2b50ef7c1dda1d8e2c19152693e95014ab5a4b9b4e9da54ebfd5cbe2", func := "citadel/citadellaw05.WireOrder", spec := "wireOrder", inPlace := ["internal/bytealg.MakeNoZero", "internal/bytealg.abigen_runtime_cmpstring"], unfollowed := true, recurses := true, apart := false, narrowed := true }
def WireOrderUptoSaid : Prop := wireOrderUptoRow.holds Try.pinned (OpenSpec.upto wireOrderSpec)

/-- 'citadellaw05.WireOneWay', WHERE WHAT IT READS IS OF BULK AT MOST 1048576: true; the input reads as it did. -/
def wireOneWayUptoRow : OpenClaim := { program := "ytglmijcfdcajkaa", sum := "6d8b464e2b50ef7c1dda1d8e2c19152693e95014ab5a4b9b4e9da54ebfd5cbe2", func := "citadel/citadellaw05.WireOneWay", spec := "wireOneWay", inPlace := ["internal/bytealg.MakeNoZero", "internal/bytealg.abigen_runtime_cmpstring"], unfollowed := true, recurses := true, apart := false, narrowed := true }
def WireOneWayUptoSaid : Prop := wireOneWayUptoRow.holds Try.pinned (OpenSpec.upto wireOneWaySpec)

end Rows
end Go.Proofs.Ytglmijcfdcajkaa
