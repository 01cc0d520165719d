/-
  No cell of these rows narrows 'for every input' (looked for: loops, veiled, ifaces, maps, wideKeys, modest, calm, conditions, laid).
  DERIVED. THE GIVEN ROWS OF THIS SEAT. 9 by the template 'for every input the law returns true; each argument reads behind the call as it read before'; 0 by the template 'total and deterministic' (their statements: YtiemafgnpmoblaaTotals.lean).
  GIVEN WITH THE SEED: the statements are not yours to turn. If you find one false, say at which input.
  Laid BY PROGRAM, IN A SANDBOX (cutbox-rows.mjs): the forced cells as the released guide's own fill.sh prints them over the translation c4d0e978ad69d7da… (all of the seat's roots in one cut). By AI agents, Wed Nov 11 2026. No macro, syntax, notation, axiom, sorry.
-/
import Derived.Test.YtiemafgnpmoblaaChecked
import GoSem.Claim
import GoSem.ClaimJoined
import GoSem.ClaimMapViews
import Derived.JoinedTies
import Derived.KernelRfl
namespace Go.Proofs.Ytiemafgnpmoblaa
/- THE CELL 'sum', in the pinned program and in every row, IS THE sha256 OF THE DUMP (.gsa) THAT YtiemafgnpmoblaaProg.lean LOADS. Nothing in Lean hashes anything: it is a label: what it is worth is what the hold of that sum in a sandbox is worth. -/
noncomputable def Try.pinned : Pinned := { name := "ytiemafgnpmoblaa", sum := "c4d0e978ad69d7da0d9cbcd4b540f278f55044d6d0c96a5b92bce0f706314e68", checked := Try.checked }
namespace Rows
def none {H : Type} : Left H := { results := [], args := [] }

/-- 'citadellaw03.ShaEats': WHATEVER THE INPUT: true; the input reads as it did. -/
def shaEatsSpec : ChangeSpec := { name := "shaEats", fn := fun _ => fun
  | [d1, d2] => { results := [.lit (.bool true)], args := [d1, d2] }
  | _ => none }
def shaEatsRow : OpenClaim := { program := "ytiemafgnpmoblaa", sum := "c4d0e978ad69d7da0d9cbcd4b540f278f55044d6d0c96a5b92bce0f706314e68", func := "citadel/citadellaw03.ShaEats", spec := "shaEats", unfollowed := true, recurses := true, apart := false }
def ShaEatsSaid : Prop := shaEatsRow.holds Try.pinned (OpenSpec.ofChange shaEatsSpec)

/-- ITS FALSE NEIGHBOUR: 'it returns false'. Refute it at one input. -/
def shaEatsWrong : ChangeSpec := { name := "shaEats", fn := fun _ => fun
  | [d1, d2] => { results := [.lit (.bool false)], args := [d1, d2] }
  | _ => none }
def ShaEatsWrongFalsely : Prop := shaEatsRow.holds Try.pinned (OpenSpec.ofChange shaEatsWrong)

/-- 'citadellaw03.ShaSums': WHATEVER THE INPUT: true; the input reads as it did. -/
def shaSumsSpec : ChangeSpec := { name := "shaSums", fn := fun _ => fun
  | [d1, d2] => { results := [.lit (.bool true)], args := [d1, d2] }
  | _ => none }
def shaSumsRow : OpenClaim := { program := "ytiemafgnpmoblaa", sum := "c4d0e978ad69d7da0d9cbcd4b540f278f55044d6d0c96a5b92bce0f706314e68", func := "citadel/citadellaw03.ShaSums", spec := "shaSums", inPlace := ["internal/bytealg.MakeNoZero"], unfollowed := true, recurses := true, apart := false }
def ShaSumsSaid : Prop := shaSumsRow.holds Try.pinned (OpenSpec.ofChange shaSumsSpec)

/-- ITS FALSE NEIGHBOUR: 'it returns false'. Refute it at one input. -/
def shaSumsWrong : ChangeSpec := { name := "shaSums", fn := fun _ => fun
  | [d1, d2] => { results := [.lit (.bool false)], args := [d1, d2] }
  | _ => none }
def ShaSumsWrongFalsely : Prop := shaSumsRow.holds Try.pinned (OpenSpec.ofChange shaSumsWrong)

/-- 'citadellaw03.ShaChains': WHATEVER THE INPUT: true; the input reads as it did. -/
def shaChainsSpec : ChangeSpec := { name := "shaChains", fn := fun _ => fun
  | [d] => { results := [.lit (.bool true)], args := [d] }
  | _ => none }
def shaChainsRow : OpenClaim := { program := "ytiemafgnpmoblaa", sum := "c4d0e978ad69d7da0d9cbcd4b540f278f55044d6d0c96a5b92bce0f706314e68", func := "citadel/citadellaw03.ShaChains", spec := "shaChains", inPlace := ["internal/bytealg.MakeNoZero"], unfollowed := true, recurses := true, apart := false }
def ShaChainsSaid : Prop := shaChainsRow.holds Try.pinned (OpenSpec.ofChange shaChainsSpec)

/-- ITS FALSE NEIGHBOUR: 'it returns false'. Refute it at one input. -/
def shaChainsWrong : ChangeSpec := { name := "shaChains", fn := fun _ => fun
  | [d] => { results := [.lit (.bool false)], args := [d] }
  | _ => none }
def ShaChainsWrongFalsely : Prop := shaChainsRow.holds Try.pinned (OpenSpec.ofChange shaChainsWrong)

/-- 'citadellaw03.ShaChained': WHATEVER THE INPUT: true; the input reads as it did. -/
def shaChainedSpec : ChangeSpec := { name := "shaChained", fn := fun _ => fun
  | [d1, d2] => { results := [.lit (.bool true)], args := [d1, d2] }
  | _ => none }
def shaChainedRow : OpenClaim := { program := "ytiemafgnpmoblaa", sum := "c4d0e978ad69d7da0d9cbcd4b540f278f55044d6d0c96a5b92bce0f706314e68", func := "citadel/citadellaw03.ShaChained", spec := "shaChained", inPlace := ["internal/bytealg.MakeNoZero"], unfollowed := true, recurses := true, apart := false }
def ShaChainedSaid : Prop := shaChainedRow.holds Try.pinned (OpenSpec.ofChange shaChainedSpec)

/-- ITS FALSE NEIGHBOUR: 'it returns false'. Refute it at one input. -/
def shaChainedWrong : ChangeSpec := { name := "shaChained", fn := fun _ => fun
  | [d1, d2] => { results := [.lit (.bool false)], args := [d1, d2] }
  | _ => none }
def ShaChainedWrongFalsely : Prop := shaChainedRow.holds Try.pinned (OpenSpec.ofChange shaChainedWrong)

/-- 'citadellaw03.ShaTails': WHATEVER THE INPUT: true; the input reads as it did. -/
def shaTailsSpec : ChangeSpec := { name := "shaTails", fn := fun _ => fun
  | [d1, d2] => { results := [.lit (.bool true)], args := [d1, d2] }
  | _ => none }
def shaTailsRow : OpenClaim := { program := "ytiemafgnpmoblaa", sum := "c4d0e978ad69d7da0d9cbcd4b540f278f55044d6d0c96a5b92bce0f706314e68", func := "citadel/citadellaw03.ShaTails", spec := "shaTails", inPlace := ["internal/bytealg.MakeNoZero", "internal/bytealg.abigen_runtime_cmpstring"], unfollowed := true, recurses := true, apart := false }
def ShaTailsSaid : Prop := shaTailsRow.holds Try.pinned (OpenSpec.ofChange shaTailsSpec)

/-- ITS FALSE NEIGHBOUR: 'it returns false'. Refute it at one input. -/
def shaTailsWrong : ChangeSpec := { name := "shaTails", fn := fun _ => fun
  | [d1, d2] => { results := [.lit (.bool false)], args := [d1, d2] }
  | _ => none }
def ShaTailsWrongFalsely : Prop := shaTailsRow.holds Try.pinned (OpenSpec.ofChange shaTailsWrong)

/-- 'citadellaw04.HmacTags': WHATEVER THE INPUT: true; the input reads as it did. -/
def hmacTagsSpec : ChangeSpec := { name := "hmacTags", fn := fun _ => fun
  | [d1, d2] => { results := [.lit (.bool true)], args := [d1, d2] }
  | _ => none }
def hmacTagsRow : OpenClaim := { program := "ytiemafgnpmoblaa", sum := "c4d0e978ad69d7da0d9cbcd4b540f278f55044d6d0c96a5b92bce0f706314e68", func := "citadel/citadellaw04.HmacTags", spec := "hmacTags", inPlace := ["internal/bytealg.MakeNoZero"], unfollowed := true, recurses := true, apart := false }
def HmacTagsSaid : Prop := hmacTagsRow.holds Try.pinned (OpenSpec.ofChange hmacTagsSpec)

/-- ITS FALSE NEIGHBOUR: 'it returns false'. Refute it at one input. -/
def hmacTagsWrong : ChangeSpec := { name := "hmacTags", fn := fun _ => fun
  | [d1, d2] => { results := [.lit (.bool false)], args := [d1, d2] }
  | _ => none }
def HmacTagsWrongFalsely : Prop := hmacTagsRow.holds Try.pinned (OpenSpec.ofChange hmacTagsWrong)

/-- 'citadellaw04.HmacPurposes': WHATEVER THE INPUT: true; the input reads as it did. -/
def hmacPurposesSpec : ChangeSpec := { name := "hmacPurposes", fn := fun _ => fun
  | [d1, d2, d3] => { results := [.lit (.bool true)], args := [d1, d2, d3] }
  | _ => none }
def hmacPurposesRow : OpenClaim := { program := "ytiemafgnpmoblaa", sum := "c4d0e978ad69d7da0d9cbcd4b540f278f55044d6d0c96a5b92bce0f706314e68", func := "citadel/citadellaw04.HmacPurposes", spec := "hmacPurposes", inPlace := ["internal/bytealg.MakeNoZero"], unfollowed := true, recurses := true, apart := false }
def HmacPurposesSaid : Prop := hmacPurposesRow.holds Try.pinned (OpenSpec.ofChange hmacPurposesSpec)

/-- ITS FALSE NEIGHBOUR: 'it returns false'. Refute it at one input. -/
def hmacPurposesWrong : ChangeSpec := { name := "hmacPurposes", fn := fun _ => fun
  | [d1, d2, d3] => { results := [.lit (.bool false)], args := [d1, d2, d3] }
  | _ => none }
def HmacPurposesWrongFalsely : Prop := hmacPurposesRow.holds Try.pinned (OpenSpec.ofChange hmacPurposesWrong)

/-- 'citadellaw04.HmacOpens': WHATEVER THE INPUT: true; the input reads as it did. -/
def hmacOpensSpec : ChangeSpec := { name := "hmacOpens", fn := fun _ => fun
  | [d1, d2, d3, d4, d5] => { results := [.lit (.bool true)], args := [d1, d2, d3, d4, d5] }
  | _ => none }
def hmacOpensRow : OpenClaim := { program := "ytiemafgnpmoblaa", sum := "c4d0e978ad69d7da0d9cbcd4b540f278f55044d6d0c96a5b92bce0f706314e68", func := "citadel/citadellaw04.HmacOpens", spec := "hmacOpens", inPlace := ["internal/bytealg.MakeNoZero"], unfollowed := true, recurses := true, apart := false }
def HmacOpensSaid : Prop := hmacOpensRow.holds Try.pinned (OpenSpec.ofChange hmacOpensSpec)

/-- ITS FALSE NEIGHBOUR: 'it returns false'. Refute it at one input. -/
def hmacOpensWrong : ChangeSpec := { name := "hmacOpens", fn := fun _ => fun
  | [d1, d2, d3, d4, d5] => { results := [.lit (.bool false)], args := [d1, d2, d3, d4, d5] }
  | _ => none }
def HmacOpensWrongFalsely : Prop := hmacOpensRow.holds Try.pinned (OpenSpec.ofChange hmacOpensWrong)

/-- 'citadellaw04.HmacTwo': WHATEVER THE INPUT: true; the input reads as it did. -/
def hmacTwoSpec : ChangeSpec := { name := "hmacTwo", fn := fun _ => fun
  | [d1, d2, d3] => { results := [.lit (.bool true)], args := [d1, d2, d3] }
  | _ => none }
def hmacTwoRow : OpenClaim := { program := "ytiemafgnpmoblaa", sum := "c4d0e978ad69d7da0d9cbcd4b540f278f55044d6d0c96a5b92bce0f706314e68", func := "citadel/citadellaw04.HmacTwo", spec := "hmacTwo", inPlace := ["internal/bytealg.MakeNoZero"], unfollowed := true, recurses := true, apart := false }
def HmacTwoSaid : Prop := hmacTwoRow.holds Try.pinned (OpenSpec.ofChange hmacTwoSpec)

/-- ITS FALSE NEIGHBOUR: 'it returns false'. Refute it at one input. -/
def hmacTwoWrong : ChangeSpec := { name := "hmacTwo", fn := fun _ => fun
  | [d1, d2, d3] => { results := [.lit (.bool false)], args := [d1, d2, d3] }
  | _ => none }
def HmacTwoWrongFalsely : Prop := hmacTwoRow.holds Try.pinned (OpenSpec.ofChange hmacTwoWrong)

/- THE SECOND FORM. 'bulk': how many values and letters a reading holds, each counted each time it is reached (what is shared counts as often as it is met; a slice's spare places count too). A statement '..UptoSaid' is the law's where the arguments, and the package variables that the reading takes, are together of bulk at most 1048576: NARROWER than '..Said'. Prove '..Said' where nothing that the law and all that it calls make is longer than what came in: it says more and counts as full. Else prove '..UptoSaid'. A law counts once. -/
mutual
def uptoBulk {H : Type} : DataW H → Nat
  | .lit (.string bytes) => bytes.length + 1
  | .lit _ => 1
  | .nil => 1
  | .ptr d => uptoBulk d + 1
  | .slice elems spare => uptoBulkAll elems + uptoBulkAll spare + 1
  | .agg parts => uptoBulkAll parts + 1
  | .iface _ d => uptoBulk d + 1
  | .map entries => uptoBulkEntries entries + 1
  | .held _ => 1
def uptoBulkAll {H : Type} : List (DataW H) → Nat
  | [] => 0
  | d :: r => uptoBulk d + uptoBulkAll r
def uptoBulkEntries {H : Type} : List (Lit × DataW H) → Nat
  | [] => 0
  | x :: r => uptoBulkEntry x + uptoBulkEntries r
def uptoBulkEntry {H : Type} : Lit × DataW H → Nat
  | (.string bytes, d) => bytes.length + uptoBulk d + 1
  | (_, d) => uptoBulk d + 1
 end
def uptoSmall : (H : Type) → List (DataW H) → Bool := fun _ ds => decide (uptoBulkAll ds ≤ 1048576)
def OpenSpec.upto (s : _root_.Go.ChangeSpec) : _root_.Go.OpenSpec := { _root_.Go.OpenSpec.ofChange s with cond := some uptoSmall }

/-- 'citadellaw03.ShaEats', WHERE WHAT IT READS IS OF BULK AT MOST 1048576: true; the input reads as it did. -/
def shaEatsUptoRow : OpenClaim := { program := "ytiemafgnpmoblaa", sum := "c4d0e978ad69d7da0d9cbcd4b540f278f55044d6d0c96a5b92bce0f706314e68", func := "citadel/citadellaw03.ShaEats", spec := "shaEats", unfollowed := true, recurses := true, apart := false, narrowed := true }
def ShaEatsUptoSaid : Prop := shaEatsUptoRow.holds Try.pinned (OpenSpec.upto shaEatsSpec)

/-- 'citadellaw03.ShaSums', WHERE WHAT IT READS IS OF BULK AT MOST 1048576: true; the input reads as it did. -/
def shaSumsUptoRow : OpenClaim := { program := "ytiemafgnpmoblaa", sum := "c4d0e978ad69d7da0d9cbcd4b540f278f55044d6d0c96a5b92bce0f706314e68", func := "citadel/citadellaw03.ShaSums", spec := "shaSums", inPlace := ["internal/bytealg.MakeNoZero"], unfollowed := true, recurses := true, apart := false, narrowed := true }
def ShaSumsUptoSaid : Prop := shaSumsUptoRow.holds Try.pinned (OpenSpec.upto shaSumsSpec)

/-- 'citadellaw03.ShaChains', WHERE WHAT IT READS IS OF BULK AT MOST 1048576: true; the input reads as it did. -/
def shaChainsUptoRow : OpenClaim := { program := "ytiemafgnpmoblaa", sum := "c4d0e978ad69d7da0d9cbcd4b540f278f55044d6d0c96a5b92bce0f706314e68", func := "citadel/citadellaw03.ShaChains", spec := "shaChains", inPlace := ["internal/bytealg.MakeNoZero"], unfollowed := true, recurses := true, apart := false, narrowed := true }
def ShaChainsUptoSaid : Prop := shaChainsUptoRow.holds Try.pinned (OpenSpec.upto shaChainsSpec)

/-- 'citadellaw03.ShaChained', WHERE WHAT IT READS IS OF BULK AT MOST 1048576: true; the input reads as it did. -/
def shaChainedUptoRow : OpenClaim := { program := "ytiemafgnpmoblaa", sum := "c4d0e978ad69d7da0d9cbcd4b540f278f55044d6d0c96a5b92bce0f706314e68", func := "citadel/citadellaw03.ShaChained", spec := "shaChained", inPlace := ["internal/bytealg.MakeNoZero"], unfollowed := true, recurses := true, apart := false, narrowed := true }
def ShaChainedUptoSaid : Prop := shaChainedUptoRow.holds Try.pinned (OpenSpec.upto shaChainedSpec)

/-- 'citadellaw03.ShaTails', WHERE WHAT IT READS IS OF BULK AT MOST 1048576: true; the input reads as it did. -/
def shaTailsUptoRow : OpenClaim := { program := "ytiemafgnpmoblaa", sum := "c4d0e978ad69d7da0d9cbcd4b540f278f55044d6d0c96a5b92bce0f706314e68", func := "citadel/citadellaw03.ShaTails", spec := "shaTails", inPlace := ["internal/bytealg.MakeNoZero", "internal/bytealg.abigen_runtime_cmpstring"], unfollowed := true, recurses := true, apart := false, narrowed := true }
def ShaTailsUptoSaid : Prop := shaTailsUptoRow.holds Try.pinned (OpenSpec.upto shaTailsSpec)

/-- 'citadellaw04.HmacTags', WHERE WHAT IT READS IS OF BULK AT MOST 1048576: true; the input reads as it did. -/
def hmacTagsUptoRow : OpenClaim := { program := "ytiemafgnpmoblaa", sum := "c4d0e978ad69d7da0d9cbcd4b540f278f55044d6d0c96a5b92bce0f706314e68", func := "citadel/citadellaw04.HmacTags", spec := "hmacTags", inPlace := ["internal/bytealg.MakeNoZero"], unfollowed := true, recurses := true, apart := false, narrowed := true }
def HmacTagsUptoSaid : Prop := hmacTagsUptoRow.holds Try.pinned (OpenSpec.upto hmacTagsSpec)

/-- 'citadellaw04.HmacPurposes', WHERE WHAT IT READS IS OF BULK AT MOST 1048576: true; the input reads as it did. -/
def hmacPurposesUptoRow : OpenClaim := { program := "ytiemafgnpmoblaa", sum := "c4d0e978ad69d7da0d9cbcd4b540f278f55044d6d0c96a5b92bce0f706314e68", func := "citadel/citadellaw04.HmacPurposes", spec := "hmacPurposes", inPlace := ["internal/bytealg.MakeNoZero"], unfollowed := true, recurses := true, apart := false, narrowed := true }
def HmacPurposesUptoSaid : Prop := hmacPurposesUptoRow.holds Try.pinned (OpenSpec.upto hmacPurposesSpec)

/-- 'citadellaw04.HmacOpens', WHERE WHAT IT READS IS OF BULK AT MOST 1048576: true; the input reads as it did. -/
def hmacOpensUptoRow : OpenClaim := { program := "ytiemafgnpmoblaa", sum := "c4d0e978ad69d7da0d9cbcd4b540f278f55044d6d0c96a5b92bce0f706314e68", func := "citadel/citadellaw04.HmacOpens", spec := "hmacOpens", inPlace := ["internal/bytealg.MakeNoZero"], unfollowed := true, recurses := true, apart := false, narrowed := true }
def HmacOpensUptoSaid : Prop := hmacOpensUptoRow.holds Try.pinned (OpenSpec.upto hmacOpensSpec)

/-- 'citadellaw04.HmacTwo', WHERE WHAT IT READS IS OF BULK AT MOST 1048576: true; the input reads as it did. -/
def hmacTwoUptoRow : OpenClaim := { program := "ytiemafgnpmoblaa", sum := "c4d0e978ad69d7da0d9cbcd4b540f278f55044d6d0c96a5b92bce0f706314e68", func := "citadel/citadellaw04.HmacTwo", spec := "hmacTwo", inPlace := ["internal/bytealg.MakeNoZero"], unfollowed := true, recurses := true, apart := false, narrowed := true }
def HmacTwoUptoSaid : Prop := hmacTwoUptoRow.holds Try.pinned (OpenSpec.upto hmacTwoSpec)

end Rows
end Go.Proofs.Ytiemafgnpmoblaa
