/- What citadelref13.Check answers. -/
import Derived.Test.YtpnbaapjjchlbaaGk
namespace Go.Proofs.Ytpnbaapjjchlbaa
open Go Go.RowKit Go.Cit

def oddR (V W : CfgV) (j : Nat) : Bool := bothK V.ps W.ps (j + 1 : Nat) && !sameK V.ps W.ps (j + 1 : Nat)
def rcheckK (V W : CfgV) : Int := if mayK V W then (if (List.range 6).any (oddR V W) then 130 else 0) else 2
theorem range_any (p : Nat → Bool) (j : Nat) : (List.range (j + 1)).any p = ((List.range j).any p || p j) := by
  rw [List.range_succ, List.any_append]; simp
end Go.Proofs.Ytpnbaapjjchlbaa
