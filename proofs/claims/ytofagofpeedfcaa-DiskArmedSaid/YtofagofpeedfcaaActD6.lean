/- Chapter 6's law: what an act does to a disk. -/
import Derived.Test.YtofagofpeedfcaaAct6
import Derived.Test.YtofagofpeedfcaaSec6
namespace Go.Proofs.Ytofagofpeedfcaa
open Go Go.RowKit Go.Cit

/-- What an act does. -/
def actD (D : Dk) (x : Ac) : Dk :=
  if x.kind = 0 ∨ x.kind = 1 ∨ x.kind = 2 then writeT D x.n (secL x.l) else if x.kind = 3 ∨ x.kind = 4 then flushT D else if x.kind = 5 then crashT x.l D
  else if x.kind = 6 then armD D x.n x.l else if x.kind = 7 ∨ x.kind = 8 then startD D else D
theorem secL_len {l : List UInt8} (h : l.length ≤ 6000) : (secL l).length ≤ 6000 := by
  unfold secL
  split
  · rw [List.length_replicate]; decide
  · exact h
end Go.Proofs.Ytofagofpeedfcaa
