/- A manifest that came in; a guarded load. No condition. -/
import Derived.Test.YtlholdllibghbaaGreatMan
import Derived.Test.YtlholdllibghbaaGreatG22
import Derived.Test.YtlholdllibghbaaGreatKit
namespace Go.Proofs.YtlholdllibghbaaGreat
open Go Go.RowKit Go.Cit
theorem BM {w:World} {d:sJ.D} (h:sJ.ok w d):∀x∈(ET d).cfg.ps,x.img.length≤140737488351232:=MR h.2.2.2.1
end Go.Proofs.YtlholdllibghbaaGreat
