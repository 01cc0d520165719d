/- A manifest that came in; a guarded load. No condition. -/
import Derived.Test.YtlholdllibghbaaGreatMan
import Derived.Test.YtlholdllibghbaaGreatG22
import Derived.Test.YtlholdllibghbaaGreatKit
namespace Go.Proofs.YtlholdllibghbaaGreat
open Go Go.RowKit Go.Cit
theorem oU {P:Program} {w:World} {o:Oper} {ρ:Operand→Value} {T:TypeId} {x:Operand} {p v:Value} (h:o.op= .load T x) (hx:ρ x=p) (hr:(Instr.loadAt T p).run P w= .ok v w):(execOp ρ o).run P w= .ok (.value v) w:=by
 unfold execOp;rw[h];dsimp only;rw[hx,Sem.run_bind,hr];rfl
theorem Nb {w:World} {d:vP.D} (h:vP.ok w d):∀x∈(J8 d).cfg.ps,x.img.length≤140737488351232:=L9 h.2.2.2.1
end Go.Proofs.YtlholdllibghbaaGreat
