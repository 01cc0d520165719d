/- Chapter 14's examples, plain: what is to come of them, by the kernel. No condition. -/
import Derived.Test.YtlholdllibghbaaGreatManLaw
import Derived.Test.YtlholdllibghbaaGreatKit
namespace Go.Proofs.YtlholdllibghbaaGreat
open Go Go.RowKit Go.Cit
def j9:I64:=⟨9,by decide⟩
def OO:zk:=⟨[⟨j2,j2⟩],[⟨j1,⟨j0,j16⟩,false,[]⟩],[]⟩
def Bz:mO:= {jA with ver:=j2,prev:=pq jA}
def Rq:mO:= {Bz with prev:=aP}
def Ry:mO:= {Bz with ver:=j1}
def QU:mO:= {Bz with cfg:=OO}
def QL:mO:= {jA with ver:=j0}
def Rj:mO:= {jA with trial:=j9}
set_option maxRecDepth 100000
theorem KQ:nH keyS jA=true:=by decide+kernel
theorem TK:jD keyS jA (mD (jY keyS Bz))=0:=by decide+kernel
theorem TB:jD keyS jA (mD Bz)=141:=by decide+kernel
theorem Tq:jD keyS jA (mD (jY keyS Rq))=142:=by decide+kernel
theorem Tm:jD keyS jA (mD (jY keyS Ry))=143:=by decide+kernel
theorem SH:jD keyS jA (mD (jY keyS QU))=90:=by decide+kernel
theorem RQ:jD keyS jA []=140:=by decide+kernel
theorem Td:Am QL=false:=by decide+kernel
theorem RU:Am Rj=false:=by decide+kernel
end Go.Proofs.YtlholdllibghbaaGreat
