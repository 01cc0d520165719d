/- Chapter 14's examples, plain: what is to come of them, by the kernel. No condition. -/
import Derived.Test.YtlholdllibghbaaGreatManLaw
import Derived.Test.YtlholdllibghbaaGreatKit
namespace Go.Proofs.YtlholdllibghbaaGreat
open Go Go.RowKit Go.Cit
def j9:I64:=⟨9,by decide⟩
def Qr:CV:=⟨[⟨j2,j2⟩],[⟨j1,⟨j0,j16⟩,false,[]⟩],[]⟩
def Es:rU:= {jZ with ver:=j2,prev:=rE jZ}
def Un:rU:= {Es with prev:=aK}
def Uw:rU:= {Es with ver:=j1}
def Uh:rU:= {Es with cfg:=Qr}
def UQ:rU:= {jZ with ver:=j0}
def UC:rU:= {jZ with trial:=j9}
set_option maxRecDepth 100000
theorem O8:qp keyS jZ=true:=by decide+kernel
theorem VX:iP keyS jZ (oq (qH keyS Es))=0:=by decide+kernel
theorem Vg:iP keyS jZ (oq Es)=141:=by decide+kernel
theorem VW:iP keyS jZ (oq (qH keyS Un))=142:=by decide+kernel
theorem VT:iP keyS jZ (oq (qH keyS Uw))=143:=by decide+kernel
theorem Vh:iP keyS jZ (oq (qH keyS Uh))=90:=by decide+kernel
theorem Vp:iP keyS jZ []=140:=by decide+kernel
theorem Vu:D9 UQ=false:=by decide+kernel
theorem VB:D9 UC=false:=by decide+kernel
end Go.Proofs.YtlholdllibghbaaGreat
