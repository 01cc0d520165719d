/- Chapter 14's examples, plain: what is to come of them, by the kernel. No condition. -/
import Derived.Test.YtlholdllibghbaaGreatManLaw
import Derived.Test.YtlholdllibghbaaGreatKit
namespace Go.Proofs.YtlholdllibghbaaGreat
open Go Go.RowKit Go.Cit
def j9:I64:=⟨9,by decide⟩
def NH:Bq:=⟨[⟨j2,j2⟩],[⟨j1,⟨j0,j16⟩,false,[]⟩],[]⟩
def BX:oZ:= {jy with ver:=j2,prev:=pK jy}
def Rl:oZ:= {BX with prev:=aH}
def RH:oZ:= {BX with ver:=j1}
def Sv:oZ:= {BX with cfg:=NH}
def Sm:oZ:= {jy with ver:=j0}
def Ro:oZ:= {jy with trial:=j9}
set_option maxRecDepth 100000
theorem Lj:wF keyS jy=true:=by decide+kernel
theorem Tf:jB keyS jy (l9 (oG keyS BX))=0:=by decide+kernel
theorem SK:jB keyS jy (l9 BX)=141:=by decide+kernel
theorem Tz:jB keyS jy (l9 (oG keyS Rl))=142:=by decide+kernel
theorem SN:jB keyS jy (l9 (oG keyS RH))=143:=by decide+kernel
theorem TD:jB keyS jy (l9 (oG keyS Sv))=90:=by decide+kernel
theorem TJ:jB keyS jy []=140:=by decide+kernel
theorem Tm:yU Sm=false:=by decide+kernel
theorem TW:yU Ro=false:=by decide+kernel
end Go.Proofs.YtlholdllibghbaaGreat
