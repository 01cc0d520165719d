/- Texts of the proof, one behind the other: Eq, Law11, Same11, Boxes. No condition but those that each names. -/
import Derived.Test.YtlholdllibghbaaGreatG00
import Derived.DeepKeys
import Derived.Laws.StructEq
import Derived.Test.YtlholdllibghbaaGreatG11
import Derived.Laws.IdiomStrings
import Derived.Lib.Bytealg
import Derived.Test.YtlholdllibghbaaGreatG10
import Derived.Test.YtlholdllibghbaaGreatG06
import Derived.Test.YtlholdllibghbaaGreatKit
set_option maxRecDepth 100000
set_option maxHeartbeats 8000000
namespace Go.Cit
open Go Go.RowKit
theorem mapM_some {α β:Type} {f:α→Option β} {g:α→β}:∀l:List α,(∀i∈l,f i=some (g i))→l.mapM f=some (l.map g)
 | [],_=>rfl
 |
  i::l,h=>by
  rw[List.mapM_cons,h i AO,mapM_some l (fun j hj=>h j (by simp[hj]))]
  rfl
section
variable {P:Program} {T E:TypeId} {n:Nat} {k:IntKind}
structure lU (P:Program) (T E:TypeId) (n:Nat) (k:IntKind):Prop where
 arr:P.underlying T=some (.array n E)
 int:P.underlying E=some (.int k)
 cells:P.cellsOf T=n
 one:P.cellsOf E=1
 key:P.keyTypeAt 2 T=true
 guard:P.eqGuardType P.depth T=false
theorem lY (h:lU P T E n k) (zs:List Int) (hl:zs.length=n) (hw:∀z∈zs,(Lit.int k z).wf=true):P.keyLits 2 T (zs.map (Value.int k))=some (zs.map (Lit.int k)):=by
 unfold Program.keyLits
 simp only[h.arr]
 rw[if_pos (by rw[List.length_map,h.cells,hl])]
 have e:(List.range n).mapM (fun i=>P.keyLits 1 E (((zs.map (Value.int k)).drop (i*P.cellsOf E)).take (P.cellsOf E)))=some ((List.range n).map fun i=> [Lit.int k (zs.getD i 0)]):=by
  refine mapM_some _ fun i hi=> ?_
  have hi':i<zs.length:=by rw[hl];exact List.mem_range.1 hi
  rw[h.one,Nat.mul_one,List.drop_eq_getElem_cons (by simpa using hi'),List.take_succ_cons,List.take_zero]
  unfold Program.keyLits
  simp only[h.int]
  rw[List.getElem_map]
  simp only[hw _ (List.getElem_mem hi'),and_self,if_true]
  simp[hi']
 rw[e]
 simp only[Option.map_some,Option.some.injEq]
 have hfl:∀l:List Nat,(l.map fun i=> [Lit.int k (zs.getD i 0)]).flatten=l.map fun i=>Lit.int k (zs.getD i 0):=by
  intro l
  induction l with
  | nil=>rfl
  | cons a l ih=>rw[List.map_cons,List.flatten_cons,ih];rfl
 rw[hfl]
 apply List.ext_getElem
 ·simp[hl]
 ·intro i h1 h2
  have hi:i<zs.length:=by simpa using h2
  simp[hi]
theorem wL (h:lU P T E n k) (zs ys:List Int) (hl:zs.length=n) (hm:ys.length=n) (hw:∀z∈zs,(Lit.int k z).wf=true) (hv:∀z∈ys,(Lit.int k z).wf=true) (w:World):
 (Op.equalIn 10000 T (.agg (zs.map (Value.int k)).toArray) (.agg (ys.map (Value.int k)).toArray)).run P w= .ok (decide (zs=ys)) w:=by
 have hf:∀l:List Int,l.length=n→(Value.agg (l.map (Value.int k)).toArray).formed P T=true:=by
  intro l hl
  simp[Value.formed,h.arr,h.cells,hl]
 obtain⟨r,hr,hiff⟩:=run_equalIn_deep (P:=P) 9998 2 T h.key w 2 2 _ _ _ _ (hf zs hl) (hf ys hm) (by simpa[Value.cells] using lY h zs hl hw) (by simpa[Value.cells] using lY h ys hm hv)
 have hinj:(zs.map (Lit.int k)=ys.map (Lit.int k))↔zs=ys:=by
  constructor
  ·intro e
   exact(List.map_inj_right (by intro a b hab;injection hab)).1 e
  ·rintro rfl;rfl
 rw[hinj] at hiff
 rw[hr]
 congr 1
 rw[Bool.eq_iff_iff,decide_eq_true_iff];exact hiff
end
section
variable {P:Program} {T E:TypeId} {n:Nat}
theorem um (h:lU P T E n .u32) (l m:List UInt32) (hl:l.length=n) (hm:m.length=n) (w:World):
 (Op.equalIn 10000 T (.agg (l.map vw).toArray) (.agg (m.map vw).toArray)).run P w= .ok (decide (l=m)) w:=by
 have wf:∀l:List UInt32,∀z∈l.map (fun x=>(x.toNat:Int)),(Lit.int .u32 z).wf=true:=by
  intro l z hz
  obtain⟨x,_,rfl⟩:=List.mem_map.1 hz
  have:=oH x
  simp[Lit.wf,IntKind.min,IntKind.max,IntKind.bits,IntKind.signed];omega
 have:=wL h (l.map fun x=>(x.toNat:Int)) (m.map fun x=>(x.toNat:Int)) (by simpa using hl) (by simpa using hm) (wf l) (wf m) w
 rw[List.map_map,List.map_map] at this
 refine this.trans ?_
 congr 1
 rw[Bool.eq_iff_iff,decide_eq_true_iff,decide_eq_true_iff]
 exact List.map_inj_right (by intro a b hab;exact UInt32.toNat_inj.1 AL)
end
end Go.Cit
namespace Go.Proofs.YtlholdllibghbaaGreat
open Go Go.RowKit Go.Cit
theorem zN {w:World} {a:Option Addr} {l:List UInt8} {cap:Nat} (h:Row w a l cap):(convert 40 9 (.slice a l.length cap)).run Tryz.prog w= .ok (.string ⟨l.toArray⟩) w:=by
 have he:Tryz.prog.underlying 5=some (.int .u8):=Tryz.underlying5
 rcases Nat.eq_zero_or_pos l.length with h0 |h0
 ·obtain rfl:l=[]:=List.eq_nil_of_length_eq_zero h0
  cases a with
  |
   none=>
   rw[run_convert_bytes_string w _ _ 5 none _ cap uN.slice he Tryz.underlying9]
   simp[Conv.bytesToString,Sem.run_pure];rfl
  |
   some x=>
   exact run_convert_bytes_back w _ _ 5 x cap [] uN.slice he Tryz.underlying9 (fun j hj=>by simp at hj)
 ·obtain⟨b,o,rfl⟩:=h.spot (by intro h1;simp[h1] at h0)
  refine run_convert_bytes_back w _ _ 5 ⟨b,o,none⟩ cap l uN.slice he Tryz.underlying9 (fun j hj=> ?_)
  have ea:(⟨b,o,none⟩:Addr).add j=ad (some ⟨b,o,none⟩) j:=by unfold Addr.add ad;split<;>simp_all
  rw[ea];exact h.cell j hj
theorem zK (a b c d e a' b' c' d' e':Int) (w:World):(Op.equalIn 10000 48 (.agg #[.int .i64 a, .int .i64 b, .int .i64 c, .int .i64 d, .int .i64 e]) (.agg #[.int .i64 a', .int .i64 b', .int .i64 c', .int .i64 d', .int .i64 e'])).run Tryz.prog w= .ok (decide (a=a'∧b=b'∧c=c'∧d=d'∧e=e')) w:=by
 have hS:Tryz.prog.underlying 48=some (.struct (Tryz.prog.fieldsOf 48)):=by kernel_rfl
 have hp:Tryz.prog.stoodInHeld 48=false:=by kernel_rfl
 rw[show(10000:Nat)=9999+1 from rfl,run_equalIn_agg w 9999 _ _ _ hS hp]
 simp only[Program.fieldsOf,Tryz.underlying48]
 go_simp
 by_cases h1:a=a'<;>by_cases h2:b=b'<;>by_cases h3:c=c'<;>by_cases h4:d=d'<;>by_cases h5:e=e'<;>simp[h1,h2,h3,h4,h5]
def tK (ps:List fV):Nat:=(ps.map fun x=>x.img.length).sum
theorem Bh (ps:List fV) (k:Nat) (h:k<ps.length):tK (ps.take (k+1))=tK (ps.take k)+ps[k].img.length:=by
 rw[tK,tK,List.take_succ_eq_append_getElem h,List.map_append,List.sum_append];simp
theorem En (ps:List fV):∀x∈ps,x.img.length≤tK ps:=by
 induction ps with
 | nil=>intro x hx;simp at hx
 |
  cons y ps ih=>
  intro x hx
  simp only[tK,List.map_cons,List.sum_cons] at ih ⊢
  rcases List.mem_cons.1 hx with rfl |h
  ·omega
  ·have:=ih x h;omega
def kV (V:aZ):Bool:=decide (40<V.ws.length∨20<V.ps.length∨40<V.cs.length) || decide (8000<tK V.ps)
theorem D7 {V:aZ} (h:kV V=false):fA V:=by
 unfold kV at h
 rw[Bool.or_eq_false_iff,decide_eq_false_iff_not,decide_eq_false_iff_not] at h
 refine⟨by omega,by omega,by omega,fun x hx=> ?_⟩
 have:=En V.ps x hx
 omega
theorem tH (w:World) (V:aZ) (h:V.At w) (hb:∀x∈V.ps,x.img.length≤140737488351232):Calls Tryz.prog 8 #[.agg #[.slice V.wa V.ws.length V.wc, .slice V.pa V.ps.length V.pc, .slice V.ca V.cs.length V.cc]] w fun e w'=>e= .returned (.bool (kV V))∧Below w.heap.size w w':=by
 obtain⟨R,HR⟩:=AU (kV V)
 rw[←HR.o]
 obtain⟨w0,hw0⟩:=AV (w.alloc (.cells #[.slice V.wa V.ws.length V.wc, .slice V.pa V.ps.length V.pc, .slice V.ca V.cs.length V.cc] 26))
 have B0:Below w.heap.size w w0:=by rw[hw0];exact(Below.refl _ w).alloc (Nat.le_refl _) _
 have hI:iU w0 w.heap.size V:=by rw[hw0];exact fK w V _
 have hl1:=h.win.aI
 have hl2:=h.pts.aI
 have hl3:=h.BU.aI
 have HV:=AQ (h.stay B0)
 obtain⟨c0,c1,c2⟩:=hI
 have HB0:=AQ B0
 have HBG:=AQ hb
 clear h B0 hb
 by_cases hg:40<V.ws.length∨20<V.ps.length∨40<V.cs.length
 ·have HF:Hid (R=true):=by rw[Hid,HR.o,kV,decide_eq_true hg];rfl
  have HG:=AQ hg
  clear hg
  go_enter Tryz.func8,Tryz.ntmps8
  go_wp2_with fail
  all_goals first
   | (rw[←hw0];go_ret;exact⟨au HF.o.symm,HB0.o⟩)
   | (exfalso;have:=HG.o;omega)
 ·have HF:Hid (R=decide (8000<tK V.ps)):=by rw[Hid,HR.o,kV,decide_eq_false hg];rfl
  have h1:V.ws.length≤40:=by omega
  have h2:V.ps.length≤20:=by omega
  have h3:V.cs.length≤40:=by omega
  clear hg
  go_enter Tryz.func8,Tryz.ntmps8
  go_wp2_with fail
  rw[←hw0]
  clear hw0
  go_wp2_with fail
  go_loopw [3,4] (fun n i wr=>∃(k m:Nat),Hid (m=tK (V.ps.take k))∧k≤V.ps.length∧m≤140737488351232*k∧n= .int .i64 m∧i= .int .i64 k∧Below w0.heap.size w0 wr) (fun _ i _=>V.ps.length-(intOf i).toNat)
  case atStart=>exact⟨0,0,rfl,Nat.zero_le _,by omega,rfl,rfl,Below.refl _ _⟩
  case round=>
   obtain⟨k,m,hm,hk,hmb,rfl,rfl,B⟩:=hrel
   have c0:=keep B c0
   have c1:=keep B c1
   have c2:=keep B c2
   by_cases hlt:k<V.ps.length
   ·have i0:=HV.o.pts.index Eh k hlt
    obtain⟨u0,u1,u2,u3,u4⟩:=eU HV.o.pts B k hlt
    have HT:=AQ (Bh V.ps k hlt)
    have hb1:=HBG.o V.ps[k] (List.getElem_mem hlt)
    have hb2:140737488351232*k≤140737488351232*20:=by omega
    go_wp2_with fail
    go_roundw
    case rel=>exact⟨k+1,m+V.ps[k].img.length,by rw[Hid,HT.o,hm.o],by omega,by omega,by go_num,by go_num,B⟩
    case measure=>simp[intOf];omega
   ·have hk2:k=V.ps.length:=by omega
    have HE:Hid (R=decide (8000<m)):=by rw[Hid,HF.o,hm.o,hk2,List.take_length]
    clear hk2
    go_wp2_with fail
    go_ret
    exact⟨au (by rw[HE.o];exact decide_eq_decide.2 AL),HB0.o.trans (B.mono HB0.o.size)⟩
open Go Go.RowKit Go.Cit
theorem rV (x y:Ch):x=y↔x.id.1=y.id.1∧x.src.1=y.src.1∧x.dst.1=y.dst.1∧x.cap.1=y.cap.1∧x.size.1=y.size.1:=by
 obtain⟨a,b,c,d,e⟩:=x;obtain⟨a',b',c',d',e'⟩:=y
 simp only[Ch.mk.injEq,Subtype.ext_iff]
end Go.Proofs.YtlholdllibghbaaGreat
namespace Go.Cit
open Go Go.RowKit
section
variable {P:Program} {ops:Array Oper} {Q:Exit→Act→World→Prop}
theorem bJ.imp {p q:Nat→Oper→Prop} (h:∀n o,True→p n o→q n o):∀(os:List Oper) (n:Nat),bJ p os n→bJ q os n
 | [],_,_=>trivial
 | _::os,n,hs=>⟨h n _ trivial hs.1,bJ.imp h os (n+1) hs.2⟩
end
end Go.Cit
