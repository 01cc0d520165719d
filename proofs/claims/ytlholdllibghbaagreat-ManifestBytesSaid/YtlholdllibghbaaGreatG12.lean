/- Texts of the proof, one behind the other: Chain, Can, ChanGet, Pairs. No condition but those that each names. -/
import Derived.Test.YtlholdllibghbaaGreatG06
import Derived.Test.YtlholdllibghbaaGreatG11
import Derived.Test.YtlholdllibghbaaGreatG10
import Derived.Deep.CutBlock
import Derived.Deep.DeepCutAuto
import Derived.Test.YtlholdllibghbaaGreatG09
import Derived.RangeFuncNested
import Derived.RangeFuncBound
import Derived.RangeFuncCalls
import Derived.RangeFuncLeaves
import Derived.Shelf.Abstract
import Derived.Shelf.RegionOpen
import Derived.OwnWalkIn
import Derived.TacticsInMore
import Derived.LoopNIn
import Derived.LoopIn
import Derived.Test.YtlholdllibghbaaGreatKit
set_option maxRecDepth 100000
set_option maxHeartbeats 8000000
namespace Go.Cit
open Go Go.RowKit
section
variable {P:Program} {ops:Array Oper} {Q:Exit→Act→World→Prop}
def Rz (idx:List Nat) (St:Nat→World→Prop) (δ:Nat→Bool) (wx:World):Prop:=∃k,k≤idx.length∧(∀j i,idx[j]? =some i→(δ i=true↔j<k))∧St k wx
def QG (P:Program) (ops:Array Oper) (X:Nat→Value) (idx:List Nat) (St:Nat→World→Prop) (n:Nat) (o:Oper) (a:Act):Prop:=
 Wanted ops o a∧
 (
  (∃j,idx[j]? =some n∧∀wx,St j wx→bQ P (fun v w'=>St (j+1) w'∧Ih X o v) ((execOp a.eval o).run P wx))∨
  (n ∉ idx∧∀k wx,k≤idx.length→St k wx→bQ P (fun v w'=>w'=wx∧Ih X o v) ((execOp a.eval o).run P wx)))
def chainB (ops:Array Oper) (idx:List Nat):Bool:=(List.range idx.length).all fun j=>decide (idx.getD j 0<ops.size) && (decide (j=0) || iq ops ops.size (idx.getD j 0) (idx.getD (j-1) 0))
theorem kJ {idx:List Nat} (h:chainB ops idx=true) {j i:Nat} (hj:idx[j]? =some i):i<ops.size∧∀j' i',j=j'+1→idx[j']? =some i'→iq ops ops.size i i'=true:=by
 have hlt:=(List.getElem?_eq_some_iff.1 hj).1
 have h1:=List.all_eq_true.1 h j (List.mem_range.2 hlt)
 rw[List.getD_eq_getElem?_getD,hj] at h1
 simp only[Option.getD_some,Bool.and_eq_true,Bool.or_eq_true,decide_eq_true_eq] at h1
 refine⟨h1.1,fun j' i' e hi'=> ?_⟩
 subst e
 rcases h1.2 with h2 |h2
 ·omega
 ·rw[List.getD_eq_getElem?_getD,show j'+1-1=j' from rfl,hi'] at h2
  exact h2
theorem zi {idx:List Nat} {m:Nat} (hs:jg ops m=true) (h:chainB ops idx=true):∀(d j i i':Nat),idx[j]? =some i→idx[j+d+1]? =some i'→i<i'
 | 0,j,i,i',hi,hi'=>mX hs _ _ _ ((kJ h hi').2 j i rfl hi)
 |
  d+1,j,i,i',hi,hi'=>by
  have hlt:=(List.getElem?_eq_some_iff.1 hi').1
  have hm:idx[j+d+1]? =some idx[j+d+1]:=List.getElem?_eq_getElem AL
  have h1:=zi hs h d j i _ hi hm
  have h2:=mX hs _ _ _ ((kJ h hi').2 (j+d+1) _ rfl hm)
  omega
theorem xw {idx:List Nat} {m:Nat} (hs:jg ops m=true) (h:chainB ops idx=true) {j j' i:Nat} (hi:idx[j]? =some i) (hi':idx[j']? =some i):j=j':=by
 rcases Nat.lt_trichotomy j j' with hlt |he |hlt
 ·have:=zi hs h (j'-j-1) j i i hi (by rw[show j+(j'-j-1)+1=j' by omega];exact hi');omega
 ·exact he
 ·have:=zi hs h (j-j'-1) j' i i hi' (by rw[show j'+(j-j'-1)+1=j by omega];exact hi);omega
theorem lJ {id:Nat} {a0:Act} {w:World} (X Y:Nat→Value) (olds:List Nat) (idx:List Nat) (St:Nat→World→Prop)
 (hm:P.follows .mixedOrders=true) (hs:jg ops a0.tmps.size=true) (hc:chainB ops idx=true) (hY:zf a0 Y olds)
 (h0:∀w',Below w.heap.size w w'→w'.heap=w.heap→St 0 w')
 (hop:dB (fun n o=>∀a,wZ ops X Y olds o a→QG P ops X idx St n o a) ops.toList 0)
 (hend:∀a wx,St idx.length wx→fF ops a0 a→(∀d,jc ops d=false→a.eval (.tmp d)=X d)→Q .normal a wx):
 (Code.region id ops true).wp P Q a0 w:=by
 refine jv (Rz idx St) (fun _ _ _=>True) (fun d v _=>v=X d) hm hs (fun w' hb hh=>⟨0,Nat.zero_le _,fun j i _=>⟨fun h=>absurd h AO,fun h=>absurd h (Nat.not_lt_zero _)⟩,h0 w' hb hh⟩) ?_ ?_ ?_
 ·intro δ i j o v w1 w2 _ _ _ _ _ _ _ h
  rcases hd:o.dst with _ |d
  ·exact eU hd _ _
  ·rw[fZ hd] at h ⊢;exact h
 ·refine dB.Tj (fun n o hall=> ?_) ops.toList 0 hop
  intro δ a wx hk
  have hkt:wZ ops X Y olds o a:=⟨fun d hd=>hk.slot d hd,fun d hd=>by
   rw[Bool.and_eq_true] at hd
   exact(hk.old d hd.1).trans (hY.get d hd.2)⟩
  obtain⟨hw,h⟩:=hall a hkt
  refine⟨hw, ?_⟩
  obtain⟨k,hk1,hk2,hk3⟩:=hk.inv
  rcases h with⟨j,hj,h⟩ |⟨hn,h⟩
  ·have hkj:k=j:=by
    have h1:¬j<k:=fun hlt=>by
     have:=(hk2 j n hj).2 hlt
     rw[hk.yet] at this;exact absurd this AP
    have h2:j≤k:=by
     rcases j with _ |j'
     ·exact Nat.zero_le _
     ·have hlt:=(List.getElem?_eq_some_iff.1 hj).1
      have hj':idx[j']? =some idx[j']:=List.getElem?_eq_getElem AL
      have hneed:=(kJ hc hj).2 j' _ rfl hj'
      have hdone:=hk.next.needs ops.size n _ hneed (upd_same _ _)
      have hne:=mX hs _ _ _ hneed
      rw[aA _ AL] at hdone
      exact(hk2 j' _ hj').1 hdone
    omega
   subst hkj
   refine rM (fun v w' hv=>⟨trivial,⟨k+1, ?_,fun j2 i2 hj2=> ?_,hv.1⟩,QS hv.2⟩) (h wx hk3)
   ·exact(List.getElem?_eq_some_iff.1 hj).1
   ·by_cases he:n=i2
    ·subst he
     rw[upd_same]
     have:=xw hs hc hj hj2
     subst this
     exact⟨fun _=>Nat.lt_succ_self _,fun _=>rfl⟩
    ·rw[aA _ he,hk2 j2 i2 hj2]
     have:j2≠k:=fun e=>he (by rw[e,hj] at hj2;exact Option.some.inj hj2)
     omega
  ·refine rM (fun v w' hv=> ?_) (h k wx hk1 hk3)
   obtain⟨rfl,hv⟩:=hv
   exact⟨trivial,⟨k,hk1,fun j2 i2 hj2=>by
    rw[aA _ (show n≠i2 from fun e=>hn (by rw[e];exact List.mem_of_getElem? hj2))];exact hk2 j2 i2 hj2,hk3⟩,QS hv⟩
 ·intro δ a wx hall hcc hsame hslots
  obtain⟨k,hk1,hk2,hk3⟩:=hcc
  have hkl:k=idx.length:=by
   rcases Nat.lt_or_ge k idx.length with hlt |hge
   ·have hi:idx[k]? =some idx[k]:=List.getElem?_eq_getElem hlt
    have:=(hk2 k _ hi).1 (hall _ (kJ hc hi).1)
    omega
   ·omega
  subst hkl
  exact hend a wx hk3 hsame fun d hd=>hslots d hd
end
theorem Save.off {b:Nat} {a a1:Option Addr} {w wx w':World} (h1:Save (fun k=>k≠b∧some k≠blk a) w wx) (hn:iI w.heap.size a a1) (h2:Save (fun k=>k≠b∧some k≠blk a1) wx w'):Save (fun k=>k≠b∧some k≠blk a) w w':=
 ⟨h2.os.trans h1.os,h2.tape.trans h1.tape,h2.output.trans h1.output,Nat.le_trans h1.size h2.size,fun k hk hs=>(h2.block k (Nat.lt_of_lt_of_le hk h1.size) ⟨hs.1,fun e=>by
  rcases hn k e.symm with h |h
  ·exact hs.2 h.symm
  ·omega⟩).trans (h1.block k hk hs)⟩
end Go.Cit
namespace Go.Proofs.YtlholdllibghbaaGreat
open Go Go.RowKit Go.Cit
def jZ (x:dL):Bool:=decide (512<x.img.length)
def nJ (V:aO):Bool:=((decide (V.ws.length≤12) && decide (V.ps.length≤6)) && decide (V.cs.length≤8)) && !V.ps.any jZ
theorem I9 (W:World) (x:dL):Calls Tryz.prog 111 (#[.agg #[.int .i64 x.id.1, .int .i64 x.reg.base.1, .int .i64 x.reg.size.1, .bool x.keep, .slice x.a x.img.length x.c]]++ #[]) W fun e w'=>e= .returned (.bool (jZ x))∧Below W.heap.size W w':=by
 show Calls Tryz.prog 111 #[.agg #[.int .i64 x.id.1, .int .i64 x.reg.base.1, .int .i64 x.reg.size.1, .bool x.keep, .slice x.a x.img.length x.c]] W _
 obtain⟨R,HR⟩:=AU (jZ x)
 rw[←HR.o]
 have B0:Below W.heap.size W (W.alloc (.cells #[.int .i64 x.id.1, .int .i64 x.reg.base.1, .int .i64 x.reg.size.1, .bool x.keep, .slice x.a x.img.length x.c] 46)):=(Below.refl _ W).alloc (Nat.le_refl _) _
 have HB0:=AQ B0
 clear B0
 go_enter Tryz.func111,Tryz.ntmps111
 go_wp2_with fail
 go_ret
 exact⟨aJ (by rw[HR.o];unfold jZ;exact decide_eq_decide.2 AL),HB0.o⟩
def Uu (V:aO) (B:Nat) (g1 g2 g3 h:Bool):Nat→Value
 | 4=>(.pointer (some ⟨B,0,none⟩))
 | 5=>(.slice V.wa V.ws.length V.wc)
 | 6=>(.int .i64 (V.ws.length:Int))
 | 7=>(.bool g1)
 | 8=>(.bool g1)
 | 9=>(bif g1 then (.pointer (some ⟨B,1,none⟩)) else undef)
 | 10=>(bif g1 then (.slice V.pa V.ps.length V.pc) else undef)
 | 11=>(bif g1 then (.int .i64 (V.ps.length:Int)) else undef)
 | 12=>(bif g1 then (.bool g2) else undef)
 | 13=>(.bool (g1 && g2))
 | 14=>(.bool (g1 && g2))
 | 15=>(bif (g1 && g2) then (.pointer (some ⟨B,2,none⟩)) else undef)
 | 16=>(bif (g1 && g2) then (.slice V.ca V.cs.length V.cc) else undef)
 | 17=>(bif (g1 && g2) then (.int .i64 (V.cs.length:Int)) else undef)
 | 18=>(bif (g1 && g2) then (.bool g3) else undef)
 | 19=>(.bool ((g1 && g2) && g3))
 | 20=>(.bool ((g1 && g2) && g3))
 | 21=>(bif ((g1 && g2) && g3) then (.pointer (some ⟨B,1,none⟩)) else undef)
 | 22=>(bif ((g1 && g2) && g3) then (.slice V.pa V.ps.length V.pc) else undef)
 | 23=>(bif ((g1 && g2) && g3) then (.func (.func 111) #[] #[]) else undef)
 | 24=>(bif ((g1 && g2) && g3) then (.bool h) else undef)
 | 25=>(bif ((g1 && g2) && g3) then (.bool (!h)) else undef)
 | 26=>(.bool (((g1 && g2) && g3) && (!h)))
 | 2=>(.bool (((g1 && g2) && g3) && (!h)))
 | _=>undef
def TU (_:aO) (B:Nat) (_ _ _ _:Bool):Nat→Value
 | 1=>(.pointer (some ⟨B,0,none⟩))
 | 3=>(.func (.func 111) #[] #[])
 | _=>undef
theorem xA (w:World) (V:aO) (h:V.At w):Calls Tryz.prog 51 #[.agg #[.slice V.wa V.ws.length V.wc, .slice V.pa V.ps.length V.pc, .slice V.ca V.cs.length V.cc]] w fun e w'=>e= .returned (.bool (nJ V))∧Below w.heap.size w w':=by
 obtain⟨w0,hw0⟩:=AV (w.alloc (.cells #[.slice V.wa V.ws.length V.wc, .slice V.pa V.ps.length V.pc, .slice V.ca V.cs.length V.cc] 26))
 have B0:Below w.heap.size w w0:=by rw[hw0];exact(Below.refl _ w).alloc (Nat.le_refl _) _
 have hI:gU w0 w.heap.size V:=by rw[hw0];exact dK w V _
 obtain⟨c0,c1,c2⟩:=hI
 obtain⟨g1,hg1⟩:∃g,Hid (decide ((V.ws.length:Int)≤12)=g):=⟨_,rfl⟩
 obtain⟨g2,hg2⟩:∃g,Hid (decide ((V.ps.length:Int)≤6)=g):=⟨_,rfl⟩
 obtain⟨g3,hg3⟩:∃g,Hid (decide ((V.cs.length:Int)≤8)=g):=⟨_,rfl⟩
 obtain⟨h4,hh⟩:∃g,Hid (V.ps.any jZ=g):=⟨_,rfl⟩
 obtain⟨R,hR⟩:=AU ((((g1 && g2) && g3) && (!h4)))
 have HR:Hid (R=nJ V):=by
  rw[Hid,hR.o,←hg1.o,←hg2.o,←hg3.o,←hh.o]
  unfold nJ
  rw[show decide ((V.ws.length:Int)≤12)=decide (V.ws.length≤12) from decide_eq_decide.2 AL,show decide ((V.ps.length:Int)≤6)=decide (V.ps.length≤6) from decide_eq_decide.2 AL,show decide ((V.cs.length:Int)≤8)=decide (V.cs.length≤8) from decide_eq_decide.2 AL]
 have HV:=AQ (h.stay B0)
 have HD:Hid (∀q:After w0,Calls Tryz.prog 112 #[.slice V.pa V.ps.length V.pc, .func (.func 111) #[] #[]] q.to fun e w'=>e= .returned (.bool h4)∧Below q.to.heap.size q.to w'):=fun q=>by
  have:=vI (p:=jZ) 111 #[] (enters_of Tryz.func111 AB rfl) q.to V.pa V.ps V.pc (HV.o.stay q.bel).pts
   (fun W i hi hb=>(I9 W V.ps[i]).mono fun e w' ⟨he,hb'⟩=>⟨he,hb.trans (hb'.mono hb.size)⟩)
  rwa[hh.o] at this
 have HB0:=AQ B0
 rw[←HR.o]
 clear B0 h
 go_enter Tryz.func51,Tryz.ntmps51
 go_upto_region 2 with fail
 rw[←hw0]
 clear hw0
 refine fQ (Uu V w.heap.size g1 g2 g3 h4) (TU V w.heap.size g1 g2 g3 h4) [1,3] AB ⟨rfl,rfl,trivial⟩ ?_ ?_
 ·repeat' (first |exact aU |refine aI ?_ ?_)
  all_goals intro a hk
  ·
   exact .inl ⟨ah rfl,eP (.tmp 1) rfl (hk.o 1) (v:=(.pointer (some ⟨w.heap.size,0,none⟩))) (fun w=>AB) rfl⟩
  ·
   exact .inl ⟨ah rfl,dG (.tmp 4) rfl (hk.s 4) (v:=(.slice V.wa V.ws.length V.wc)) (fun q=>bM (fun w=>AB) (keep q.bel c0)) rfl⟩
  ·
   exact .inl ⟨ah rfl,q_len rfl AB (hk.s 5) rfl⟩
  ·
   exact .inl ⟨ah rfl,jG rfl (hk.s 6) rfl (v:= .bool (decide (((V.ws.length:Int):Int)≤12))) (fun w=>AB) (congrArg Value.bool (hg1.o))⟩
  ·
   exact .inl ⟨ah rfl,bZ (.tmp 7) rfl (hk.s 7)⟩
  ·
   cases g1<;>first |exact hk.no 8 true |skip
   exact .inl ⟨hk.yes 8 true,eP (.tmp 1) rfl (hk.o 1) (v:=(.pointer (some ⟨w.heap.size,1,none⟩))) (fun w=>AB) rfl⟩
  ·
   cases g1<;>first |exact hk.no 8 true |skip
   exact .inl ⟨hk.yes 8 true,dG (.tmp 9) rfl (hk.s 9) (v:=(.slice V.pa V.ps.length V.pc)) (fun q=>bM (fun w=>AB) (keep q.bel c1)) rfl⟩
  ·
   cases g1<;>first |exact hk.no 8 true |skip
   exact .inl ⟨hk.yes 8 true,q_len rfl AB (hk.s 10) rfl⟩
  ·
   cases g1<;>first |exact hk.no 8 true |skip
   exact .inl ⟨hk.yes 8 true,jG rfl (hk.s 11) rfl (v:= .bool (decide (((V.ps.length:Int):Int)≤6))) (fun w=>AB) (congrArg Value.bool (hg2.o))⟩
  ·
   cases g1 with
   |
    true=>
    exact .inl ⟨ah rfl,aT rfl true (hk.s 8) (hk.s 12)⟩
   |
    false=>
    exact .inl ⟨ah rfl,aT rfl false (hk.s 8) rfl⟩
  ·
   exact .inl ⟨ah rfl,bZ (.tmp 13) rfl (hk.s 13)⟩
  ·
   cases g1<;>cases g2<;>first |exact hk.no 14 true |skip
   exact .inl ⟨hk.yes 14 true,eP (.tmp 1) rfl (hk.o 1) (v:=(.pointer (some ⟨w.heap.size,2,none⟩))) (fun w=>AB) rfl⟩
  ·
   cases g1<;>cases g2<;>first |exact hk.no 14 true |skip
   exact .inl ⟨hk.yes 14 true,dG (.tmp 15) rfl (hk.s 15) (v:=(.slice V.ca V.cs.length V.cc)) (fun q=>bM (fun w=>AB) (keep q.bel c2)) rfl⟩
  ·
   cases g1<;>cases g2<;>first |exact hk.no 14 true |skip
   exact .inl ⟨hk.yes 14 true,q_len rfl AB (hk.s 16) rfl⟩
  ·
   cases g1<;>cases g2<;>first |exact hk.no 14 true |skip
   exact .inl ⟨hk.yes 14 true,jG rfl (hk.s 17) rfl (v:= .bool (decide (((V.cs.length:Int):Int)≤8))) (fun w=>AB) (congrArg Value.bool (hg3.o))⟩
  ·
   cases g1 with
   |
    true=>
    cases g2 with
    |
     true=>
     exact .inl ⟨ah rfl,aT rfl true (hk.s 14) (hk.s 18)⟩
    |
     false=>
     exact .inl ⟨ah rfl,aT rfl false (hk.s 14) rfl⟩
   |
    false=>
    exact .inl ⟨ah rfl,aT rfl false (hk.s 14) rfl⟩
  ·
   exact .inl ⟨ah rfl,bZ (.tmp 19) rfl (hk.s 19)⟩
  ·
   cases g1<;>cases g2<;>cases g3<;>first |exact hk.no 20 true |skip
   exact .inl ⟨hk.yes 20 true,eP (.tmp 1) rfl (hk.o 1) (v:=(.pointer (some ⟨w.heap.size,1,none⟩))) (fun w=>AB) rfl⟩
  ·
   cases g1<;>cases g2<;>cases g3<;>first |exact hk.no 20 true |skip
   exact .inl ⟨hk.yes 20 true,dG (.tmp 21) rfl (hk.s 21) (v:=(.slice V.pa V.ps.length V.pc)) (fun q=>bM (fun w=>AB) (keep q.bel c1)) rfl⟩
  ·
   cases g1<;>cases g2<;>cases g3<;>first |exact hk.no 20 true |skip
   exact .inl ⟨hk.yes 20 true,bZ (.tmp 3) rfl (hk.o 3)⟩
  ·
   cases g1<;>cases g2<;>cases g3<;>first |exact hk.no 20 true |skip
   exact .inl ⟨hk.yes 20 true,iD rfl rfl #[(.slice V.pa V.ps.length V.pc),(.func (.func 111) #[] #[])] (fun w=>AB) (by simp only[List.map_toArray,List.map_cons,List.map_nil,(show a.eval (.tmp 22)=(.slice V.pa V.ps.length V.pc) from hk.s 22),(show a.eval (.tmp 23)=(.func (.func 111) #[] #[]) from hk.s 23)]) (v:=(.bool h4)) (fun q=>HD.o q) rfl⟩
  ·
   cases g1<;>cases g2<;>cases g3<;>first |exact hk.no 20 true |skip
   exact .inl ⟨hk.yes 20 true,FK rfl _ (hk.s 24) rfl⟩
  ·
   cases g1 with
   |
    true=>
    cases g2 with
    |
     true=>
     cases g3 with
     |
      true=>
      exact .inl ⟨ah rfl,aT rfl true (hk.s 20) (hk.s 25)⟩
     |
      false=>
      exact .inl ⟨ah rfl,aT rfl false (hk.s 20) rfl⟩
    |
     false=>
     exact .inl ⟨ah rfl,aT rfl false (hk.s 20) rfl⟩
   |
    false=>
    exact .inl ⟨ah rfl,aT rfl false (hk.s 20) rfl⟩
  ·
   exact .inl ⟨ah rfl,nH (.tmp 26) rfl (hk.s 26)⟩
 intro a ⟨w3,hb3⟩ hsame hall
 have he:=dn hsame [4,5,6,7,8,9,10,11,12,13,14,15,16,17,18,19,20,21,22,23,24,25,26,2] AB
 simp only[List.foldl_cons,List.foldl_nil] at he
 rw[show a.eval (.tmp 2)=(.bool R) from(hall 2 AB).trans (congrArg Value.bool hR.o.symm)] at he
 generalize a.eval (.tmp 4)=x4 at he
 generalize a.eval (.tmp 5)=x5 at he
 generalize a.eval (.tmp 6)=x6 at he
 generalize a.eval (.tmp 7)=x7 at he
 generalize a.eval (.tmp 8)=x8 at he
 generalize a.eval (.tmp 9)=x9 at he
 generalize a.eval (.tmp 10)=x10 at he
 generalize a.eval (.tmp 11)=x11 at he
 generalize a.eval (.tmp 12)=x12 at he
 generalize a.eval (.tmp 13)=x13 at he
 generalize a.eval (.tmp 14)=x14 at he
 generalize a.eval (.tmp 15)=x15 at he
 generalize a.eval (.tmp 16)=x16 at he
 generalize a.eval (.tmp 17)=x17 at he
 generalize a.eval (.tmp 18)=x18 at he
 generalize a.eval (.tmp 19)=x19 at he
 generalize a.eval (.tmp 20)=x20 at he
 generalize a.eval (.tmp 21)=x21 at he
 generalize a.eval (.tmp 22)=x22 at he
 generalize a.eval (.tmp 23)=x23 at he
 generalize a.eval (.tmp 24)=x24 at he
 generalize a.eval (.tmp 25)=x25 at he
 generalize a.eval (.tmp 26)=x26 at he
 simp only[fV] at he
 dsimp only[List.set_cons_zero,List.set_cons_succ] at he
 subst he
 clear hsame hall
 go_wp2_with fail
 go_ret
 exact⟨rfl,HB0.o.trans (hb3.mono HB0.o.size)⟩
open Go Go.RowKit Go.Cit
@[reducible] def Rx (x:Ch):Array Value:= #[.int .i64 x.id.1, .int .i64 x.src.1, .int .i64 x.dst.1, .int .i64 x.cap.1, .int .i64 x.size.1]
theorem QZ:fO Tryz.prog 48 5:=⟨⟨_,Tryz.underlying48,rfl⟩,by kernel_rfl⟩
end Go.Proofs.YtlholdllibghbaaGreat
namespace Go.Cit
open Go Go.RowKit
structure dQ (W W':World):Prop where
 size:W.heap.size≤W'.heap.size
 cells:∀(k:Nat) (C:Array Value) (T:TypeId) (fr:Nat×Nat),W.heap[k]? =some (.cells C T fr)→W'.heap[k]? =some (.cells C T fr)
theorem dQ.refl (W:World):dQ W W:=⟨Nat.le_refl _,fun _ _ _ _ h=>h⟩
theorem dQ.trans {A B C:World} (h:dQ A B) (k:dQ B C):dQ A C:=⟨Nat.le_trans h.size k.size,fun _ _ _ _ x=>k.cells _ _ _ _ (h.cells _ _ _ _ x)⟩
theorem dQ.of {A B:World} (h:Below A.heap.size A B):dQ A B:=⟨h.size,fun k _ _ _ x=>(h.block k (Array.getElem?_eq_some_iff.1 x).1).trans x⟩
theorem dQ.alloc (W:World) (o:Obj):dQ W (W.alloc o):= .of ((Below.refl _ _).alloc (Nat.le_refl _) _)
theorem dQ.put {w W:World} {l:Nat} {o o':Obj} (h:W.heap[l]? =some o) (hc:o.isCells=false):dQ W (W.putObj l o'):=by
 refine⟨by simp,fun k C T fr x=> ?_⟩
 by_cases e:k=l
 ·subst e;rw[h] at x;cases x;cases hc
 ·exact(World.putObj_heap_other e).trans x
theorem dQ.cell {A B:World} (h:dQ A B) {p:Addr} {v:Value} (hp:A.cell? p=some v):B.cell? p=some v:=by
 unfold World.cell? at hp ⊢
 split at hp
 ·rename_i C e fr hk
  rw[h.cells _ _ _ _ hk];exact hp
 ·exact absurd hp AO
theorem Vec.kc {α:Type} {f:α→List Value} {n:Nat} {w w':World} {a:Option Addr} {l:List α} {c:Nat} (h:Vec f n w a l c) (hf:∀x,(f x).length=n) (k:dQ w w'):Vec f n w' a l c:=by
 refine⟨h.le,h.top,h.nil,h.spot,fun i hi j hj=> ?_⟩
 have e:=h.cell i hi j hj
 have hj':j<(f l[i]).length:=by rw[hf];exact hj
 rw[List.getElem?_eq_getElem hj'] at e ⊢
 exact k.cell e
theorem Vec.from_ {P:Program} {T E:TypeId} {n by_:Nat} {z:Value} {α:Type} {f:α→List Value} (hE:bT P T E n by_ z) {w:World} {a:Option Addr} {cap:Nat} {l:List α} (h:Vec f n w a l cap) (lo:Nat) (h1:lo≤l.length):∃a' m cap',m=l.drop lo∧
 (∀w,(Instr.sliceAt T (.slice a l.length cap) (some (.int .i64 (lo:Int))) none none).run P w= .ok (.slice a' m.length cap') w)∧Vec f n w a' m cap':=by
 have hT:=hE.slice
 have he:P.elem T=E:=by simp[Program.elem,hT]
 have hle:=h.le
 have htop:=h.top
 have hlen:(l.drop lo).length=l.length-lo:=List.length_drop
 refine⟨if cap=lo then a else a.map (·.add (lo*n)),_,cap-lo,rfl,fun w=> ?_,by omega,by omega,fun hn=> ?_,fun hne=> ?_,fun i hi j hj=> ?_⟩
 ·rw[run_sliceAt_slice _ _ _ _ _ _ (by rw[he];exact hT),run_slice_l w T a _ _ (by rw[he];exact hT) .i64 lo AL AL,he,hE.sz]
  simp[Result.andThen,sliced]
 ·split at hn
  ·omega
  ·have:=h.nil (by simpa using hn);omega
 ·have hlt:lo<l.length:=by
   rcases Nat.lt_or_ge lo l.length with h |h
   ·exact h
   ·exact absurd (List.eq_nil_of_length_eq_zero AL) hne
  obtain⟨b,off,rfl⟩:=h.spot (by intro h0;simp[h0] at hlt)
  rw[if_neg AL]
  refine⟨b,off+lo*n, ?_⟩
  by_cases h0:lo*n=0
  ·simp[Addr.add,h0]
  ·simp[Addr.add,h0]
 ·have hl:lo+i<l.length:=by omega
  obtain⟨b,off,rfl⟩:=h.spot (by intro h0;simp[h0] at hl)
  rw[if_neg AL]
  have hc:=h.cell (lo+i) hl j hj
  have e:ad (Option.map (·.add (lo*n)) (some (⟨b,off,none⟩:Addr))) (i*n+j)=ad (some ⟨b,off,none⟩) ((lo+i)*n+j):=by
   rw[Nat.add_mul]
   by_cases h0:lo*n=0
   ·simp[Addr.add,ad,h0]
   ·simp[Addr.add,ad,h0,Nat.add_assoc]
  rw[e,hc]
  simp
end Go.Cit
namespace Go.Proofs.YtlholdllibghbaaGreat
open Go Go.RowKit Go.Cit Go.Shelf
attribute [local go_sem] Oper.semAt_some
def gJ:List Reg→List (Reg×Reg)
 | []=> []
 | a::r=>r.map (fun b=>(a,b))++gJ r
theorem Gf (l:List Reg) (k:Nat) (h:k<l.length):gJ (l.drop k)=(l.drop (k+1)).map (fun b=>(l[k],b))++gJ (l.drop (k+1)):=by
 rw[List.drop_eq_getElem_cons h];rfl
theorem uh {w w':World} {a:Option Addr} {l:List Reg} {c:Nat} (h:Vec IQ 2 w a l c) (hb:dQ w w') (k:Nat) (hk:k<l.length):
 w'.cell? (ad a (k*2))=some (.int .i64 l[k].base.1)∧w'.cell? ⟨(ad a (k*2)).block,(ad a (k*2)).off+1,none⟩=some (.int .i64 l[k].size.1):=by
 have h:=h.kc oK hb
 exact⟨h.wY k hk AP rfl,h.field k hk 1 AP rfl⟩
theorem LM (m L Bn:Nat) (a:Option Addr) (l:List Reg) (c:Nat) (J Jx:List (Reg×Reg)→World→Prop) (hJ:∀s W o,J s W→J s (W.alloc o))
 (hY:∀pre x W,J pre W→pre.length<(gJ l).length→YieldAt Fence.wide (m-1) Tryz.prog L #[.agg #[.int .i64 x.1.base.1, .int .i64 x.1.size.1], .agg #[.int .i64 x.2.base.1, .int .i64 x.2.size.1]] W fun e W'=>
  (e= .returned (.bool true)∧J (pre++ [x]) W'∧dQ W W')∨(e= .returned (.bool false)∧Jx (pre++ [x]) W'))
 (W:World) (hc:W.cell? ⟨Bn,0,none⟩=some (.slice a l.length c)) (hv:Vec IQ 2 W a l c) (h0:J [] W):
 CallsIn Fence.wide m Tryz.prog 262 #[.func (.yield L) #[] #[], .pointer (some ⟨Bn,0,none⟩)] W fun e W'=>(∃v,e= .returned v)∧
  ((∃ys,ys=gJ l∧J ys W')∨(∃pre,pre<+:gJ l∧Jx pre W')):=by
 have hlen:=hv.bK
 have HV:=AQ hv
 have HJ:=AQ hJ
 have HY:=AQ hY
 have HC:=AQ hc
 clear hJ hY hv
 refine callsIn_of_wp Tryz.func262 rfl trivial ?_ rfl
 simp only[Tryz.ntmps262,List.size_toArray,List.length_cons,List.length_nil,Nat.reduceAdd,Nat.reduceSub,Array.replicate_succ,Array.replicate_zero,List.push_toArray,List.append_toArray,List.nil_append,List.cons_append]
 gi_wp2
 gi_loopw [9] (fun s wr=>∃(k:Nat) (pre:List (Reg×Reg)),s= .int .i64 k∧k≤l.length∧Hid (pre++gJ (l.drop k)=gJ l)∧dQ W wr∧J pre wr) (fun s _=>l.length-(intOf s).toNat)
 case atStart=>exact⟨0,[],rfl,Nat.zero_le _,rfl,dQ.refl _,h0⟩
 case round=>
  obtain⟨k,pre,rfl,hk,HP,hK,hJs⟩:=hrel
  by_cases hlt:k<l.length
  ·have i0:=HV.o.index SH k hlt
   obtain⟨d0,d1⟩:=uh HV.o hK k hlt
   have hcc:=hK.cell HC.o
   have hbn:Bn<wr.heap.size:=World.block_lt_of_cell? wr _ hcc
   have hbn2:Bn≠wr.heap.size:=by omega
   obtain⟨a2,m2,c2,hm2,hrun2,v2⟩:=HV.o.from_ SH (k+1) hlt
   rw[show((k+1:Nat):Int)=(k:Int)+1 from rfl] at hrun2
   have HPD:=AQ (Gf l k hlt)
   obtain⟨x,hx⟩:∃x:Reg,Hid (x=l[k]):=⟨l[k],rfl⟩
   rw[←hx.o] at d0 d1 HPD
   have HM2:=AQ hm2
   have HV2:=AQ v2
   have hl2:=v2.bK
   obtain⟨wk,hwk⟩:=AV (wr.alloc (.cells #[.int .i64 x.base.1, .int .i64 x.size.1] 44))
   have hKk:dQ W wk:=by rw[hwk];exact hK.trans (dQ.alloc _ _)
   have hJk:J pre wk:=by rw[hwk];exact HJ.o _ _ _ hJs
   have hcx:=Qr wr (.int .i64 x.base.1) (.int .i64 x.size.1) 44
   rw[←hwk] at hcx
   have hcc2:wk.cell? ⟨Bn,0,none⟩=some (.slice a l.length c):=by rw[hwk];exact keepA _ hcc
   have HKk:=AQ (And.intro hKk (And.intro hJk hcx))
   clear hm2 v2 hKk hJk hcx
   gi_wp2
   rw[←hwk]
   clear hwk
   gi_loopw [19] (fun s wx=>∃(m:Nat) (pre':List (Reg×Reg)),s= .int .i64 m∧m≤m2.length∧Hid (pre'++((m2.drop m).map (fun b=>(x,b))++gJ (l.drop (k+1)))=gJ l)∧dQ wk wx∧J pre' wx) (fun s _=>m2.length-(intOf s).toNat)
   case atStart=>exact⟨0,pre,rfl,Nat.zero_le _,by rw[Hid,List.drop_zero,HM2.o,←HPD.o];exact HP.o,dQ.refl _,HKk.o.2.1⟩
   case round=>
    obtain⟨t,pre',rfl,ht,HP2,hK2,hJ2⟩:=hrel
    by_cases hlt2:t<m2.length
    ·have j0:=HV2.o.index SH t hlt2
     obtain⟨e0,e1⟩:=uh HV2.o (HKk.o.1.trans hK2) t hlt2
     have x0:=hK2.cell HKk.o.2.2.1
     have x1:=hK2.cell HKk.o.2.2.2
     obtain⟨y,hy⟩:∃y:Reg,Hid (y=m2[t]):=⟨m2[t],rfl⟩
     rw[←hy.o] at e0 e1
     have HP3:Hid ((pre'++ [(x,y)])++((m2.drop (t+1)).map (fun b=>(x,b))++gJ (l.drop (k+1)))=gJ l):=by
      rw[Hid,←HP2.o,List.drop_eq_getElem_cons hlt2,hy.o,List.map_cons,List.append_assoc];rfl
     have HLN:Hid (pre'.length<(gJ l).length):=by rw[Hid,←HP3.o];simp
     have HPX:Hid ((pre'++ [(x,y)])<+:gJ l):=⟨_,HP3.o⟩
     have hKa:=dQ.alloc wr (.cells #[.int .i64 y.base.1, .int .i64 y.size.1] 44)
     have x0':=keepA (.cells #[.int .i64 y.base.1, .int .i64 y.size.1] 44) x0
     have x1':=keepA (.cells #[.int .i64 y.base.1, .int .i64 y.size.1] 44) x1
     obtain⟨fn,tmps,assign,body,hyy,hR⟩:=HY.o pre' (x,y) (wr.alloc (.cells #[.int .i64 y.base.1, .int .i64 y.size.1] 44)) (HJ.o _ _ _ hJ2) HLN.o
     dsimp only at hyy
     have HKa:=AQ (hK2.trans hKa)
     clear hKa hK2 hJ2
     gi_wp2
     refine⟨fun h=>(by cases h),hR.mono ?_⟩
     rintro e W3 (⟨rfl,hJ3,hk3⟩ |⟨rfl,hJx3⟩)
     ·gi_wp2
      go_roundw
      case rel=>exact⟨t+1,pre'++ [(x,y)],by go_num,by omega,HP3.o,HKa.o.trans hk3,hJ3⟩
      case measure=>simp[intOf];omega
     ·gi_wp2
      refine bodyPost_ret (results_none rfl _ _ _) rfl ?_
      exact⟨⟨_,rfl⟩, .inr ⟨pre'++ [(x,y)],HPX.o,hJx3⟩⟩
    ·have ht2:t=m2.length:=by omega
     have HP3:Hid (pre'++gJ (l.drop (k+1))=gJ l):=by
      have:=HP2.o
      rw[ht2,List.drop_length] at this
      rw[Hid]
      simpa using this
     clear ht2
     gi_wp2
     go_roundw
     case rel=>exact⟨k+1,pre',by go_num,by omega,HP3.o,HKk.o.1.trans hK2,hJ2⟩
     case measure=>simp[intOf];omega
  ·have hk2:k=l.length:=by omega
   have HE:Hid (pre=gJ l):=by
    have:=HP.o
    rw[hk2,List.drop_length] at this
    rw[Hid]
    simpa[gJ] using this
   clear hk2
   gi_wp2
   go_end0
   exact⟨⟨_,rfl⟩, .inl ⟨pre,HE.o,hJs⟩⟩
theorem kP {W W':World} {B:Nat} {t:TypeId} {v:Value} (h:Boxed W B t v) (hb:Below W.heap.size W W'):Boxed W' B t v:=(hb.block B h.lt).trans h
theorem GU {X Y:World} {row:Option Nat} {k:Nat} {C:Array Value} {T:TypeId} {fr:Nat×Nat} (h:X.heap[k]? =some (.cells C T fr)) (hg:X.grownBy Y row) (hr:∀r,row=some r→∃o:Obj,X.heap[r]? =some o∧o.isCells=false):Y.heap[k]? =some (.cells C T fr):=
 (hg.block k (Array.getElem?_eq_some_iff.1 h).1 (fun e=>by obtain⟨o,ho,hc⟩:=hr k e.symm;rw[h] at ho;cases ho;cases hc)).trans h
theorem Hf (w:World) (a:Option Addr) (l:List Reg) (c:Nat):Calls Tryz.prog 258 #[.slice a l.length c] w fun e w'=>
 e= .returned (.func (.func 262) #[] #[.pointer (some ⟨w.heap.size,0,none⟩)])∧w'=w.alloc (.cells #[.slice a l.length c] 279):=by
 go_enter Tryz.func258,Tryz.ntmps258
 go_wp2_with fail
 go_ret
 exact⟨rfl,rfl⟩
def qV (l:List Reg):Int:=if l.all kE then (if (gJ l).all (fun p=>qK p.1 p.2) then 0 else 121) else 2
theorem pairs_stops (m:Nat) (Bn:Nat) (a:Option Addr) (l:List Reg) (c:Nat) (w:World) (hc:w.cell? ⟨Bn,0,none⟩=some (.slice a l.length c)) (hv:Vec IQ 2 w a l c):
 SeqStopsK Fence.wide m Tryz.prog 262 #[.pointer (some ⟨Bn,0,none⟩)] (fun x:Reg×Reg=> #[.agg #[.int .i64 x.1.base.1, .int .i64 x.1.size.1], .agg #[.int .i64 x.2.base.1, .int .i64 x.2.size.1]]) dQ (fun ys=>ys=gJ l) (fun pre=>pre<+:gJ l) (gJ l).length w:=
 fun L J Jx W hW hJ _ hY h0=>LM m L Bn a l c J Jx (fun s A o h=>hJ s A _ none h (World.grownBy_alloc A o none) (fun r e=>by cases e)) hY W (keep hW hc) (hv.stay oK hW) h0
theorem Jj (w:World) (a:Option Addr) (l:List Reg) (c:Nat) (h:Vec IQ 2 w a l c):Calls Tryz.prog 251 #[.slice a l.length c] w fun e w'=>e= .returned (.int .i64 (qV l))∧Below w.heap.size w w':=by
 obtain⟨R,HR⟩:=AU (qV l)
 rw[←HR.o]
 have hlen:=h.bK
 have HH:=AQ h
 clear h
 refine(callsIn_wide (n:=6)).1 ?_
 refine callsIn_of_wp_marks Tryz.func251 rfl trivial ?_ rfl
 simp only[Tryz.ntmps251,List.size_toArray,List.length_cons,List.length_nil,Nat.reduceAdd,Nat.reduceSub,Array.replicate_succ,Array.replicate_zero,List.push_toArray,List.append_toArray,List.nil_append,List.cons_append]
 obtain⟨w0,hw0⟩:=AV (w.alloc (.cells #[.int .i64 0] 33))
 have hB0:Below w.heap.size w w0:=by rw[hw0];exact(Below.refl _ w).alloc (Nat.le_refl _) _
 have bR0:Boxed w0 w.heap.size 33 (.int .i64 0):=by rw[hw0];exact Boxed.new w _ _
 have hsz0:w0.heap.size=w.heap.size+1:=by rw[hw0];simp
 have HV0:=AQ (HH.o.stay oK hB0)
 gi_wp2
 rw[←hw0]
 clear hw0
 gi_loopw [9] (fun s wr=>∃k:Nat,s= .int .i64 k∧k≤l.length∧Hid ((l.take k).all kE=true)∧Below w0.heap.size w0 wr) (fun s _=>l.length-(intOf s).toNat)
 case atStart=>exact⟨0,rfl,Nat.zero_le _,rfl,Below.refl _ _⟩
 case round=>
  obtain⟨k,rfl,hk,ha,B⟩:=hrel
  by_cases hlt:k<l.length
  ·have i0:=HV0.o.index SH k hlt
   obtain⟨d0,d1⟩:=uh HV0.o (dQ.of B) k hlt
   have HT:=AQ (Aw kE l k hlt)
   have HNT:=AQ (Ee kE l k hlt)
   obtain⟨x,hx⟩:∃x:Reg,Hid (x=l[k]):=⟨l[k],rfl⟩
   rw[←hx.o] at d0 d1 HT HNT
   have HC:=AQ (fun w=>kT w x)
   have HB:Hid (∀C,Below w0.heap.size w0 (wr.alloc (.cells C 44))):=fun C=>B.alloc B.size _
   have bR:=bR0.kept (show w0.grownBy wr none from⟨B.os,B.tape,B.output,B.size,fun k hk _=>B.block k hk⟩) AO
   cases hq:kE x with
   |
    true=>
    rw[hq] at HC
    have HA:Hid ((l.take (k+1)).all kE=true):=by rw[Hid,HT.o,ha.o,hq];rfl
    clear hq
    gi_wp2_with (refine⟨trivial, ?_⟩;gi_at_call 180;refine(callsIn_wide.2 (HC.o _)).mono ?_;rintro e w2 ⟨rfl,hb2⟩)
    go_roundw
    case rel=>exact⟨k+1,by go_num,by omega,HA.o,(HB.o _).trans (hb2.mono (HB.o _).size)⟩
    case measure=>simp[intOf];omega
   |
    false=>
    rw[hq] at HC
    have HF:Hid (R=2):=by rw[Hid,HR.o,qV,HNT.o hq];rfl
    clear hq
    have bRa:=kP bR ((Below.refl _ wr).alloc (Nat.le_refl _) (.cells #[.int .i64 x.base.1, .int .i64 x.size.1] 44))
    clear bR
    gi_wp2_with (refine⟨trivial, ?_⟩;gi_at_call 180;refine(callsIn_wide.2 (HC.o _)).mono ?_;rintro e w2 ⟨rfl,hb2⟩;have bR2:=kP bRa hb2;have cR:=bR2.cell;have fR:=bR2.frozen)
    refine⟨.int .i64 2, ?_,dX HF.o.symm, ?_⟩
    ·simp[results,Tryz.f251,go_sem,(bR2.set (.int .i64 2)).cell]
    ·exact((hB0.trans ((HB.o _).mono hB0.size)).trans (hb2.mono (by have:=hB0.size;have:=(HB.o #[.int .i64 x.base.1, .int .i64 x.size.1]).size;omega))).setCell (p:=⟨w.heap.size,0,none⟩) (Nat.le_refl _) _
  ·have hk2:k=l.length:=by omega
   have HA:Hid (l.all kE=true):=by have:=ha.o;rw[hk2,List.take_length] at this;exact this
   clear hk2
   gi_wp2_with (refine⟨trivial, ?_⟩;gi_at_call 258;refine(callsIn_wide.2 (Hf _ _ _ _)).mono ?_;rintro e w2 ⟨rfl,rfl⟩)
   have hBr:Below w.heap.size w wr:=hB0.trans (B.mono hB0.size)
   have hB3:Below w.heap.size w (wr.alloc (.cells #[.slice a l.length c] 279)):=hBr.alloc hBr.size _
   have hsz3:(wr.alloc (.cells #[.slice a l.length c] 279)).heap.size=wr.heap.size+1:=by simp
   have bR3:=kP (kP bR0 B) ((Below.refl _ wr).alloc (Nat.le_refl _) (.cells #[.slice a l.length c] 279))
   have hV3:=HH.o.stay oK (hB3.mono (Nat.le_refl _))
   have hC3:(wr.alloc (.cells #[.slice a l.length c] 279)).cell? ⟨wr.heap.size,0,none⟩=some (.slice a l.length c):=by rw[World.cell?,heap_alloc_new];rfl
   obtain⟨w3,hw3⟩:=AV (wr.alloc (.cells #[.slice a l.length c] 279))
   have hlr:=hBr.size
   rw[←hw3] at hB3 hsz3 bR3 hV3 hC3 ⊢
   clear hw3
   have HRA:Hid (R=(if (gJ l).all (fun p=>qK p.1 p.2) then 0 else 121)):=by rw[Hid,HR.o,qV,HA.o];rfl
   refine wpIn_rangeFunc_ownH rfl AP (gf:=262) (lb:= #[.pointer (some ⟨wr.heap.size,0,none⟩)]) rfl trivial (enters_of Tryz.func262 AB rfl)
    (pairs_stops (6-1) wr.heap.size a l c w3 hC3 hV3) (fun h k=>dQ.trans h k) (fun W L o o' _ ho hc _=>dQ.put (w:=W) ho hc) (Below.refl _ _) (fun _=>rfl)
    (fun pre W=>((∀p∈pre,qK p.1 p.2=true)∧Boxed W w.heap.size 33 (.int .i64 0))∧Below w.heap.size w W)
    (fun cd pre W=>((cd= .ret∧∃p∈pre,qK p.1 p.2=false)∧Boxed W w.heap.size 33 (.int .i64 121))∧Below w.heap.size w W)
    (OwnFrom.and (OwnFrom.and (ownFrom_pure _ _) (Own.from (boxed_own _ _ _) _)) (ownFrom_below (Nat.le_refl _) hB3.size))
    (fun cd=>OwnFrom.and (OwnFrom.and (ownFrom_pure _ _) (Own.from (boxed_own _ _ _) _)) (ownFrom_below (Nat.le_refl _) hB3.size))
    ⟨⟨fun p hp=>by simp at hp,bR3⟩,hB3⟩
    (fun x a' W=>∃Ba Bb,W.heap[Ba]? =some (.cells #[.int .i64 x.1.base.1, .int .i64 x.1.size.1] 44 (0,0))∧W.heap[Bb]? =some (.cells #[.int .i64 x.2.base.1, .int .i64 x.2.size.1] 44 (0,0))∧
     a'= {tmps:= #[.slice a l.length c,undef, .pointer (some ⟨w.heap.size,0,none⟩),undef,u4, .pointer (some ⟨Ba,0,none⟩), .pointer (some ⟨Bb,0,none⟩), .slice a l.length c, .int .i64 l.length, .int .i64 k, .bool false,u11,u12,u13,u14,u15,u16, .slice a l.length c,
      .func (.func 262) #[] #[.pointer (some ⟨wr.heap.size,0,none⟩)], .agg #[.int .i64 x.1.base.1, .int .i64 x.1.size.1], .agg #[.int .i64 x.2.base.1, .int .i64 x.2.size.1],undef,undef,undef,undef],defers:=[]})
    (fun x a' _ X Y row hs hg hr=>by obtain⟨Ba,Bb,e1,e2,e3⟩:=hs;exact⟨Ba,Bb,GU e1 hg (fun r e=>(hr r e).2),GU e2 hg (fun r e=>(hr r e).2),e3⟩)
    ?assign ?body ?done ?stop
   case assign=>
    rintro L pre x W K ⟨⟨hp,bR1⟩,hB1⟩ hK
    have hh1:=heap_alloc_new W (.cells #[.int .i64 x.1.base.1, .int .i64 x.1.size.1] 44)
    have hh2:=heap_alloc_new (W.alloc (.cells #[.int .i64 x.1.base.1, .int .i64 x.1.size.1] 44)) (.cells #[.int .i64 x.2.base.1, .int .i64 x.2.size.1] 44)
    have hh3:((W.alloc (.cells #[.int .i64 x.1.base.1, .int .i64 x.1.size.1] 44)).alloc (.cells #[.int .i64 x.2.base.1, .int .i64 x.2.size.1] 44)).heap[W.heap.size]? =some (.cells #[.int .i64 x.1.base.1, .int .i64 x.1.size.1] 44 (0,0)):=(Below.heap_alloc _ _ _ AO).trans hh1
    rw[World.size_alloc] at hh2
    have HH9:=AQ (And.intro hh2 hh3)
    clear hh1 hh2 hh3
    gi_wp2
    exact hK _ _ (((KeepsOthers.alloc _ _).trans (KeepsOthers.alloc _ _)).from _) ((dQ.alloc _ _).trans (dQ.alloc _ _)) ⟨⟨hp,(bR1.alloc _).alloc _⟩,(hB1.alloc hB1.size _).alloc (by simp;have:=hB1.size;omega) _⟩ ⟨_,_,HH9.o.2,HH9.o.1,rfl⟩
   case body=>
    rintro L pre x a' W hL ⟨r,hr⟩ ⟨⟨hp,bR1⟩,hB1⟩ ⟨Ba,Bb,hBa,hBb,rfl⟩ hlt2
    have a0:=au hBa 0 rfl
    have a1:=au hBa 1 rfl
    have b0:=au hBb 0 rfl
    have b1:=au hBb 1 rfl
    have HC:=AQ (EL W x.1 x.2)
    clear hBa hBb
    cases hq:qK x.1 x.2 with
    |
     true=>
     rw[hq] at HC
     have HA2:Hid (∀p∈pre++ [x],qK p.1 p.2=true):=fun p hp'=>(List.mem_append.1 hp').elim (hp p) (fun e=>by simp at e;subst e;exact hq)
     clear hq
     gi_wp2_with (refine⟨trivial, ?_⟩;gi_at_call 259;refine(CallsIn.inRound L (callsIn_wide.2 HC.o)).mono ?_;rintro e w2 ⟨rfl,hb2⟩)
     exact⟨⟨hb2.size,fun k o hk h0 ho=>(hb2.block k (Array.getElem?_eq_some_iff.1 h0).1).trans h0⟩,dQ.of hb2,⟨⟨HA2.o,kP bR1 hb2⟩,hB1.trans (hb2.mono hB1.size)⟩⟩
    |
     false=>
     rw[hq] at HC
     have HQ:=AQ hq
     clear hq
     gi_wp2_with (refine⟨trivial, ?_⟩;gi_at_call 259;refine(CallsIn.inRound L (callsIn_wide.2 HC.o)).mono ?_;rintro e w2 ⟨rfl,hb2⟩;have bR2:=kP bR1 hb2;have cR:=bR2.cell;have fR:=bR2.frozen)
     exact⟨(KeepsFrom.mk hb2.size fun k o hk h0 ho=>(hb2.block k (Array.getElem?_eq_some_iff.1 h0).1).trans h0).trans ((KeepsOthers.setCell _ _ _).from _),⟨⟨rfl,x,by simp,HQ.o⟩,bR2.set _⟩,(hB1.trans (hb2.mono hB1.size)).setCell (p:=⟨w.heap.size,0,none⟩) (Nat.le_refl _) _⟩
   case done=>
    rintro D ys W hD rfl ⟨⟨hp,bR1⟩,hB1⟩ hK
    have cR:=bR1.cell
    have fR:=bR1.frozen
    have HF:Hid (R=0):=by rw[Hid,HRA.o,if_pos (List.all_eq_true.2 hp)]
    gi_wp2
    have hK':=(KeepsOthers.setCell W ⟨w.heap.size,0,none⟩ (.int .i64 0)).same D _ hK rfl
    refine⟨by simp, .inl ⟨_,_,rfl,run_takeDeferred hK', ?_⟩⟩
    have hc5:=cell_kept (bR1.set (.int .i64 0)).cell (grownBy_putObj' _ D (.deferred none)) (fun r e=>by cases e;exact⟨_,hK',rfl⟩)
    refine⟨.int .i64 0, ?_,dX HF.o.symm,(hB1.setCell (p:=⟨w.heap.size,0,none⟩) (Nat.le_refl _) _).trans (belowK_b (w:=w) (Nat.le_refl _) _ D _ _ AL hK' rfl rfl)⟩
    simp[results,Tryz.f251,go_sem,hc5]
   case stop=>
    rintro D cd pre W hD hpre ⟨⟨⟨rfl,p,hp,hq⟩,bR1⟩,hB1⟩ hK
    have HF:Hid (R=121):=by
     rw[Hid,HRA.o,if_neg]
     intro h
     have:=List.all_eq_true.1 h p (hpre.subset hp)
     rw[hq] at this
     exact absurd this AP
    gi_wp2
    refine⟨by simp, .inl ⟨_,_,rfl,run_takeDeferred hK, ?_⟩⟩
    have hc5:=cell_kept bR1.cell (grownBy_putObj' _ D (.deferred none)) (fun r e=>by cases e;exact⟨_,hK,rfl⟩)
    refine⟨.int .i64 121, ?_,dX HF.o.symm,hB1.trans (belowK_b (w:=w) (Nat.le_refl _) W D _ _ AL hK rfl rfl)⟩
    simp[results,Tryz.f251,go_sem,hc5]
end Go.Proofs.YtlholdllibghbaaGreat
