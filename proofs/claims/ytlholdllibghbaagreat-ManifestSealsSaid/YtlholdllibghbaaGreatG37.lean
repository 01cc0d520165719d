/- Texts of the proof, one behind the other: Surv, OddR, ErrsCfg, Good. No condition but those that each names. -/
import Derived.Test.YtlholdllibghbaaGreatG36
import Derived.Test.YtlholdllibghbaaGreatG33
import Derived.Test.YtlholdllibghbaaGreatG13
import Derived.Test.YtlholdllibghbaaGreatG12
import Derived.Test.YtlholdllibghbaaGreatKit
set_option maxRecDepth 100000
set_option maxHeartbeats 8000000
namespace Go.Proofs.YtlholdllibghbaaGreat
open Go Go.RowKit Go.Cit
def DN (V W:aN) (x:cO):Bool:=mV V.ps W.ps x.id.1 && !sH V.ps W.ps x.id.1
def Dy (V W:aN):Int:=if Ak V W then (if W.ps.any (DN V W) then 130 else 0) else 2
theorem Ej (w:World) (V W:aN) (h:V.At w) (k:W.At w) (hs:bP V) (ks:bP W):Calls Tryz.prog 76 #[.agg #[.slice V.wa V.ws.length V.wc, .slice V.pa V.ps.length V.pc, .slice V.ca V.cs.length V.cc], .agg #[.slice W.wa W.ws.length W.wc, .slice W.pa W.ps.length W.pc, .slice W.ca W.cs.length W.cc]] w fun e w'=>e= .returned (.int .i64 (Dy V W))∧Below w.heap.size w w':=by
 obtain⟨w0,hw0⟩:=AV ((w.alloc (.cells #[.slice V.wa V.ws.length V.wc, .slice V.pa V.ps.length V.pc, .slice V.ca V.cs.length V.cc] 26)).alloc (.cells #[.slice W.wa W.ws.length W.wc, .slice W.pa W.ps.length W.pc, .slice W.ca W.cs.length W.cc] 26))
 have B0:Below w.heap.size w w0:=by rw[hw0];exact((Below.refl _ w).alloc (Nat.le_refl _) _).alloc AO _
 have hI:=yS w V W
 rw[←hw0] at hI
 have HI:=AQ hI
 have HV:=AQ (h.stay B0)
 have HK:=AQ (k.stay B0)
 have HB0:=AQ B0
 have hlen:=k.pts.bF
 have hf:=IX w0 V W (h.stay B0) (k.stay B0) hs ks
 obtain⟨f2,hf2⟩:=AU (Ak V W)
 rw[←hf2.o] at hf
 have HF:=AQ hf
 obtain⟨R,hR⟩:=AU (Dy V W)
 have HR:Hid (R=if f2 then (if W.ps.any (DN V W) then 130 else 0) else 2):=by rw[Hid,hR.o,hf2.o];rfl
 rw[←hR.o]
 clear h k B0 hI hf
 obtain⟨⟨c0,c1,c2⟩,⟨d0,d1,d2⟩⟩:=HI.o
 cases f2 with
 |
  false=>
  have HRF:Hid (R=2):=HR.o
  go_enter Tryz.func76,Tryz.ntmps76
  go_wp2_with fail
  rw[←hw0]
  clear hw0
  refine(HF.o).mono ?_
  rintro e w1 ⟨rfl,hb1⟩
  have HB1:=AQ (HB0.o.trans (hb1.mono HB0.o.size))
  clear hb1 c0 c1 c2 d0 d1 d2
  go_wp2_with fail
  go_ret
  exact⟨dU HRF.o.symm,HB1.o⟩
 |
  true=>
  have HRF:Hid (R=if W.ps.any (DN V W) then 130 else 0):=HR.o
  go_enter Tryz.func76,Tryz.ntmps76
  go_wp2_with fail
  rw[←hw0]
  clear hw0
  refine(HF.o).mono ?_
  rintro e w1 ⟨rfl,hb1⟩
  have HB1:=AQ hb1
  clear c0 c1 c2 d0 d1 d2
  obtain⟨d0,d1,d2⟩:=HI.o.2.keep hb1
  clear hb1
  go_wp2_with fail
  go_loopw [16] (fun i wr=>∃(j:Nat),i= .int .i64 j∧j≤W.ps.length∧Hid ((W.ps.take j).any (DN V W)=false)∧Below w0.heap.size w0 wr) (fun i _=>W.ps.length-(intOf i).toNat)
  case atStart=>exact⟨0,rfl,Nat.zero_le _,by rw[Hid];simp,HB1.o⟩
  case round=>
   obtain⟨j,rfl,hj,HJ,B⟩:=hrel
   have HBw:=AQ B
   by_cases hlt:j<W.ps.length
   ·have hkw:=HK.o.stay B
    have i0:=hkw.pts.index Cm j hlt
    obtain⟨u0,u1,u2,u3,u4⟩:=bQ hkw.pts (Below.refl _ _) j hlt
    have HS:=AQ (Eu (DN V W) W.ps j hlt)
    have HMEM:Hid (W.ps[j]∈W.ps):=List.getElem_mem hlt
    obtain⟨x,hx⟩:∃x,Hid (x=W.ps[j]):=⟨W.ps[j],rfl⟩
    rw[←hx.o] at u0 u1 u2 u3 u4 HS HMEM
    obtain⟨wb,hwb⟩:=AV (wr.alloc (.cells (cA x) 46))
    have hbb:Below wr.heap.size wr wb:=by rw[hwb];exact(Below.refl _ _).alloc (Nat.le_refl _) _
    have HBb:=AQ (B.trans (hbb.mono B.size))
    obtain⟨c0,c1,c2⟩:=HI.o.1.keep HBb.o
    obtain⟨d0,d1,d2⟩:=HI.o.2.keep HBb.o
    rw[hwb] at c0 c1 c2 d0 d1 d2
    obtain⟨b1,hb1⟩:=AU (mV V.ps W.ps x.id.1)
    obtain⟨b2,hb2⟩:=AU (sH V.ps W.ps x.id.1)
    have hkc:=Jj wb V W (HV.o.stay HBb.o) (HK.o.stay HBb.o) hs ks x.id.1
    rw[←hb1.o,←hb2.o] at hkc
    have HKC:=AQ hkc
    have HO:Hid (DN V W x=(b1 && !b2)):=by rw[Hid,hb1.o,hb2.o];rfl
    clear hkw hbb hkc B
    by_cases hq:(b1 && !b2)=true
    ·obtain⟨rfl,rfl⟩:b1=true∧b2=false:=by cases b1<;>cases b2<;>simp_all
     have HRT:Hid (R=130):=by
      rw[Hid,HRF.o,if_pos]
      rw[List.any_eq_true];exact⟨x,HMEM.o,HO.o⟩
     clear hq
     go_wp2_with fail
     rw[←hwb]
     clear hwb
     refine(HKC.o).mono ?_
     rintro e w5 ⟨rfl,hb5⟩
     have HB5:=AQ (HB0.o.trans ((HBb.o.trans (hb5.mono HBb.o.size)).mono HB0.o.size))
     clear hb5 c0 c1 c2 d0 d1 d2
     go_wp2_with fail
     go_ret
     exact⟨dU HRT.o.symm,HB5.o⟩
    ·have HJ2:Hid ((W.ps.take (j+1)).any (DN V W)=false):=by rw[Hid,HS.o,HJ.o,HO.o];simpa using hq
     have hq2:b1=false∨b2=true:=by cases b1<;>cases b2<;>simp_all
     clear hq
     rcases hq2 with rfl |rfl
     ·go_wp2_with fail
      rw[←hwb]
      clear hwb
      refine(HKC.o).mono ?_
      rintro e w5 ⟨rfl,hb5⟩
      have HB5:=AQ (HBb.o.trans (hb5.mono HBb.o.size))
      clear hb5 c0 c1 c2 d0 d1 d2
      go_wp2_with fail
      go_roundw
      case rel=>exact⟨j+1,by go_num,by omega,HJ2.o,HB5.o⟩
      case measure=>simp[intOf];omega
     ·go_wp2_with fail
      rw[←hwb]
      clear hwb
      refine(HKC.o).mono ?_
      rintro e w5 ⟨rfl,hb5⟩
      have HB5:=AQ (HBb.o.trans (hb5.mono HBb.o.size))
      clear hb5 c0 c1 c2 d0 d1 d2
      cases b1
      ·go_wp2_with fail
       go_roundw
       case rel=>exact⟨j+1,by go_num,by omega,HJ2.o,HB5.o⟩
       case measure=>simp[intOf];omega
      ·go_wp2_with fail
       go_roundw
       case rel=>exact⟨j+1,by go_num,by omega,HJ2.o,HB5.o⟩
       case measure=>simp[intOf];omega
   ·have hk2:j=W.ps.length:=by omega
    have HRT:Hid (R=0):=by
     have:=HJ.o
     rw[hk2,List.take_length] at this
     rw[Hid,HRF.o,this];rfl
    have HB5:=AQ (HB0.o.trans (HBw.o.mono HB0.o.size))
    clear hk2 B
    go_wp2_with fail
    go_ret
    exact⟨dU HRT.o.symm,HB5.o⟩
open Go Go.RowKit Go.Cit
def Ji (V W:aN) (j:Nat):Bool:=mV V.ps W.ps (j+1:Nat) && !sH V.ps W.ps (j+1:Nat)
def pV (V W:aN):Int:=if Ak V W then (if (List.range 6).any (Ji V W) then 130 else 0) else 2
open Go Go.RowKit Go.Cit
def wU (p:Pt):cO:=⟨p.id,p.reg,p.keep,none,p.img,0⟩
def qj (V:aN):aN:= {V with wa:=none,wc:=0,pa:=none,ps:=V.ps.map fun x=>wU x.pt,pc:=0,ca:=none,cc:=0}
theorem Ci (ps:List cO) (id:Int):iW (ps.map fun x=>wU x.pt) id=iW ps id:=by
 unfold iW;rw[List.any_map];rfl
theorem yg (ps:List cO):eH (ps.map fun x=>wU x.pt)=eH ps:=by
 unfold eH;rw[List.any_map];rfl
theorem KO (ps:List cO):∀m,qm m (ps.map fun x=>wU x.pt)=qm m ps:=by
 induction ps with
 | nil=>intro m;rfl
 | cons x ps ih=>intro m;rw[List.map_cons];unfold qm;rw[ih];rfl
theorem FB (ps:List cO):lS (ps.map fun x=>wU x.pt)=lS ps:=by
 unfold lS
 rw[List.filter_map,List.map_map]
 rfl
theorem BI (V:aN):errs (qj V)=errs V:=by
 have h1:gy (qj V)=gy V:=by
  unfold gy
  congr 2
  funext x
  simp[oQ,qj,Ci]
 have h2:gW (qj V).ps=gW V.ps:=by
  unfold gW qj
  dsimp only
  rw[KO,List.length_map]
 have h3:eH (qj V).ps=eH V.ps:=yg V.ps
 have h4:fK (qj V).ps=fK V.ps:=by
  unfold fK qj
  dsimp only
  rw[FB]
 have h5:fE (qj V)=fE V:=by
  have e:uT (qj V)=uT V:=by
   funext x
   simp[uT,qj,Ci]
  unfold fE
  rw[e]
  rfl
 unfold errs iw qx
 rw[h1,h2,h3,h4,h5]
theorem Ez {V U:aN} (h:U.cfg=V.cfg):errs U=errs V:=by
 rw[←BI U,←BI V]
 congr 1
 simp only[aN.cfg,zk.mk.injEq] at h
 obtain⟨h1,h2,h3⟩:=h
 unfold qj
 have e:(U.ps.map fun x=>wU x.pt)=(V.ps.map fun x=>wU x.pt):=by
  have:=congrArg (List.map wU) h2
  rw[List.map_map,List.map_map] at this
  exact this
 rw[h1,h3,e]
open Go Go.RowKit Go.Cit
structure Good (V:aN):Prop where
 may:Di V.ws=true
 few:1≤V.ps.length∧V.ps.length≤6
 U9:qm 0 V.ps=true
 reg:∀x∈V.ps,kE x.reg=true∧(x.img.length:Int)≤x.reg.size.1
 apart:qA (V.ps.map (·.reg))=0
 win:∀x∈V.ws,x.part.1=0∨iW V.ps x.part.1=true
 VE:V.cs.length≤8
 chk:uy V.cs=0
 ends:∀x∈V.cs,iW V.ps x.src.1=true∧iW V.ps x.dst.1=true
theorem Pg {V:aN}:errs V=[]↔gy V=false∧gW V.ps=false∧eH V.ps=false∧fK V.ps=false∧fE V=false:=by
 unfold errs iw qx
 cases gy V<;>cases gW V.ps<;>cases eH V.ps<;>cases fK V.ps<;>cases fE V<;>simp
theorem BP {ps:List cO} (h:∀x∈ps,kE x.reg=true):lS ps=ps.map (·.reg):=by
 unfold lS
 rw[List.filter_eq_self.2 h]
theorem zo {ps:List cO}:eH ps=false↔∀x∈ps,kE x.reg=true∧(x.img.length:Int)≤x.reg.size.1:=by
 unfold eH
 rw[List.any_eq_false]
 refine forall_congr' fun x=>forall_congr' fun _=> ?_
 unfold wO
 cases kE x.reg<;>simp
theorem FN {V:aN}:errs V=[]↔Good V:=by
 rw[Pg]
 have e1:gy V=false↔Di V.ws=true∧∀x∈V.ws,x.part.1=0∨iW V.ps x.part.1=true:=by
  unfold gy
  rw[Bool.or_eq_false_iff,List.any_eq_false]
  refine and_congr AO (forall_congr' fun x=>forall_congr' fun _=> ?_)
  unfold oQ
  cases iW V.ps x.part.1<;>simp
 have e2:gW V.ps=false↔(1≤V.ps.length∧V.ps.length≤6)∧qm 0 V.ps=true:=by
  unfold gW
  rw[Bool.or_eq_false_iff]
  refine and_congr ?_ AO
  rw[decide_eq_false_iff_not];omega
 have e5:fE V=false↔V.cs.length≤8∧uy V.cs=0∧∀x∈V.cs,iW V.ps x.src.1=true∧iW V.ps x.dst.1=true:=by
  unfold fE
  rw[Bool.or_eq_false_iff,Bool.or_eq_false_iff,List.any_eq_false]
  refine and_congr AO (and_congr AO (forall_congr' fun x=>forall_congr' fun _=> ?_))
  unfold uT
  cases iW V.ps x.src.1<;>cases iW V.ps x.dst.1<;>simp
 rw[e1,e2,e5,zo]
 constructor
 ·rintro⟨⟨a,b⟩,⟨c,d⟩,e,f,g,h,i⟩
  refine⟨a,c,d,e, ?_,b,g,h,i⟩
  unfold fK at f
  rw[BP (fun x hx=>(e x hx).1)] at f
  simpa using f
 ·rintro⟨a,c,d,e,f,b,g,h,i⟩
  refine⟨⟨a,b⟩,⟨c,d⟩,e, ?_,g,h,i⟩
  unfold fK
  rw[BP (fun x hx=>(e x hx).1)]
  simpa using f
theorem IB:∀(ps:List cO) (last:Int),qm last ps=true→∀x∈ps,last<x.id.1∧x.id.1≤6
 | [],_,_,x,hx=>by simp at hx
 |
  y::r,last,h,x,hx=>by
  rw[qm,Bool.and_eq_true,decide_eq_true_eq] at h
  rcases List.mem_cons.1 hx with rfl |hx
  ·exact h.1
  ·have:=IB r _ h.2 x hx;omega
theorem Good.ids {V:aN} (h:Good V):∀x∈V.ps,1≤x.id.1∧x.id.1≤6:=fun x hx=>by
 have:=IB _ _ h.U9 x hx;omega
theorem Gl:∀(ps:List cO) (last:Int),qm last ps=true→∀k (hk:k<ps.length),ps.find? (fun x=>decide (x.id.1=ps[k].id.1))=some ps[k]
 | [],_,_,k,hk=>by simp at hk
 |
  y::r,last,h,k,hk=>by
  rw[qm,Bool.and_eq_true,decide_eq_true_eq] at h
  cases k with
  | zero=>simp
  |
   succ k=>
   have hk':k<r.length:=by simpa using hk
   have:=IB r _ h.2 r[k] (List.getElem_mem hk')
   rw[List.find?_cons_of_neg]
   ·simpa using Gl r _ h.2 k hk'
   ·simp;omega
theorem Good.part {V:aN} (h:Good V) (k:Nat) (hk:k<V.ps.length):qW V.ps V.ps[k].id.1=V.ps[k].pt:=by
 unfold qW;rw[Gl _ _ h.U9 k hk];rfl
end Go.Proofs.YtlholdllibghbaaGreat
