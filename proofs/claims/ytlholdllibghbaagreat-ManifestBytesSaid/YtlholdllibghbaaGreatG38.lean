/- Texts of the proof, one behind the other: Surv, OddR, ErrsCfg, Good. No condition but those that each names. -/
import Derived.Test.YtlholdllibghbaaGreatG37
import Derived.Test.YtlholdllibghbaaGreatG32
import Derived.Test.YtlholdllibghbaaGreatG13
import Derived.Test.YtlholdllibghbaaGreatG12
import Derived.Test.YtlholdllibghbaaGreatKit
set_option maxRecDepth 100000
set_option maxHeartbeats 8000000
namespace Go.Proofs.YtlholdllibghbaaGreat
open Go Go.RowKit Go.Cit
def DT (V W:aO) (x:dL):Bool:=nK V.ps W.ps x.id.1 && !sZ V.ps W.ps x.id.1
def DV (V W:aO):Int:=if BK V W then (if W.ps.any (DT V W) then 130 else 0) else 2
theorem Ew (w:World) (V W:aO) (h:V.At w) (k:W.At w) (hs:cu V) (ks:cu W):Calls Tryz.prog 76 #[.agg #[.slice V.wa V.ws.length V.wc, .slice V.pa V.ps.length V.pc, .slice V.ca V.cs.length V.cc], .agg #[.slice W.wa W.ws.length W.wc, .slice W.pa W.ps.length W.pc, .slice W.ca W.cs.length W.cc]] w fun e w'=>e= .returned (.int .i64 (DV V W))∧Below w.heap.size w w':=by
 obtain⟨w0,hw0⟩:=AV ((w.alloc (.cells #[.slice V.wa V.ws.length V.wc, .slice V.pa V.ps.length V.pc, .slice V.ca V.cs.length V.cc] 26)).alloc (.cells #[.slice W.wa W.ws.length W.wc, .slice W.pa W.ps.length W.pc, .slice W.ca W.cs.length W.cc] 26))
 have B0:Below w.heap.size w w0:=by rw[hw0];exact((Below.refl _ w).alloc (Nat.le_refl _) _).alloc AO _
 have hI:=zx w V W
 rw[←hw0] at hI
 have HI:=AQ hI
 have HV:=AQ (h.stay B0)
 have HK:=AQ (k.stay B0)
 have HB0:=AQ B0
 have hlen:=k.pts.bK
 have hf:=IL w0 V W (h.stay B0) (k.stay B0) hs ks
 obtain⟨f2,hf2⟩:=AU (BK V W)
 rw[←hf2.o] at hf
 have HF:=AQ hf
 obtain⟨R,hR⟩:=AU (DV V W)
 have HR:Hid (R=if f2 then (if W.ps.any (DT V W) then 130 else 0) else 2):=by rw[Hid,hR.o,hf2.o];rfl
 rw[←hR.o]
 clear h k B0 hI hf
 obtain⟨⟨c0,c1,c2⟩,⟨d0,d1,d2⟩⟩:=HI.o
 cases f2 with
 |
  false=>
  have HRF:Hid (R=2):=HR.o
  go_enter Tryz.func76,Tryz.ntmps76
  go_wp2_with fail
  rw[←hw0]
  clear hw0
  refine(HF.o).mono ?_
  rintro e w1 ⟨rfl,hb1⟩
  have HB1:=AQ (HB0.o.trans (hb1.mono HB0.o.size))
  clear hb1 c0 c1 c2 d0 d1 d2
  go_wp2_with fail
  go_ret
  exact⟨dX HRF.o.symm,HB1.o⟩
 |
  true=>
  have HRF:Hid (R=if W.ps.any (DT V W) then 130 else 0):=HR.o
  go_enter Tryz.func76,Tryz.ntmps76
  go_wp2_with fail
  rw[←hw0]
  clear hw0
  refine(HF.o).mono ?_
  rintro e w1 ⟨rfl,hb1⟩
  have HB1:=AQ hb1
  clear c0 c1 c2 d0 d1 d2
  obtain⟨d0,d1,d2⟩:=HI.o.2.keep hb1
  clear hb1
  go_wp2_with fail
  go_loopw [16] (fun i wr=>∃(j:Nat),i= .int .i64 j∧j≤W.ps.length∧Hid ((W.ps.take j).any (DT V W)=false)∧Below w0.heap.size w0 wr) (fun i _=>W.ps.length-(intOf i).toNat)
  case atStart=>exact⟨0,rfl,Nat.zero_le _,by rw[Hid];simp,HB1.o⟩
  case round=>
   obtain⟨j,rfl,hj,HJ,B⟩:=hrel
   have HBw:=AQ B
   by_cases hlt:j<W.ps.length
   ·have hkw:=HK.o.stay B
    have i0:=hkw.pts.index Di j hlt
    obtain⟨u0,u1,u2,u3,u4⟩:=dh hkw.pts (Below.refl _ _) j hlt
    have HS:=AQ (Fa (DT V W) W.ps j hlt)
    have HMEM:Hid (W.ps[j]∈W.ps):=List.getElem_mem hlt
    obtain⟨x,hx⟩:∃x,Hid (x=W.ps[j]):=⟨W.ps[j],rfl⟩
    rw[←hx.o] at u0 u1 u2 u3 u4 HS HMEM
    obtain⟨wb,hwb⟩:=AV (wr.alloc (.cells (cA x) 46))
    have hbb:Below wr.heap.size wr wb:=by rw[hwb];exact(Below.refl _ _).alloc (Nat.le_refl _) _
    have HBb:=AQ (B.trans (hbb.mono B.size))
    obtain⟨c0,c1,c2⟩:=HI.o.1.keep HBb.o
    obtain⟨d0,d1,d2⟩:=HI.o.2.keep HBb.o
    rw[hwb] at c0 c1 c2 d0 d1 d2
    obtain⟨b1,hb1⟩:=AU (nK V.ps W.ps x.id.1)
    obtain⟨b2,hb2⟩:=AU (sZ V.ps W.ps x.id.1)
    have hkc:=Jo wb V W (HV.o.stay HBb.o) (HK.o.stay HBb.o) hs ks x.id.1
    rw[←hb1.o,←hb2.o] at hkc
    have HKC:=AQ hkc
    have HO:Hid (DT V W x=(b1 && !b2)):=by rw[Hid,hb1.o,hb2.o];rfl
    clear hkw hbb hkc B
    by_cases hq:(b1 && !b2)=true
    ·obtain⟨rfl,rfl⟩:b1=true∧b2=false:=by cases b1<;>cases b2<;>simp_all
     have HRT:Hid (R=130):=by
      rw[Hid,HRF.o,if_pos]
      rw[List.any_eq_true];exact⟨x,HMEM.o,HO.o⟩
     clear hq
     go_wp2_with fail
     rw[←hwb]
     clear hwb
     refine(HKC.o).mono ?_
     rintro e w5 ⟨rfl,hb5⟩
     have HB5:=AQ (HB0.o.trans ((HBb.o.trans (hb5.mono HBb.o.size)).mono HB0.o.size))
     clear hb5 c0 c1 c2 d0 d1 d2
     go_wp2_with fail
     go_ret
     exact⟨dX HRT.o.symm,HB5.o⟩
    ·have HJ2:Hid ((W.ps.take (j+1)).any (DT V W)=false):=by rw[Hid,HS.o,HJ.o,HO.o];simpa using hq
     have hq2:b1=false∨b2=true:=by cases b1<;>cases b2<;>simp_all
     clear hq
     rcases hq2 with rfl |rfl
     ·go_wp2_with fail
      rw[←hwb]
      clear hwb
      refine(HKC.o).mono ?_
      rintro e w5 ⟨rfl,hb5⟩
      have HB5:=AQ (HBb.o.trans (hb5.mono HBb.o.size))
      clear hb5 c0 c1 c2 d0 d1 d2
      go_wp2_with fail
      go_roundw
      case rel=>exact⟨j+1,by go_num,by omega,HJ2.o,HB5.o⟩
      case measure=>simp[intOf];omega
     ·go_wp2_with fail
      rw[←hwb]
      clear hwb
      refine(HKC.o).mono ?_
      rintro e w5 ⟨rfl,hb5⟩
      have HB5:=AQ (HBb.o.trans (hb5.mono HBb.o.size))
      clear hb5 c0 c1 c2 d0 d1 d2
      cases b1
      ·go_wp2_with fail
       go_roundw
       case rel=>exact⟨j+1,by go_num,by omega,HJ2.o,HB5.o⟩
       case measure=>simp[intOf];omega
      ·go_wp2_with fail
       go_roundw
       case rel=>exact⟨j+1,by go_num,by omega,HJ2.o,HB5.o⟩
       case measure=>simp[intOf];omega
   ·have hk2:j=W.ps.length:=by omega
    have HRT:Hid (R=0):=by
     have:=HJ.o
     rw[hk2,List.take_length] at this
     rw[Hid,HRF.o,this];rfl
    have HB5:=AQ (HB0.o.trans (HBw.o.mono HB0.o.size))
    clear hk2 B
    go_wp2_with fail
    go_ret
    exact⟨dX HRT.o.symm,HB5.o⟩
open Go Go.RowKit Go.Cit
def Ju (V W:aO) (j:Nat):Bool:=nK V.ps W.ps (j+1:Nat) && !sZ V.ps W.ps (j+1:Nat)
def o7 (V W:aO):Int:=if BK V W then (if (List.range 6).any (Ju V W) then 130 else 0) else 2
open Go Go.RowKit Go.Cit
def yj (p:Pt):dL:=⟨p.id,p.reg,p.keep,none,p.img,0⟩
def qh (V:aO):aO:= {V with wa:=none,wc:=0,pa:=none,ps:=V.ps.map fun x=>yj x.pt,pc:=0,ca:=none,cc:=0}
theorem CG (ps:List dL) (id:Int):jd (ps.map fun x=>yj x.pt) id=jd ps id:=by
 unfold jd;rw[List.any_map];rfl
theorem yw (ps:List dL):fB (ps.map fun x=>yj x.pt)=fB ps:=by
 unfold fB;rw[List.any_map];rfl
theorem Me (ps:List dL):∀m,qE m (ps.map fun x=>yj x.pt)=qE m ps:=by
 induction ps with
 | nil=>intro m;rfl
 | cons x ps ih=>intro m;rw[List.map_cons];unfold qE;rw[ih];rfl
theorem Ie (ps:List dL):lM (ps.map fun x=>yj x.pt)=lM ps:=by
 unfold lM
 rw[List.filter_map,List.map_map]
 rfl
theorem Dw (V:aO):errs (qh V)=errs V:=by
 have h1:gG (qh V)=gG V:=by
  unfold gG
  congr 2
  funext x
  simp[pF,qh,CG]
 have h2:gY (qh V).ps=gY V.ps:=by
  unfold gY qh
  dsimp only
  rw[Me,List.length_map]
 have h3:fB (qh V).ps=fB V.ps:=yw V.ps
 have h4:fU (qh V).ps=fU V.ps:=by
  unfold fU qh
  dsimp only
  rw[Ie]
 have h5:fH (qh V)=fH V:=by
  have e:wE (qh V)=wE V:=by
   funext x
   simp[wE,qh,CG]
  unfold fH
  rw[e]
  rfl
 unfold errs iG qB
 rw[h1,h2,h3,h4,h5]
theorem Fg {V U:aO} (h:U.cfg=V.cfg):errs U=errs V:=by
 rw[←Dw U,←Dw V]
 congr 1
 simp only[aO.cfg,Bq.mk.injEq] at h
 obtain⟨h1,h2,h3⟩:=h
 unfold qh
 have e:(U.ps.map fun x=>yj x.pt)=(V.ps.map fun x=>yj x.pt):=by
  have:=congrArg (List.map yj) h2
  rw[List.map_map,List.map_map] at this
  exact this
 rw[h1,h3,e]
open Go Go.RowKit Go.Cit
structure Good (V:aO):Prop where
 may:DU V.ws=true
 few:1≤V.ps.length∧V.ps.length≤6
 Vb:qE 0 V.ps=true
 reg:∀x∈V.ps,kE x.reg=true∧(x.img.length:Int)≤x.reg.size.1
 apart:qV (V.ps.map (·.reg))=0
 win:∀x∈V.ws,x.part.1=0∨jd V.ps x.part.1=true
 VP:V.cs.length≤8
 chk:uH V.cs=0
 ends:∀x∈V.cs,jd V.ps x.src.1=true∧jd V.ps x.dst.1=true
theorem Oh {V:aO}:errs V=[]↔gG V=false∧gY V.ps=false∧fB V.ps=false∧fU V.ps=false∧fH V=false:=by
 unfold errs iG qB
 cases gG V<;>cases gY V.ps<;>cases fB V.ps<;>cases fU V.ps<;>cases fH V<;>simp
theorem CW {ps:List dL} (h:∀x∈ps,kE x.reg=true):lM ps=ps.map (·.reg):=by
 unfold lM
 rw[List.filter_eq_self.2 h]
theorem Bl {ps:List dL}:fB ps=false↔∀x∈ps,kE x.reg=true∧(x.img.length:Int)≤x.reg.size.1:=by
 unfold fB
 rw[List.any_eq_false]
 refine forall_congr' fun x=>forall_congr' fun _=> ?_
 unfold wV
 cases kE x.reg<;>simp
theorem F7 {V:aO}:errs V=[]↔Good V:=by
 rw[Oh]
 have e1:gG V=false↔DU V.ws=true∧∀x∈V.ws,x.part.1=0∨jd V.ps x.part.1=true:=by
  unfold gG
  rw[Bool.or_eq_false_iff,List.any_eq_false]
  refine and_congr AO (forall_congr' fun x=>forall_congr' fun _=> ?_)
  unfold pF
  cases jd V.ps x.part.1<;>simp
 have e2:gY V.ps=false↔(1≤V.ps.length∧V.ps.length≤6)∧qE 0 V.ps=true:=by
  unfold gY
  rw[Bool.or_eq_false_iff]
  refine and_congr ?_ AO
  rw[decide_eq_false_iff_not];omega
 have e5:fH V=false↔V.cs.length≤8∧uH V.cs=0∧∀x∈V.cs,jd V.ps x.src.1=true∧jd V.ps x.dst.1=true:=by
  unfold fH
  rw[Bool.or_eq_false_iff,Bool.or_eq_false_iff,List.any_eq_false]
  refine and_congr AO (and_congr AO (forall_congr' fun x=>forall_congr' fun _=> ?_))
  unfold wE
  cases jd V.ps x.src.1<;>cases jd V.ps x.dst.1<;>simp
 rw[e1,e2,e5,Bl]
 constructor
 ·rintro⟨⟨a,b⟩,⟨c,d⟩,e,f,g,h,i⟩
  refine⟨a,c,d,e, ?_,b,g,h,i⟩
  unfold fU at f
  rw[CW (fun x hx=>(e x hx).1)] at f
  simpa using f
 ·rintro⟨a,c,d,e,f,b,g,h,i⟩
  refine⟨⟨a,b⟩,⟨c,d⟩,e, ?_,g,h,i⟩
  unfold fU
  rw[CW (fun x hx=>(e x hx).1)]
  simpa using f
theorem JF:∀(ps:List dL) (last:Int),qE last ps=true→∀x∈ps,last<x.id.1∧x.id.1≤6
 | [],_,_,x,hx=>by simp at hx
 |
  y::r,last,h,x,hx=>by
  rw[qE,Bool.and_eq_true,decide_eq_true_eq] at h
  rcases List.mem_cons.1 hx with rfl |hx
  ·exact h.1
  ·have:=JF r _ h.2 x hx;omega
theorem Good.ids {V:aO} (h:Good V):∀x∈V.ps,1≤x.id.1∧x.id.1≤6:=fun x hx=>by
 have:=JF _ _ h.Vb x hx;omega
theorem GK:∀(ps:List dL) (last:Int),qE last ps=true→∀k (hk:k<ps.length),ps.find? (fun x=>decide (x.id.1=ps[k].id.1))=some ps[k]
 | [],_,_,k,hk=>by simp at hk
 |
  y::r,last,h,k,hk=>by
  rw[qE,Bool.and_eq_true,decide_eq_true_eq] at h
  cases k with
  | zero=>simp
  |
   succ k=>
   have hk':k<r.length:=by simpa using hk
   have:=JF r _ h.2 r[k] (List.getElem_mem hk')
   rw[List.find?_cons_of_neg]
   ·simpa using GK r _ h.2 k hk'
   ·simp;omega
theorem Good.part {V:aO} (h:Good V) (k:Nat) (hk:k<V.ps.length):qQ V.ps V.ps[k].id.1=V.ps[k].pt:=by
 unfold qQ;rw[GK _ _ h.Vb k hk];rfl
end Go.Proofs.YtlholdllibghbaaGreat
