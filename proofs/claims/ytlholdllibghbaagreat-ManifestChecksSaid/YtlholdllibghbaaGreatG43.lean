/- Texts of the proof, one behind the other: RefSurv, ErrsCfg, Good, ManChk1. No condition but those that each names. -/
import Derived.Test.YtlholdllibghbaaGreatG42
import Derived.Test.YtlholdllibghbaaGreatG13
import Derived.Test.YtlholdllibghbaaGreatG33
import Derived.Test.YtlholdllibghbaaGreatG12
import Derived.Test.YtlholdllibghbaaGreatG38
import Derived.Test.YtlholdllibghbaaGreatG39
import Derived.Test.YtlholdllibghbaaGreatKit
set_option maxRecDepth 100000
set_option maxHeartbeats 8000000
namespace Go.Proofs.YtlholdllibghbaaGreat
open Go Go.RowKit Go.Cit
theorem Ht (w:World) (V W:aS) (h:V.At w) (k:W.At w) (hs:bV V) (ks:bV W):Calls Tryz.prog 78 #[.agg #[.slice V.wa V.ws.length V.wc, .slice V.pa V.ps.length V.pc, .slice V.ca V.cs.length V.cc], .agg #[.slice W.wa W.ws.length W.wc, .slice W.pa W.ps.length W.pc, .slice W.ca W.cs.length W.cc]] w fun e w'=>e= .returned (.int .i64 (nS V W))∧Below w.heap.size w w':=by
 obtain⟨w0,hw0⟩:=AV ((w.alloc (.cells #[.slice V.wa V.ws.length V.wc, .slice V.pa V.ps.length V.pc, .slice V.ca V.cs.length V.cc] 26)).alloc (.cells #[.slice W.wa W.ws.length W.wc, .slice W.pa W.ps.length W.pc, .slice W.ca W.cs.length W.cc] 26))
 have B0:Below w.heap.size w w0:=by rw[hw0];exact((Below.refl _ w).alloc (Nat.le_refl _) _).alloc AO _
 have hI:=FV w V W
 rw[←hw0] at hI
 have HI:=AQ hI
 have HV:=AQ (h.stay B0)
 have HK:=AQ (k.stay B0)
 have HB0:=AQ B0
 have hf:=GI w0 V W (h.stay B0) (k.stay B0) hs ks
 obtain⟨f2,hf2⟩:=AU (xY V W)
 rw[←hf2.o] at hf
 have HF:=AQ hf
 obtain⟨R,hR⟩:=AU (nS V W)
 have HR:Hid (R=if f2 then (if (List.range 6).any (vG V W) then 130 else 0) else 2):=by rw[Hid,hR.o,hf2.o];rfl
 rw[←hR.o]
 clear h k B0 hI hf
 obtain⟨⟨c0,c1,c2⟩,⟨d0,d1,d2⟩⟩:=HI.o
 go_enter Tryz.func78,Tryz.ntmps78
 go_wp2_with fail
 rw[←hw0]
 clear hw0
 refine(HF.o).mono ?_
 rintro e w1 ⟨rfl,hb1⟩
 have HB1:=AQ hb1
 clear hb1 c0 c1 c2 d0 d1 d2
 cases f2 with
 |
  false=>
  have HRF:Hid (R=2):=HR.o
  go_wp2_with fail
  go_ret
  exact⟨dB HRF.o.symm,HB0.o.trans (HB1.o.mono HB0.o.size)⟩
 |
  true=>
  have HRF:Hid (R=if (List.range 6).any (vG V W) then 130 else 0):=HR.o
  go_wp2_with fail
  go_loopw [5] (fun i wr=>∃(j:Nat),i= .int .i64 (j+1:Nat)∧j≤6∧Hid ((List.range j).any (vG V W)=false)∧Below w0.heap.size w0 wr) (fun i _=>7-(intOf i).toNat)
  case atStart=>exact⟨0,rfl,Nat.zero_le _,by rw[Hid];simp,HB1.o⟩
  case round=>
   obtain⟨j,rfl,hj,HJ,B⟩:=hrel
   have HBw:=AQ B
   by_cases hlt:j<6
   ·obtain⟨c0,c1,c2⟩:=HI.o.1.keep B
    obtain⟨d0,d1,d2⟩:=HI.o.2.keep B
    have hp:=Ee wr V W (HV.o.stay B) (HK.o.stay B) ((j+1:Nat):Int)
    obtain⟨b,hb0⟩:=AU (kM V.ps W.ps ((j+1:Nat):Int))
    rw[←hb0.o] at hp
    have HP:=AQ hp
    clear hp B
    go_wp2_with fail
    refine(HP.o).mono ?_
    rintro e w2 ⟨X,Y,rfl,hxy,hb2⟩
    have HB2:=AQ (HBw.o.trans (hb2.mono HBw.o.size))
    have HXY:=AQ hxy
    have HS:=AQ (range_any (vG V W) j)
    clear hb2 hxy c0 c1 c2 d0 d1 d2
    cases b with
    |
     false=>
     have HJ2:Hid ((List.range (j+1)).any (vG V W)=false):=by rw[Hid,HS.o,HJ.o];unfold vG;rw[←hb0.o];rfl
     go_wp2_with fail
     go_roundw
     case rel=>exact⟨j+1,by go_num,by omega,HJ2.o,((HB2.o.alloc (by exact HB2.o.size) _).alloc (by simp;have:=HB2.o.size;omega) _)⟩
     case measure=>simp[intOf];omega
    |
     true=>
     have HO:Hid (vG V W j= !decide (X.reg.size.1=Y.reg.size.1)):=by
      have hxy:=HXY.o rfl
      rw[Hid];unfold vG tu;rw[←hb0.o,hxy.1,hxy.2];rfl
     by_cases hpq:X.reg.size.1=Y.reg.size.1
     ·have HJ2:Hid ((List.range (j+1)).any (vG V W)=false):=by rw[Hid,HS.o,HJ.o,HO.o,decide_eq_true hpq];rfl
      have t1:((X.reg.size.1:Int) !=Y.reg.size.1)=false:=by rw[hpq];simp
      clear hpq
      go_wp2_with fail
      go_roundw
      case rel=>exact⟨j+1,by go_num,by omega,HJ2.o,((HB2.o.alloc (by exact HB2.o.size) _).alloc (by simp;have:=HB2.o.size;omega) _)⟩
      case measure=>simp[intOf];omega
     ·have HRT:Hid (R=130):=by
       rw[Hid,HRF.o,if_pos]
       rw[List.any_eq_true];exact⟨j,List.mem_range.2 hlt,by rw[HO.o,decide_eq_false hpq];rfl⟩
      have t1:((X.reg.size.1:Int) !=Y.reg.size.1)=true:=by simpa using hpq
      clear hpq
      go_wp2_with fail
      go_ret
      exact⟨dB HRT.o.symm,HB0.o.trans (((HB2.o.alloc (by exact HB2.o.size) _).alloc (by simp;have:=HB2.o.size;omega) _).mono HB0.o.size)⟩
   ·have hk2:j=6:=by omega
    have HRT:Hid (R=0):=by
     have:=HJ.o
     rw[hk2] at this
     rw[Hid,HRF.o,this];rfl
    have HB5:=AQ (HB0.o.trans (HBw.o.mono HB0.o.size))
    subst hk2
    clear B
    go_wp2_with fail
    go_ret
    exact⟨dB HRT.o.symm,HB5.o⟩
open Go Go.RowKit Go.Cit
def zF (p:Pt):dD:=⟨p.id,p.reg,p.keep,none,p.img,0⟩
def sU (V:aS):aS:= {V with wa:=none,wc:=0,pa:=none,ps:=V.ps.map fun x=>zF x.pt,pc:=0,ca:=none,cc:=0}
theorem Fe (ps:List dD) (id:Int):iH (ps.map fun x=>zF x.pt) id=iH ps id:=by
 unfold iH;rw[List.any_map];rfl
theorem Am (ps:List dD):fB (ps.map fun x=>zF x.pt)=fB ps:=by
 unfold fB;rw[List.any_map];rfl
theorem Pq (ps:List dD):∀m,pV m (ps.map fun x=>zF x.pt)=pV m ps:=by
 induction ps with
 | nil=>intro m;rfl
 | cons x ps ih=>intro m;rw[List.map_cons];unfold pV;rw[ih];rfl
theorem J8 (ps:List dD):iV (ps.map fun x=>zF x.pt)=iV ps:=by
 unfold iV
 rw[List.filter_map,List.map_map]
 rfl
theorem EW (V:aS):errs (sU V)=errs V:=by
 have h1:fV (sU V)=fV V:=by
  unfold fV
  congr 2
  funext x
  simp[kJ,sU,Fe]
 have h2:gZ (sU V).ps=gZ V.ps:=by
  unfold gZ sU
  dsimp only
  rw[Pq,List.length_map]
 have h3:fB (sU V).ps=fB V.ps:=Am V.ps
 have h4:dO (sU V).ps=dO V.ps:=by
  unfold dO sU
  dsimp only
  rw[J8]
 have h5:dX (sU V)=dX V:=by
  have e:pR (sU V)=pR V:=by
   funext x
   simp[pR,sU,Fe]
  unfold dX
  rw[e]
  rfl
 unfold errs dh lC
 rw[h1,h2,h3,h4,h5]
theorem IZ {V U:aS} (h:U.cfg=V.cfg):errs U=errs V:=by
 rw[←EW U,←EW V]
 congr 1
 simp only[aS.cfg,CV.mk.injEq] at h
 obtain⟨h1,h2,h3⟩:=h
 unfold sU
 have e:(U.ps.map fun x=>zF x.pt)=(V.ps.map fun x=>zF x.pt):=by
  have:=congrArg (List.map zF) h2
  rw[List.map_map,List.map_map] at this
  exact this
 rw[h1,h3,e]
open Go Go.RowKit Go.Cit
structure Good (V:aS):Prop where
 may:wK V.ws=true
 few:1≤V.ps.length∧V.ps.length≤6
 XM:pV 0 V.ps=true
 reg:∀x∈V.ps,ig x.reg=true∧(x.img.length:Int)≤x.reg.size.1
 apart:rV (V.ps.map (·.reg))=0
 win:∀x∈V.ws,x.part.1=0∨iH V.ps x.part.1=true
 YF:V.cs.length≤8
 chk:mY V.cs=0
 ends:∀x∈V.cs,iH V.ps x.src.1=true∧iH V.ps x.dst.1=true
theorem RV {V:aS}:errs V=[]↔fV V=false∧gZ V.ps=false∧fB V.ps=false∧dO V.ps=false∧dX V=false:=by
 unfold errs dh lC
 cases fV V<;>cases gZ V.ps<;>cases fB V.ps<;>cases dO V.ps<;>cases dX V<;>simp
theorem EN {ps:List dD} (h:∀x∈ps,ig x.reg=true):iV ps=ps.map (·.reg):=by
 unfold iV
 rw[List.filter_eq_self.2 h]
theorem Dh {ps:List dD}:fB ps=false↔∀x∈ps,ig x.reg=true∧(x.img.length:Int)≤x.reg.size.1:=by
 unfold fB
 rw[List.any_eq_false]
 refine forall_congr' fun x=>forall_congr' fun _=> ?_
 unfold nP
 cases ig x.reg<;>simp
theorem Ir {V:aS}:errs V=[]↔Good V:=by
 rw[RV]
 have e1:fV V=false↔wK V.ws=true∧∀x∈V.ws,x.part.1=0∨iH V.ps x.part.1=true:=by
  unfold fV
  rw[Bool.or_eq_false_iff,List.any_eq_false]
  refine and_congr AO (forall_congr' fun x=>forall_congr' fun _=> ?_)
  unfold kJ
  cases iH V.ps x.part.1<;>simp
 have e2:gZ V.ps=false↔(1≤V.ps.length∧V.ps.length≤6)∧pV 0 V.ps=true:=by
  unfold gZ
  rw[Bool.or_eq_false_iff]
  refine and_congr ?_ AO
  rw[decide_eq_false_iff_not];omega
 have e5:dX V=false↔V.cs.length≤8∧mY V.cs=0∧∀x∈V.cs,iH V.ps x.src.1=true∧iH V.ps x.dst.1=true:=by
  unfold dX
  rw[Bool.or_eq_false_iff,Bool.or_eq_false_iff,List.any_eq_false]
  refine and_congr AO (and_congr AO (forall_congr' fun x=>forall_congr' fun _=> ?_))
  unfold pR
  cases iH V.ps x.src.1<;>cases iH V.ps x.dst.1<;>simp
 rw[e1,e2,e5,Dh]
 constructor
 ·rintro⟨⟨a,b⟩,⟨c,d⟩,e,f,g,h,i⟩
  refine⟨a,c,d,e, ?_,b,g,h,i⟩
  unfold dO at f
  rw[EN (fun x hx=>(e x hx).1)] at f
  simpa using f
 ·rintro⟨a,c,d,e,f,b,g,h,i⟩
  refine⟨⟨a,b⟩,⟨c,d⟩,e, ?_,g,h,i⟩
  unfold dO
  rw[EN (fun x hx=>(e x hx).1)]
  simpa using f
theorem Lm:∀(ps:List dD) (last:Int),pV last ps=true→∀x∈ps,last<x.id.1∧x.id.1≤6
 | [],_,_,x,hx=>by simp at hx
 |
  y::r,last,h,x,hx=>by
  rw[pV,Bool.and_eq_true,decide_eq_true_eq] at h
  rcases List.mem_cons.1 hx with rfl |hx
  ·exact h.1
  ·have:=Lm r _ h.2 x hx;omega
theorem Good.ids {V:aS} (h:Good V):∀x∈V.ps,1≤x.id.1∧x.id.1≤6:=fun x hx=>by
 have:=Lm _ _ h.XM x hx;omega
theorem Jz:∀(ps:List dD) (last:Int),pV last ps=true→∀k (hk:k<ps.length),ps.find? (fun x=>decide (x.id.1=ps[k].id.1))=some ps[k]
 | [],_,_,k,hk=>by simp at hk
 |
  y::r,last,h,k,hk=>by
  rw[pV,Bool.and_eq_true,decide_eq_true_eq] at h
  cases k with
  | zero=>simp
  |
   succ k=>
   have hk':k<r.length:=by simpa using hk
   have:=Lm r _ h.2 r[k] (List.getElem_mem hk')
   rw[List.find?_cons_of_neg]
   ·simpa using Jz r _ h.2 k hk'
   ·simp;omega
theorem Good.part {V:aS} (h:Good V) (k:Nat) (hk:k<V.ps.length):nD V.ps V.ps[k].id.1=V.ps[k].pt:=by
 unfold nD;rw[Jz _ _ h.XM k hk];rfl
open Go Go.RowKit Go.Cit
def V0 (K:CV):aS:=⟨none,K.wins,0,none,K.parts.map (fun p=>⟨p.id,p.reg,p.keep,none,p.img,0⟩),0,none,K.chans,0⟩
theorem G8 (K:CV):(V0 K).cfg=K:=by
 unfold V0 aS.cfg
 rw[List.map_map,show dD.pt∘(fun p:Pt=>(⟨p.id,p.reg,p.keep,none,p.img,0⟩:dD))=id from rfl,List.map_id]
def Oj (K:CV):Int:=uf (V0 K)
def NQ (J K:CV):Int:=nS (V0 J) (V0 K)
def TR (K:CV):Bool:=fitsV (V0 K)
theorem Ih (V:aS):uf V=Oj V.cfg:=by unfold Oj uf;rw[IZ (V:=V) (U:=V0 V.cfg) (G8 _)]
theorem uV (V:aS):fitsV V=TR V.cfg:=by unfold TR fitsV;rw[IZ (V:=V) (U:=V0 V.cfg) (G8 _)]
theorem Bg (ps:List dD) (x:Int):iH ps x=(ps.map dD.pt).any fun p=>decide (p.id.1=x):=by unfold iH;rw[List.any_map];rfl
theorem qj (ps:List dD) (x:Int):nD ps x=((ps.map dD.pt).find? fun p=>decide (p.id.1=x)).getD WH:=by unfold nD;rw[List.find?_map];rfl
theorem Ci (V W:aS):nS V W=NQ V.cfg W.cfg:=by
 have h:∀ {A A' B B':aS},A.cfg=A'.cfg→B.cfg=B'.cfg→nS A B=nS A' B':=by
  intro A A' B B' h1 h2
  have e1:A.ps.map dD.pt=A'.ps.map dD.pt:=congrArg CV.parts h1
  have e2:B.ps.map dD.pt=B'.ps.map dD.pt:=congrArg CV.parts h2
  have eb:∀x,kM A.ps B.ps x=kM A'.ps B'.ps x:=fun x=>by
   unfold kM
   rw[Bg,Bg B.ps,qj,qj B.ps,e1,e2,←Bg,←Bg,←qj,←qj]
  have es:∀x,tu A.ps B.ps x=tu A'.ps B'.ps x:=fun x=>by
   unfold tu
   rw[eb,qj,qj B.ps,e1,e2,←qj,←qj]
  unfold nS xY
  rw[uV,uV B,h1,h2,←uV,←uV,show vG A B=vG A' B' from funext fun j=>by unfold vG;rw[eb,es]]
 exact h (G8 _).symm (G8 _).symm
theorem Qz (ps:List dD) (x:Int):iH ps x=true↔∃y∈ps,y.id.1=x:=by
 unfold iH;rw[List.any_eq_true];simp
theorem P7 {V W:aS}:xY V W=true↔Good V∧Good W:=by
 unfold xY fitsV
 rw[Bool.and_eq_true,decide_eq_true_eq,decide_eq_true_eq,Ir,Ir]
theorem PW {ps qs:List dD} {x:Int} (h:kM ps qs x=true):iH ps x=true∧iH qs x=true:=by
 unfold kM at h
 simp only[Bool.and_eq_true] at h
 exact h.1.1
theorem Qx (V W:aS):GR V W=nS V W:=by
 unfold GR nS
 cases h:xY V W with
 | false=>rfl
 |
  true=>
  have hW:=(P7.1 h).2
  rw[if_pos rfl,if_pos rfl]
  have e:W.ps.any (G6 V W)=(List.range 6).any (vG V W):=by
   rw[Bool.eq_iff_iff,List.any_eq_true,List.any_eq_true]
   constructor
   ·rintro⟨x,hx,hp⟩
    have:=hW.ids x hx
    refine⟨(x.id.1-1).toNat,List.mem_range.2 AL, ?_⟩
    unfold vG
    rw[show(((x.id.1-1).toNat+1:Nat):Int)=x.id.1 by omega]
    exact hp
   ·rintro⟨j,hj,hp⟩
    unfold vG at hp
    have hb:kM V.ps W.ps ((j+1:Nat):Int)=true:=by
     cases hb:kM V.ps W.ps ((j+1:Nat):Int) with
     | true=>rfl
     | false=>rw[hb] at hp;simp at hp
    obtain⟨y,hy,he⟩:=(Qz _ _).1 (PW hb).2
    exact⟨y,hy,by unfold G6;rw[he];exact hp⟩
  rw[e]
def tF (ok:Bool) (n:Int) (v:Value) (w:World):Prop:=∃p q,v= .func (.func 74) #[] #[.pointer (some ⟨p,0,none⟩), .pointer (some ⟨q,0,none⟩)]∧w.cell? ⟨p,0,none⟩=some (.bool ok)∧w.cell? ⟨q,0,none⟩=some (.int .i64 n)
theorem S9 {ok:Bool} {n:Int} {v:Value} {w1 w2:World} (hb:Below w1.heap.size w1 w2) (h:tF ok n v w1):tF ok n v w2:=by
 obtain⟨p,q,h1,h2,h3⟩:=h
 exact⟨p,q,h1,Go.Cit.keep hb h2,Go.Cit.keep hb h3⟩
theorem nZ (w:World) (ok:Bool) (n:Int):Calls Tryz.prog 73 #[.bool ok, .int .i64 n] w fun e w'=>∃v,e= .returned v∧Below w.heap.size w w'∧tF ok n v w':=by
 have hmf:∀(fn:Fn) (first cap:Array Value) (w:World),(Instr.makeFunc fn first cap).run Tryz.prog w= .ok (.func fn first cap) w:=fun _ _ _ _=>rfl
 go_enter Tryz.func73,Tryz.ntmps73
 go_wp2_with fail
 go_ret
 exact⟨_,rfl,((Below.refl _ w).alloc (Nat.le_refl _) _).alloc AO _,w.heap.size,w.heap.size+1,rfl,by simp,by simp⟩
theorem mP (w:World) (ok:Bool) (n:Int) (p q:Nat) (h1:w.cell? ⟨p,0,none⟩=some (.bool ok)) (h2:w.cell? ⟨q,0,none⟩=some (.int .i64 n)):Calls Tryz.prog 74 #[.pointer (some ⟨p,0,none⟩), .pointer (some ⟨q,0,none⟩)] w fun e w'=>e= .returned (.int .i64 (if ok then 0 else n))∧w'=w:=by
 go_enter Tryz.func74,Tryz.ntmps74
 cases ok with
 | true=>go_wp2_with fail;go_ret;exact⟨rfl,rfl⟩
 | false=>go_wp2_with fail;go_ret;exact⟨rfl,rfl⟩
theorem J9 (w:World) (p:Nat) (M:bD) (hI:fE w p M) (h:M.At w) (hs:bV M.cfg):Calls Tryz.prog 75 #[.pointer (some ⟨p,0,none⟩)] w fun e w'=>e= .returned (.int .i64 (Oj M.cfg.cfg))∧Below w.heap.size w w':=by
 have d0:=hI.d0
 have d1:=hI.d1
 have d2:=hI.d2
 have f3:=Pz p
 have hk:=yG w M.cfg h.cfg hs
 rw[Ih] at hk
 have HK:=AQ hk
 clear hk hI h hs
 go_enter Tryz.func75,Tryz.ntmps75
 go_wp2_with fail
 refine(HK.o).mono ?_
 rintro e w1 ⟨rfl,hb1⟩
 go_wp2_with fail
 go_ret
 exact⟨rfl,hb1⟩
end Go.Proofs.YtlholdllibghbaaGreat
