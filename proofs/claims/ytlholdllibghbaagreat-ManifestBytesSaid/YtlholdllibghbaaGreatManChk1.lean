/- manifest.Check's closures: walked; what valid.Check, compat.Check answer hangs on the configurations alone. -/
import Derived.Test.YtlholdllibghbaaGreatG37
import Derived.Test.YtlholdllibghbaaGreatG38
import Derived.Test.YtlholdllibghbaaGreatG15
import Derived.Test.YtlholdllibghbaaGreatG13
import Derived.Test.YtlholdllibghbaaGreatG32
import Derived.Test.YtlholdllibghbaaGreatG10
import Derived.Deep.CutBlock
import Derived.Deep.DeepCutAuto
import Derived.Test.YtlholdllibghbaaGreatG11
import Derived.Test.YtlholdllibghbaaGreatG24
import Derived.Test.YtlholdllibghbaaGreatKit
set_option maxRecDepth 100000
set_option maxHeartbeats 8000000
namespace Go.Proofs.YtlholdllibghbaaGreat
open Go Go.RowKit Go.Cit
def V0 (K:Bq):aO:=⟨none,K.wins,0,none,K.parts.map (fun p=>⟨p.id,p.reg,p.keep,none,p.img,0⟩),0,none,K.chans,0⟩
theorem ES (K:Bq):(V0 K).cfg=K:=by
 unfold V0 aO.cfg
 rw[List.map_map,show dL.pt∘(fun p:Pt=>(⟨p.id,p.reg,p.keep,none,p.img,0⟩:dL))=id from rfl,List.map_id]
def PL (K:Bq):Int:=BM (V0 K)
def OG (J K:Bq):Int:=o7 (V0 J) (V0 K)
def QW (K:Bq):Bool:=fitsV (V0 K)
theorem O4 (V:aO):BM V=PL V.cfg:=by unfold PL BM;rw[Fg (V:=V) (U:=V0 V.cfg) (ES _)]
theorem su (V:aO):fitsV V=QW V.cfg:=by unfold QW fitsV;rw[Fg (V:=V) (U:=V0 V.cfg) (ES _)]
theorem yO (ps:List dL) (x:Int):jd ps x=(ps.map dL.pt).any fun p=>decide (p.id.1=x):=by unfold jd;rw[List.any_map];rfl
theorem nU (ps:List dL) (x:Int):qQ ps x=((ps.map dL.pt).find? fun p=>decide (p.id.1=x)).getD Ux:=by unfold qQ;rw[List.find?_map];rfl
theorem Jm (V W:aO):o7 V W=OG V.cfg W.cfg:=by
 have h:∀ {A A' B B':aO},A.cfg=A'.cfg→B.cfg=B'.cfg→o7 A B=o7 A' B':=by
  intro A A' B B' h1 h2
  have e1:A.ps.map dL.pt=A'.ps.map dL.pt:=congrArg Bq.parts h1
  have e2:B.ps.map dL.pt=B'.ps.map dL.pt:=congrArg Bq.parts h2
  have eb:∀x,nK A.ps B.ps x=nK A'.ps B'.ps x:=fun x=>by
   unfold nK
   rw[yO,yO B.ps,nU,nU B.ps,e1,e2,←yO,←yO,←nU,←nU]
  have es:∀x,sZ A.ps B.ps x=sZ A'.ps B'.ps x:=fun x=>by
   unfold sZ
   rw[eb,nU,nU B.ps,e1,e2,←nU,←nU]
  unfold o7 BK
  rw[su,su B,h1,h2,←su,←su,show Ju A B=Ju A' B' from funext fun j=>by unfold Ju;rw[eb,es]]
 exact h (ES _).symm (ES _).symm
theorem Ob (ps:List dL) (x:Int):jd ps x=true↔∃y∈ps,y.id.1=x:=by
 unfold jd;rw[List.any_eq_true];simp
theorem NU {V W:aO}:BK V W=true↔Good V∧Good W:=by
 unfold BK fitsV
 rw[Bool.and_eq_true,decide_eq_true_eq,decide_eq_true_eq,F7,F7]
theorem Og {ps qs:List dL} {x:Int} (h:nK ps qs x=true):jd ps x=true∧jd qs x=true:=by
 unfold nK at h
 simp only[Bool.and_eq_true] at h
 exact h.1.1
theorem OH (V W:aO):DV V W=o7 V W:=by
 unfold DV o7
 cases h:BK V W with
 | false=>rfl
 |
  true=>
  have hW:=(NU.1 h).2
  rw[if_pos rfl,if_pos rfl]
  have e:W.ps.any (DT V W)=(List.range 6).any (Ju V W):=by
   rw[Bool.eq_iff_iff,List.any_eq_true,List.any_eq_true]
   constructor
   ·rintro⟨x,hx,hp⟩
    have:=hW.ids x hx
    refine⟨(x.id.1-1).toNat,List.mem_range.2 AL, ?_⟩
    unfold Ju
    rw[show(((x.id.1-1).toNat+1:Nat):Int)=x.id.1 by omega]
    exact hp
   ·rintro⟨j,hj,hp⟩
    unfold Ju at hp
    have hb:nK V.ps W.ps ((j+1:Nat):Int)=true:=by
     cases hb:nK V.ps W.ps ((j+1:Nat):Int) with
     | true=>rfl
     | false=>rw[hb] at hp;simp at hp
    obtain⟨y,hy,he⟩:=(Ob _ _).1 (Og hb).2
    exact⟨y,hy,by unfold DT;rw[he];exact hp⟩
  rw[e]
def tF (ok:Bool) (n:Int) (v:Value) (w:World):Prop:=∃p q,v= .func (.func 74) #[] #[.pointer (some ⟨p,0,none⟩), .pointer (some ⟨q,0,none⟩)]∧w.cell? ⟨p,0,none⟩=some (.bool ok)∧w.cell? ⟨q,0,none⟩=some (.int .i64 n)
theorem QC {ok:Bool} {n:Int} {v:Value} {w1 w2:World} (hb:Below w1.heap.size w1 w2) (h:tF ok n v w1):tF ok n v w2:=by
 obtain⟨p,q,h1,h2,h3⟩:=h
 exact⟨p,q,h1,Go.Cit.keep hb h2,Go.Cit.keep hb h3⟩
theorem lX (w:World) (ok:Bool) (n:Int):Calls Tryz.prog 73 #[.bool ok, .int .i64 n] w fun e w'=>∃v,e= .returned v∧Below w.heap.size w w'∧tF ok n v w':=by
 have hmf:∀(fn:Fn) (first cap:Array Value) (w:World),(Instr.makeFunc fn first cap).run Tryz.prog w= .ok (.func fn first cap) w:=fun _ _ _ _=>rfl
 go_enter Tryz.func73,Tryz.ntmps73
 go_wp2_with fail
 go_ret
 exact⟨_,rfl,((Below.refl _ w).alloc (Nat.le_refl _) _).alloc AO _,w.heap.size,w.heap.size+1,rfl,by simp,by simp⟩
theorem kU (w:World) (ok:Bool) (n:Int) (p q:Nat) (h1:w.cell? ⟨p,0,none⟩=some (.bool ok)) (h2:w.cell? ⟨q,0,none⟩=some (.int .i64 n)):Calls Tryz.prog 74 #[.pointer (some ⟨p,0,none⟩), .pointer (some ⟨q,0,none⟩)] w fun e w'=>e= .returned (.int .i64 (if ok then 0 else n))∧w'=w:=by
 go_enter Tryz.func74,Tryz.ntmps74
 cases ok with
 | true=>go_wp2_with fail;go_ret;exact⟨rfl,rfl⟩
 | false=>go_wp2_with fail;go_ret;exact⟨rfl,rfl⟩
theorem Gu (w:World) (p:Nat) (M:aV) (hI:eY w p M) (h:M.At w) (hs:cu M.cfg):Calls Tryz.prog 75 #[.pointer (some ⟨p,0,none⟩)] w fun e w'=>e= .returned (.int .i64 (PL M.cfg.cfg))∧Below w.heap.size w w':=by
 have d0:=hI.d0
 have d1:=hI.d1
 have d2:=hI.d2
 have f3:=OQ p
 have hk:=vJ w M.cfg h.cfg hs
 rw[O4] at hk
 have HK:=AQ hk
 clear hk hI h hs
 go_enter Tryz.func75,Tryz.ntmps75
 go_wp2_with fail
 refine(HK.o).mono ?_
 rintro e w1 ⟨rfl,hb1⟩
 go_wp2_with fail
 go_ret
 exact⟨rfl,hb1⟩
end Go.Proofs.YtlholdllibghbaaGreat
