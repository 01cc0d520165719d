/- manifest.Check's closures: walked; what valid.Check, compat.Check answer hangs on the configurations alone. -/
import Derived.Test.YtlholdllibghbaaGreatG36
import Derived.Test.YtlholdllibghbaaGreatG37
import Derived.Test.YtlholdllibghbaaGreatG15
import Derived.Test.YtlholdllibghbaaGreatG13
import Derived.Test.YtlholdllibghbaaGreatG33
import Derived.Test.YtlholdllibghbaaGreatG10
import Derived.Deep.CutBlock
import Derived.Deep.DeepCutAuto
import Derived.Test.YtlholdllibghbaaGreatG11
import Derived.Test.YtlholdllibghbaaGreatG24
import Derived.Test.YtlholdllibghbaaGreatKit
set_option maxRecDepth 100000
set_option maxHeartbeats 8000000
namespace Go.Proofs.YtlholdllibghbaaGreat
open Go Go.RowKit Go.Cit
def V0 (K:zk):aN:=⟨none,K.wins,0,none,K.parts.map (fun p=>⟨p.id,p.reg,p.keep,none,p.img,0⟩),0,none,K.chans,0⟩
theorem Dj (K:zk):(V0 K).cfg=K:=by
 unfold V0 aN.cfg
 rw[List.map_map,show cO.pt∘(fun p:Pt=>(⟨p.id,p.reg,p.keep,none,p.img,0⟩:cO))=id from rfl,List.map_id]
def MZ (K:zk):Int:=Ah (V0 K)
def Oq (J K:zk):Int:=pV (V0 J) (V0 K)
def QA (K:zk):Bool:=fitsV (V0 K)
theorem Ob (V:aN):Ah V=MZ V.cfg:=by unfold MZ Ah;rw[Ez (V:=V) (U:=V0 V.cfg) (Dj _)]
theorem rF (V:aN):fitsV V=QA V.cfg:=by unfold QA fitsV;rw[Ez (V:=V) (U:=V0 V.cfg) (Dj _)]
theorem yx (ps:List cO) (x:Int):iW ps x=(ps.map cO.pt).any fun p=>decide (p.id.1=x):=by unfold iW;rw[List.any_map];rfl
theorem nS (ps:List cO) (x:Int):qW ps x=((ps.map cO.pt).find? fun p=>decide (p.id.1=x)).getD Uk:=by unfold qW;rw[List.find?_map];rfl
theorem Hg (V W:aN):pV V W=Oq V.cfg W.cfg:=by
 have h:∀ {A A' B B':aN},A.cfg=A'.cfg→B.cfg=B'.cfg→pV A B=pV A' B':=by
  intro A A' B B' h1 h2
  have e1:A.ps.map cO.pt=A'.ps.map cO.pt:=congrArg zk.parts h1
  have e2:B.ps.map cO.pt=B'.ps.map cO.pt:=congrArg zk.parts h2
  have eb:∀x,mV A.ps B.ps x=mV A'.ps B'.ps x:=fun x=>by
   unfold mV
   rw[yx,yx B.ps,nS,nS B.ps,e1,e2,←yx,←yx,←nS,←nS]
  have es:∀x,sH A.ps B.ps x=sH A'.ps B'.ps x:=fun x=>by
   unfold sH
   rw[eb,nS,nS B.ps,e1,e2,←nS,←nS]
  unfold pV Ak
  rw[rF,rF B,h1,h2,←rF,←rF,show Ji A B=Ji A' B' from funext fun j=>by unfold Ji;rw[eb,es]]
 exact h (Dj _).symm (Dj _).symm
theorem OE (ps:List cO) (x:Int):iW ps x=true↔∃y∈ps,y.id.1=x:=by
 unfold iW;rw[List.any_eq_true];simp
theorem Nr {V W:aN}:Ak V W=true↔Good V∧Good W:=by
 unfold Ak fitsV
 rw[Bool.and_eq_true,decide_eq_true_eq,decide_eq_true_eq,FN,FN]
theorem OY {ps qs:List cO} {x:Int} (h:mV ps qs x=true):iW ps x=true∧iW qs x=true:=by
 unfold mV at h
 simp only[Bool.and_eq_true] at h
 exact h.1.1
theorem Oo (V W:aN):Dy V W=pV V W:=by
 unfold Dy pV
 cases h:Ak V W with
 | false=>rfl
 |
  true=>
  have hW:=(Nr.1 h).2
  rw[if_pos rfl,if_pos rfl]
  have e:W.ps.any (DN V W)=(List.range 6).any (Ji V W):=by
   rw[Bool.eq_iff_iff,List.any_eq_true,List.any_eq_true]
   constructor
   ·rintro⟨x,hx,hp⟩
    have:=hW.ids x hx
    refine⟨(x.id.1-1).toNat,List.mem_range.2 AL, ?_⟩
    unfold Ji
    rw[show(((x.id.1-1).toNat+1:Nat):Int)=x.id.1 by omega]
    exact hp
   ·rintro⟨j,hj,hp⟩
    unfold Ji at hp
    have hb:mV V.ps W.ps ((j+1:Nat):Int)=true:=by
     cases hb:mV V.ps W.ps ((j+1:Nat):Int) with
     | true=>rfl
     | false=>rw[hb] at hp;simp at hp
    obtain⟨y,hy,he⟩:=(OE _ _).1 (OY hb).2
    exact⟨y,hy,by unfold DN;rw[he];exact hp⟩
  rw[e]
def tF (ok:Bool) (n:Int) (v:Value) (w:World):Prop:=∃p q,v= .func (.func 74) #[] #[.pointer (some ⟨p,0,none⟩), .pointer (some ⟨q,0,none⟩)]∧w.cell? ⟨p,0,none⟩=some (.bool ok)∧w.cell? ⟨q,0,none⟩=some (.int .i64 n)
theorem Pq {ok:Bool} {n:Int} {v:Value} {w1 w2:World} (hb:Below w1.heap.size w1 w2) (h:tF ok n v w1):tF ok n v w2:=by
 obtain⟨p,q,h1,h2,h3⟩:=h
 exact⟨p,q,h1,Go.Cit.keep hb h2,Go.Cit.keep hb h3⟩
theorem lY (w:World) (ok:Bool) (n:Int):Calls Tryz.prog 73 #[.bool ok, .int .i64 n] w fun e w'=>∃v,e= .returned v∧Below w.heap.size w w'∧tF ok n v w':=by
 have hmf:∀(fn:Fn) (first cap:Array Value) (w:World),(Instr.makeFunc fn first cap).run Tryz.prog w= .ok (.func fn first cap) w:=fun _ _ _ _=>rfl
 go_enter Tryz.func73,Tryz.ntmps73
 go_wp2_with fail
 go_ret
 exact⟨_,rfl,((Below.refl _ w).alloc (Nat.le_refl _) _).alloc AO _,w.heap.size,w.heap.size+1,rfl,by simp,by simp⟩
theorem kU (w:World) (ok:Bool) (n:Int) (p q:Nat) (h1:w.cell? ⟨p,0,none⟩=some (.bool ok)) (h2:w.cell? ⟨q,0,none⟩=some (.int .i64 n)):Calls Tryz.prog 74 #[.pointer (some ⟨p,0,none⟩), .pointer (some ⟨q,0,none⟩)] w fun e w'=>e= .returned (.int .i64 (if ok then 0 else n))∧w'=w:=by
 go_enter Tryz.func74,Tryz.ntmps74
 cases ok with
 | true=>go_wp2_with fail;go_ret;exact⟨rfl,rfl⟩
 | false=>go_wp2_with fail;go_ret;exact⟨rfl,rfl⟩
theorem EK (w:World) (p:Nat) (M:aW) (hI:dR w p M) (h:M.At w) (hs:bP M.cfg):Calls Tryz.prog 75 #[.pointer (some ⟨p,0,none⟩)] w fun e w'=>e= .returned (.int .i64 (MZ M.cfg.cfg))∧Below w.heap.size w w':=by
 have d0:=hI.d0
 have d1:=hI.d1
 have d2:=hI.d2
 have f3:=Po p
 have hk:=uS w M.cfg h.cfg hs
 rw[Ob] at hk
 have HK:=AQ hk
 clear hk hI h hs
 go_enter Tryz.func75,Tryz.ntmps75
 go_wp2_with fail
 refine(HK.o).mono ?_
 rintro e w1 ⟨rfl,hb1⟩
 go_wp2_with fail
 go_ret
 exact⟨rfl,hb1⟩
end Go.Proofs.YtlholdllibghbaaGreat
