/- A configuration's state at first is of it (plain). -/
import Derived.Test.YtlholdllibghbaaGreatAwk21
import Derived.Test.YtlholdllibghbaaGreatKit
namespace Go.Proofs.YtlholdllibghbaaGreat
open Go Go.RowKit Go.Cit
theorem wF {V:aZ} (h:Good V):fC (fun p:qg=>p.id.1) mF (V.ps.map fun x=>fM x.pt)=true:=by
 have ha:=(vK V.ps 0).1 h.IE
 rw[fQ]
 intro j hj
 rw[List.length_map] at hj
 have hp:=ha j hj
 have hr:=h.reg V.ps[j] (List.getElem_mem hj)
 have hr1:=of_decide_eq_true hr.1
 have e0:jv V.ps j=V.ps[j].id.1:=rW V.ps j hj
 rw[e0] at hp
 have hpos:0<V.ps[j].id.1:=(yL V.ps 0 h.IE V.ps[j] (List.getElem_mem hj)).1
 refine⟨?_,fun h0=> ?_⟩
 ·rw[List.getElem_map]
  have hn:V.ps[j].img.length≤V.ps[j].reg.size.1.toNat:=by omega
  have hl:=ni hn
  unfold mF fM fV.pt
  dsimp only
  simp only[Bool.and_eq_true,decide_eq_true_eq]
  refine⟨⟨by omega,hp.2⟩, ?_, ?_,by decide⟩
  ·unfold dY
   have e:(iZ 0).1=0:=rfl
   refine decide_eq_true ⟨by show(0:Int)≤(iZ 0).1;rw[e];decide,by show(iZ 0).1%4=0;rw[e];decide,hr1.2.2.1,hr1.2.2.2.1,hr1.2.2.2.2.1, ?_⟩
   show(iZ 0).1+V.ps[j].reg.size.1≤4096
   rw[e]
   have:=hr1.2.2.2.2.1
   omega
  ·rw[hl];omega
 ·rw[List.getElem_map,List.getElem_map]
  rw[if_neg AL,rW V.ps (j-1) AL] at hp
  exact hp.1
theorem sO {V:aZ} (h:Good V):fC (fun q:yP=>q.ch.id.1) mO (V.cs.map jS)=true:=by
 have hc:=h.chk
 unfold kQ at hc
 have h1:V.cs.all oD=true:=by
  by_cases h1:V.cs.all oD=true
  ·exact h1
  ·rw[if_neg h1] at hc;exact absurd hc AP
 rw[if_pos h1] at hc
 have h2:jq V.cs (V.cs.length-1)=true:=by
  by_cases h2:jq V.cs (V.cs.length-1)=true
  ·exact h2
  ·rw[if_neg h2] at hc;exact absurd hc AP
 have hat:∀i (hi:i<V.cs.length),qR V.cs i=V.cs[i].id.1:=fun i hi=>by unfold qR;simp[hi]
 rw[fQ]
 intro j hj
 rw[List.length_map] at hj
 refine⟨?_,fun h0=> ?_⟩
 ·rw[List.getElem_map]
  have hm:=List.all_eq_true.1 h1 V.cs[j] (List.getElem_mem hj)
  have hm1:=of_decide_eq_true hm
  unfold mO jS
  simp only[hm,Bool.true_and,Bool.and_eq_true,decide_eq_true_eq]
  exact⟨by simp;omega,rfl⟩
 ·rw[List.getElem_map,List.getElem_map]
  unfold jq at h2
  have:=of_decide_eq_true (List.all_eq_true.1 h2 (j-1) (List.mem_range.2 AL))
  rw[show j-1+1=j by omega,hat _ hj,hat _ AL] at this
  exact this
theorem D9 {V:aZ} (h:fitsV V=true):isS (fU V.cfg) V=true:=by
 have hg:=qh.1 (of_decide_eq_true (show decide (errs V=[])=true from h))
 have e1:∀l:List fV,iP FU (l.map fun x=>fM x.pt) l=true:=fun l=>by
  induction l with
  | nil=>rfl
  | cons x l ih=>rw[List.map_cons,iP,ih,Bool.and_true];exact decide_eq_true ⟨rfl,rfl,rfl⟩
 have e2:(fU V.cfg).ps=V.ps.map fun x=>fM x.pt:=by unfold fU aZ.cfg;dsimp only;rw[List.map_map];rfl
 have e3:(fU V.cfg).qs=V.cs.map jS:=rfl
 have e4:jR (fU V.cfg)=true:=by
  rw[qy,e2,e3,List.length_map,List.length_map]
  exact⟨⟨by show(0:Int)≤(iZ 0).1;decide,by show(iZ 0).1≤1099511627776;decide⟩,hg.few.2,hg.IQ,wF hg,sO hg⟩
 unfold isS
 rw[e4,h,e2,e3,e1]
 simp[jS,List.map_map,Function.comp_def]
end Go.Proofs.YtlholdllibghbaaGreat
