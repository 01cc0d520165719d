/- Texts of the proof, one behind the other: PhaseSt, Two, Chain, Vec0. No condition but those that each names. -/
import Derived.Test.YtlholdllibghbaaGreatG02
import Derived.Test.YtlholdllibghbaaGreatG09
import Derived.Test.YtlholdllibghbaaGreatG01
import Derived.Deep.AppendSrc
import Derived.Test.YtlholdllibghbaaGreatKit
namespace Go.Cit
open Go Go.RowKit
section
variable {P:Program} {ops:Array Oper} {Q:Exit→Act→World→Prop}
theorem Dh {C:(Nat→Bool)→Act→World→Prop} {G:Nat→World→World→Prop} {Γ:Nat→Value→World→Prop} {a0:Act}
 (hs:gU ops a0.tmps.size=true)
 (hΓ:∀δ i j v a w w',i≠j→Closed ops δ→δ j=true→δ i=false→C δ a w→G i w w'→Γ j v w→Γ j v w')
 (hop:∀δ i o a w,ops[i]? =some o→δ i=false→Closed ops δ→Closed ops (upd δ i)→C δ a w→dA ops a0 a→(∀e∈o.after,Region.binds .any e=true→∀p d,ops[e.on]? =some p→p.dst=some d→Γ e.on (a.tmps.getD d undef) w)→
  wpOp P ops Q i (fun a' w'=>∃v,a'=a.put o.dst v∧G i w w'∧C (upd δ i) a' w'∧Γ i v w') a w)
 (hend:∀δ a w,(∀i,i<ops.size→δ i=true)→C δ a w→dA ops a0 a→(∀i o d,ops[i]? =some o→o.dst=some d→Γ i (a.tmps.getD d undef) w)→Q .normal a w):
 ∀(fuel:Nat) (listed:Array Bool) (δ:Nat→Bool) (a:Act) (w:World),pX listed ops.size≤fuel→listed.size=ops.size→(∀i,δ i=listed.getD i false)→Closed ops δ→C δ a w→dA ops a0 a→
  (∀i o d,δ i=true→ops[i]? =some o→o.dst=some d→Γ i (a.tmps.getD d undef) w)→wpAny P .any ops Q fuel listed a w:=by
 have hready:∀(listed:Array Bool),listed.size=ops.size→Region.ready .any ops listed=[]→∀i,i<ops.size→listed.getD i false=true:=by
  intro listed hsz hr i
  induction i using Nat.strongRecOn with
  |
   ind i ih=>
   intro hi
   cases hl:listed.getD i true with
   |
    true=>
    have hi':i<listed.size:=by omega
    simpa[Array.getD,hi'] using hl
   |
    false=>
    exfalso
    have hm:i∈Region.ready .any ops listed:=by
     rw[mem_ready]
     refine⟨hl,ops[i],by simp[hi],fun e he hb=> ?_⟩
     have:=(aS hs (i:=i) (o:=ops[i]) (by simp[hi])).1 e he hb
     exact ih e.on this AL
    rw[hr] at hm
    simp at hm
 intro fuel
 induction fuel with
 |
  zero=>
  intro listed δ a w hf hsz hδ hcl hc hsame hg
  have hall:=nU (Nat.le_zero.1 hf)
  have hr:Region.ready .any ops listed=[]:=by
   apply List.eq_nil_iff_forall_not_mem.2
   intro i hi
   rw[mem_ready] at hi
   obtain⟨h0,o,ho,_⟩:=hi
   rw[hall i (Array.getElem?_eq_some_iff.1 ho).1] at h0
   simp at h0
  exact⟨hr,hend δ a w (fun i hi=>by rw[hδ];exact hready listed hsz hr i hi) hc hsame fun i o d ho hd=>hg i o d (by rw[hδ];exact hready listed hsz hr i (Array.getElem?_eq_some_iff.1 ho).1) ho hd⟩
 |
  succ fuel ih=>
  intro listed δ a w hf hsz hδ hcl hc hsame hg
  refine⟨fun hr=>hend δ a w (fun i hi=>by rw[hδ];exact hready listed hsz hr i hi) hc hsame fun i o d ho hd=>hg i o d (by rw[hδ];exact hready listed hsz hr i (Array.getElem?_eq_some_iff.1 ho).1) ho hd,fun i hi=> ?_⟩
  obtain⟨h0,o,ho,hdep⟩:=mem_ready.1 hi
  have hlt:i<ops.size:=(Array.getElem?_eq_some_iff.1 ho).1
  have hδi:δ i=false:=by
   rw[hδ]
   have hi':i<listed.size:=by omega
   simpa[Array.getD,hi'] using h0
  have hcl':Closed ops (upd δ i):=by
   intro j p hp hj e he hb
   by_cases hij:i=j
   ·subst hij
    obtain rfl:o=p:=by rw[ho] at hp;exact Option.some.inj hp
    unfold upd
    split
    ·rfl
    ·rw[hδ];exact hdep e he hb
   ·rw[aA _ hij] at hj
    have:=hcl j p hp hj e he hb
    unfold upd
    split
    ·rfl
    ·exact this
  have hgive:=hop δ i o a w ho hδi hcl hcl' hc hsame (fun e he hb p d hp hd=>hg e.on p d (by rw[hδ];exact hdep e he hb) hp hd)
  refine wpOp_mono (fun a' w' hk=> ?_) hgive
  obtain⟨v,rfl,hG,hc',hv⟩:=hk
  refine ih _ (upd δ i) _ _ ?_ (by simpa using hsz) ?_ hcl' hc' ?_ ?_
  ·have:=pK (n:=ops.size) hlt AL h0
   omega
  ·intro j
   by_cases hij:i=j
   ·subst hij
    rw[upd_same]
    have hi':i<listed.size:=by omega
    simp[hi']
   ·rw[aA _ hij,getD_set_ne false hij];exact hδ j
  ·refine⟨by rw[put_defers];exact hsame.1,by rw[iy];exact hsame.2.1,fun d hd=> ?_⟩
   rw[aN _ _ _ _ (hd i o ho)]
   exact hsame.2.2 d hd
  ·intro j p d hj hp hd
   by_cases hij:i=j
   ·subst hij
    obtain rfl:o=p:=by rw[ho] at hp;exact Option.some.inj hp
    rw[hd,bf _ _ _ (by rw[hsame.2.1];exact(aS hs ho).2.1 d hd)]
    exact hv
   ·rw[aA _ hij] at hj
    have hne:o.dst≠some d:=by
     rcases Nat.lt_or_gt_of_ne hij with h |h
     ·intro e;exact(aS hs hp).2.2 i o d ho h hd e
     ·intro e;exact(aS hs ho).2.2 j p d hp h e hd
    rw[aN _ _ _ _ hne]
    exact hΓ δ i j _ _ w w' hij hcl hj hδi hc hG (hg j p d hj hp hd)
structure jA (ops:Array Oper) (C:(Nat→Bool)→Act→World→Prop) (T:Nat→Value→World→Prop) (a0:Act) (i:Nat) (o:Oper) (δ:Nat→Bool) (a:Act) (w:World):Prop where
 yet:δ i=false
 closed:Closed ops δ
 next:Closed ops (upd δ i)
 inv:C δ a w
 same:dA ops a0 a
 slot:∀d,fJ ops o d=true→T d (a.eval (.tmp d)) w
 old:∀d,gB ops d=true→a.eval (.tmp d)=a0.eval (.tmp d)
 lit:∀v,a.eval (.const v)=v
 fn:∀f,a.eval (.func f)= .func (.func f) #[] #[]
theorem jA.s {ops:Array Oper} {C:(Nat→Bool)→Act→World→Prop} {T:Nat→Value→World→Prop} {a0:Act} {i:Nat} {o:Oper} {δ:Nat→Bool} {a:Act} {w:World} (h:jA ops C T a0 i o δ a w) (d:Nat) (e:fJ ops o d=true:=by kernel_rfl):T d (a.eval (.tmp d)) w:=h.slot d e
theorem jA.o {ops:Array Oper} {C:(Nat→Bool)→Act→World→Prop} {T:Nat→Value→World→Prop} {a0:Act} {i:Nat} {o:Oper} {δ:Nat→Bool} {a:Act} {w:World} (h:jA ops C T a0 i o δ a w) (d:Nat) (e:gB ops d=true:=by kernel_rfl):a.eval (.tmp d)=a0.eval (.tmp d):=h.old d e
theorem Ho {a0:Act} {w:World} (C:(Nat→Bool)→Act→World→Prop) (G:Nat→World→World→Prop) (T:Nat→Value→World→Prop)
 (hs:gU ops a0.tmps.size=true)
 (h0:∀w',Below w.heap.size w w'→w'.heap=w.heap→C (fun _=>false) a0 w')
 (hΓ:∀δ i j o v a w w',ops[j]? =some o→i≠j→Closed ops δ→δ j=true→δ i=false→C δ a w→G i w w'→tyP T o v w→tyP T o v w')
 (hop:bJ (fun n o=>∀δ a wx,jA ops C T a0 n o δ a wx→Wanted ops o a∧bK P (fun v w'=>G n wx w'∧C (upd δ n) (a.put o.dst v) w'∧tyP T o v w') ((execOp a.eval o).run P wx)) ops.toList 0)
 (hend:∀δ a wx,(∀i,i<ops.size→δ i=true)→C δ a wx→dA ops a0 a→(∀d,gB ops d=false→T d (a.eval (.tmp d)) wx)→Q .normal a wx):
 wpAny P .any ops Q ops.size (Array.replicate ops.size false) a0 {w with drawn:=w.drawn+1}:=by
 refine Dh (C:=C) (G:=G) (Γ:=fun i v wx=>∀o,ops[i]? =some o→tyP T o v wx) hs ?_ ?_ ?_ _ _ (fun _=>false) _ _ ?_ AO ?_ ?_ (h0 _ ⟨rfl,rfl,rfl,Nat.le_refl _,fun _ _=>rfl⟩ rfl) ⟨rfl,rfl,fun _ _=>rfl⟩ ?_
 ·intro δ i j v a w w' hij hcl hj hi hc hG h o ho
  exact hΓ δ i j o v a w w' ho hij hcl hj hi hc hG (h o ho)
 ·intro δ i o a wx ho hi hcl hcl' hc hsame hdep
  have hk:jA ops C T a0 i o δ a wx:=by
   refine⟨hi,hcl,hcl',hc,hsame,fun d hd=> ?_,fun d hd=> ?_,fun _=>rfl,fun _=>rfl⟩
   ·unfold fJ at hd
    rw[Array.any_eq_true] at hd
    obtain⟨k,hk,he⟩:=hd
    rw[Bool.and_eq_true] at he
    obtain⟨hb,hp⟩:=he
    split at hp
    ·rename_i p hpp
     simp only[decide_eq_true_eq] at hp
     have:=hdep _ (Array.getElem_mem hk) hb p d hpp hp p hpp
     unfold tyP at this
     rw[hp] at this
     exact this
    ·exact absurd hp AP
   ·refine hsame.2.2 d fun j p hp hpd=> ?_
    unfold gB at hd
    rw[Array.all_eq_true] at hd
    obtain⟨hj,hjp⟩:=Array.getElem?_eq_some_iff.1 hp
    have:=hd j hj
    rw[hjp] at this
    simp[hpd] at this
  have h:=bJ.get _ _ hop i o (by simpa using ho) δ a wx (by rw[Nat.zero_add];exact hk)
  unfold wpOp
  rw[ho]
  dsimp only
  rw[if_pos (show Region.wanted o (yielded ops a.tmps)=true from h.1)]
  refine Or.inl ?_
  unfold Oper.wp
  have h2:=h.2
  rw[Nat.zero_add] at h2
  generalize (execOp a.eval o).run P wx=r at h2
  have hgo:∀v w',(G i wx w'∧C (upd δ i) (a.put o.dst v) w'∧tyP T o v w')→∃v',a.put o.dst v=a.put o.dst v'∧G i wx w'∧C (upd δ i) (a.put o.dst v) w'∧∀o',some o=some o'→tyP T o' v' w':=by
   rintro v w' ⟨h1,h2,h3⟩
   refine⟨v,rfl,h1,h2,fun o' ho'=> ?_⟩
   obtain rfl:o=o':=Option.some.inj ho'
   exact h3
  match r,h2 with
  | .ok (.value v) w',h2=>exact hgo v w' h2
  | .ok .skip w',h2=>exact hgo undef w' h2
  |
   .ok (.enter f args) w',h2=>
   refine Calls.mono h2 ?_
   rintro e w'' ⟨v,rfl,hv⟩
   exact hgo v w'' hv
 ·intro δ a wx hall hc hsame hΓ
  refine hend δ a wx hall hc hsame fun d hd=> ?_
  unfold gB at hd
  rw[Array.all_eq_false] at hd
  obtain⟨j,hj,hp⟩:=hd
  have hpd:ops[j].dst=some d:=by simpa using hp
  have:=hΓ j ops[j] d (by simp[hj]) hpd ops[j] (by simp[hj])
  unfold tyP at this
  rw[hpd] at this
  exact this
 ·exact Nat.le_trans (List.length_filter_le _ _) AO
 ·intro i;simp[Array.getD]
 ·intro i o ho hi;exact absurd hi Bool.false_ne_true
 ·intro i o d hl;exact absurd hl Bool.false_ne_true
theorem lM {id:Nat} {a0:Act} {w:World} (C:(Nat→Bool)→Act→World→Prop) (G:Nat→World→World→Prop) (T:Nat→Value→World→Prop)
 (hm:P.follows .mixedOrders=true) (hs:gU ops a0.tmps.size=true)
 (h0:∀w',Below w.heap.size w w'→w'.heap=w.heap→C (fun _=>false) a0 w')
 (hΓ:∀δ i j o v a w w',ops[j]? =some o→i≠j→Closed ops δ→δ j=true→δ i=false→C δ a w→G i w w'→tyP T o v w→tyP T o v w')
 (hop:bJ (fun n o=>∀δ a wx,jA ops C T a0 n o δ a wx→Wanted ops o a∧bK P (fun v w'=>G n wx w'∧C (upd δ n) (a.put o.dst v) w'∧tyP T o v w') ((execOp a.eval o).run P wx)) ops.toList 0)
 (hend:∀δ a wx,(∀i,i<ops.size→δ i=true)→C δ a wx→dA ops a0 a→(∀d,gB ops d=false→T d (a.eval (.tmp d)) wx)→Q .normal a wx):
 (Code.region id ops true).wp P Q a0 w:=wp_region_any hm (Ho C G T hs h0 hΓ hop hend)
end
end Go.Cit
namespace Go.Cit
open Go Go.RowKit
def Alike (w w':World):Prop:=Below w.heap.size w w'∧w'.heap=w.heap
structure nI (ops:Array Oper) (X Y:Nat→Value) (olds:List Nat) (o:Oper) (a:Act):Prop where
 slot:∀d,fJ ops o d=true→a.eval (.tmp d)=X d
 old:∀d,(gB ops d && olds.contains d)=true→a.eval (.tmp d)=Y d
theorem nI.s {ops:Array Oper} {X Y:Nat→Value} {olds:List Nat} {o:Oper} {a:Act} (h:nI ops X Y olds o a) (d:Nat) (e:fJ ops o d=true:=by kernel_rfl):a.eval (.tmp d)=X d:=h.slot d e
theorem nI.o {ops:Array Oper} {X Y:Nat→Value} {olds:List Nat} {o:Oper} {a:Act} (h:nI ops X Y olds o a) (d:Nat) (e:(gB ops d && olds.contains d)=true:=by kernel_rfl):a.eval (.tmp d)=Y d:=h.old d e
section
variable {P:Program} {ops:Array Oper} {Q:Exit→Act→World→Prop}
theorem bJ.Hy {p q:Nat→Oper→Prop} (h:∀n o,p n o→q n o):∀(os:List Oper) (n:Nat),bJ p os n→bJ q os n
 | [],_,_=>trivial
 | _::os,n,hs=>⟨h n _ hs.1,bJ.Hy h os (n+1) hs.2⟩
theorem kD {p q:Value→World→Prop} {r:Result Next} (h:∀v w,p v w→q v w) (hr:bK P p r):bK P q r:=by
 match r,hr with
 | .ok (.value v) w',hr=>exact h _ _ hr
 | .ok .skip w',hr=>exact h _ _ hr
 | .ok (.enter f args) w',hr=>exact Calls.mono hr fun e w'' ⟨v,he,hp⟩=>⟨v,he,h _ _ hp⟩
theorem Fq {X:Nat→Value} {o:Oper} {v:Value} {w:World} (h:BR X o v):tyP (fun d v _=>v=X d) o v w:=by
 unfold BR at h
 rcases hd:o.dst with _ |d
 ·exact gq hd _ _
 ·rw[iR hd];rw[hd] at h;exact h
end
end Go.Cit
namespace Go.Cit
open Go Go.RowKit
section
variable {P:Program} {ops:Array Oper} {Q:Exit→Act→World→Prop}
def Gm (idx:List Nat) (St:Nat→World→Prop) (δ:Nat→Bool) (wx:World):Prop:=∃k,k≤idx.length∧(∀j i,idx[j]? =some i→(δ i=true↔j<k))∧St k wx
def EX (P:Program) (ops:Array Oper) (X:Nat→Value) (idx:List Nat) (St:Nat→World→Prop) (n:Nat) (o:Oper) (a:Act):Prop:=
 Wanted ops o a∧
 (
  (∃j,idx[j]? =some n∧∀wx,St j wx→bK P (fun v w'=>St (j+1) w'∧BR X o v) ((execOp a.eval o).run P wx))∨
  (n ∉ idx∧∀k wx,k≤idx.length→St k wx→bK P (fun v w'=>w'=wx∧BR X o v) ((execOp a.eval o).run P wx)))
def chainB (ops:Array Oper) (idx:List Nat):Bool:=(List.range idx.length).all fun j=>decide (idx.getD j 0<ops.size) && (decide (j=0) || eF ops ops.size (idx.getD j 0) (idx.getD (j-1) 0))
theorem fO {idx:List Nat} (h:chainB ops idx=true) {j i:Nat} (hj:idx[j]? =some i):i<ops.size∧∀j' i',j=j'+1→idx[j']? =some i'→eF ops ops.size i i'=true:=by
 have hlt:=(List.getElem?_eq_some_iff.1 hj).1
 have h1:=List.all_eq_true.1 h j (List.mem_range.2 hlt)
 rw[List.getD_eq_getElem?_getD,hj] at h1
 simp only[Option.getD_some,Bool.and_eq_true,Bool.or_eq_true,decide_eq_true_eq] at h1
 refine⟨h1.1,fun j' i' e hi'=> ?_⟩
 subst e
 rcases h1.2 with h2 |h2
 ·omega
 ·rw[List.getD_eq_getElem?_getD,show j'+1-1=j' from rfl,hi'] at h2
  exact h2
theorem pJ {idx:List Nat} {m:Nat} (hs:gU ops m=true) (h:chainB ops idx=true):∀(d j i i':Nat),idx[j]? =some i→idx[j+d+1]? =some i'→i<i'
 | 0,j,i,i',hi,hi'=>iT hs _ _ _ ((fO h hi').2 j i rfl hi)
 |
  d+1,j,i,i',hi,hi'=>by
  have hlt:=(List.getElem?_eq_some_iff.1 hi').1
  have hm:idx[j+d+1]? =some idx[j+d+1]:=List.getElem?_eq_getElem AL
  have h1:=pJ hs h d j i _ hi hm
  have h2:=iT hs _ _ _ ((fO h hi').2 (j+d+1) _ rfl hm)
  omega
theorem mX {idx:List Nat} {m:Nat} (hs:gU ops m=true) (h:chainB ops idx=true) {j j' i:Nat} (hi:idx[j]? =some i) (hi':idx[j']? =some i):j=j':=by
 rcases Nat.lt_trichotomy j j' with hlt |he |hlt
 ·have:=pJ hs h (j'-j-1) j i i hi (by rw[show j+(j'-j-1)+1=j' by omega];exact hi');omega
 ·exact he
 ·have:=pJ hs h (j-j'-1) j' i i hi' (by rw[show j'+(j-j'-1)+1=j by omega];exact hi);omega
theorem gQ {id:Nat} {a0:Act} {w:World} (X Y:Nat→Value) (olds:List Nat) (idx:List Nat) (St:Nat→World→Prop)
 (hm:P.follows .mixedOrders=true) (hs:gU ops a0.tmps.size=true) (hc:chainB ops idx=true) (hY:rQ a0 Y olds)
 (h0:∀w',Below w.heap.size w w'→w'.heap=w.heap→St 0 w')
 (hop:bJ (fun n o=>∀a,nI ops X Y olds o a→EX P ops X idx St n o a) ops.toList 0)
 (hend:∀a wx,St idx.length wx→dA ops a0 a→(∀d,gB ops d=false→a.eval (.tmp d)=X d)→Q .normal a wx):
 (Code.region id ops true).wp P Q a0 w:=by
 refine mP (Gm idx St) (fun _ _ _=>True) (fun d v _=>v=X d) hm hs (fun w' hb hh=>⟨0,Nat.zero_le _,fun j i _=>⟨fun h=>absurd h AO,fun h=>absurd h (Nat.not_lt_zero _)⟩,h0 w' hb hh⟩) ?_ ?_ ?_
 ·intro δ i j o v w1 w2 _ _ _ _ _ _ _ h
  rcases hd:o.dst with _ |d
  ·exact gq hd _ _
  ·rw[iR hd] at h ⊢;exact h
 ·refine bJ.Hy (fun n o hall=> ?_) ops.toList 0 hop
  intro δ a wx hk
  have hkt:nI ops X Y olds o a:=⟨fun d hd=>hk.slot d hd,fun d hd=>by
   rw[Bool.and_eq_true] at hd
   exact(hk.old d hd.1).trans (hY.get d hd.2)⟩
  obtain⟨hw,h⟩:=hall a hkt
  refine⟨hw, ?_⟩
  obtain⟨k,hk1,hk2,hk3⟩:=hk.inv
  rcases h with⟨j,hj,h⟩ |⟨hn,h⟩
  ·have hkj:k=j:=by
    have h1:¬j<k:=fun hlt=>by
     have:=(hk2 j n hj).2 hlt
     rw[hk.yet] at this;exact absurd this AP
    have h2:j≤k:=by
     rcases j with _ |j'
     ·exact Nat.zero_le _
     ·have hlt:=(List.getElem?_eq_some_iff.1 hj).1
      have hj':idx[j']? =some idx[j']:=List.getElem?_eq_getElem AL
      have hneed:=(fO hc hj).2 j' _ rfl hj'
      have hdone:=hk.next.needs ops.size n _ hneed (upd_same _ _)
      have hne:=iT hs _ _ _ hneed
      rw[aA _ AL] at hdone
      exact(hk2 j' _ hj').1 hdone
    omega
   subst hkj
   refine kD (fun v w' hv=>⟨trivial,⟨k+1, ?_,fun j2 i2 hj2=> ?_,hv.1⟩,Fq hv.2⟩) (h wx hk3)
   ·exact(List.getElem?_eq_some_iff.1 hj).1
   ·by_cases he:n=i2
    ·subst he
     rw[upd_same]
     have:=mX hs hc hj hj2
     subst this
     exact⟨fun _=>Nat.lt_succ_self _,fun _=>rfl⟩
    ·rw[aA _ he,hk2 j2 i2 hj2]
     have:j2≠k:=fun e=>he (by rw[e,hj] at hj2;exact Option.some.inj hj2)
     omega
  ·refine kD (fun v w' hv=> ?_) (h k wx hk1 hk3)
   obtain⟨rfl,hv⟩:=hv
   exact⟨trivial,⟨k,hk1,fun j2 i2 hj2=>by
    rw[aA _ (show n≠i2 from fun e=>hn (by rw[e];exact List.mem_of_getElem? hj2))];exact hk2 j2 i2 hj2,hk3⟩,Fq hv⟩
 ·intro δ a wx hall hcc hsame hslots
  obtain⟨k,hk1,hk2,hk3⟩:=hcc
  have hkl:k=idx.length:=by
   rcases Nat.lt_or_ge k idx.length with hlt |hge
   ·have hi:idx[k]? =some idx[k]:=List.getElem?_eq_getElem hlt
    have:=(hk2 k _ hi).1 (hall _ (fO hc hi).1)
    omega
   ·omega
  subst hkl
  exact hend a wx hk3 hsame fun d hd=>hslots d hd
end
theorem Save.off {b:Nat} {a a1:Option Addr} {w wx w':World} (h1:Save (fun k=>k≠b∧some k≠blk a) w wx) (hn:dP w.heap.size a a1) (h2:Save (fun k=>k≠b∧some k≠blk a1) wx w'):Save (fun k=>k≠b∧some k≠blk a) w w':=
 ⟨h2.os.trans h1.os,h2.tape.trans h1.tape,h2.output.trans h1.output,Nat.le_trans h1.size h2.size,fun k hk hs=>(h2.block k (Nat.lt_of_lt_of_le hk h1.size) ⟨hs.1,fun e=>by
  rcases hn k e.symm with h |h
  ·exact hs.2 h.symm
  ·omega⟩).trans (h1.block k hk hs)⟩
end Go.Cit
namespace Go.Cit
open Go Go.RowKit
section
variable {P:Program} {T E:TypeId} {n by_:Nat} {z:Value} {α:Type} {f:α→List Value}
theorem Fa (hE:bC P T E n by_ z) (hf:∀x,(f x).length=n) (h1:∀x,∀u∈f x,u.oneCell'=true) {w:World} {b:Option Addr} {m:List α} {c:Nat} (hm:Vec f n w b m c):Src P n T (.slice b m.length c) m.length (m.flatMap f) w:=by
 cases b with
 |
  none=>
  have hc:=hm.nil rfl
  have hle:=hm.le
  obtain rfl:m=[]:=List.eq_nil_of_length_eq_zero AL
  subst hc
  exact Src.ofNil w hE.slice 0
 |
  some p=>
  refine Src.ofSlice w hE.slice p m.length c _ (gW hf m) (fun j u hu=> ?_) (fun u hu=> ?_)
  ·have hj:j<m.length*n:=by rw[←gW hf m];exact(List.getElem?_eq_some_iff.1 hu).1
   have hn:=hE.pos
   have e1:j=j/n*n+j%n:=by rw[Nat.mul_comm];exact(Nat.div_add_mod j n).symm
   have hi':j/n<m.length:=(Nat.div_lt_iff_lt_mul hn).2 hj
   have hj':j%n<n:=Nat.mod_lt _ hn
   obtain⟨g,off,hp⟩:=hm.spot (by intro h0;simp[h0] at hi')
   injection hp with hp
   subst hp
   rw[qG]
   rw[e1] at hu ⊢
   rw[oJ hf m _ _ hi' hj'] at hu
   rw[hm.cell _ hi' _ hj',hu]
  ·obtain⟨y,_,hy⟩:=List.mem_flatMap.1 hu
   exact h1 y u hy
theorem sD (hE:bC P T E n by_ z) (hf:∀x,(f x).length=n) (h1:∀x,∀u∈f x,u.oneCell'=true) {w:World} {g:Nat} {b:Option Addr} {m:List α} {c:Nat} {B:Nat} (ty:TypeId)
 (hown:aW f n E B w (some ⟨g,0,none⟩) [] 0) (hm:Vec f n w b m c) (hlen:m.length≤1000000) (hB:B≤w.heap.size):
 ∃a' c' w',(Builtin.append_ #[T,T] ty #[.slice (some ⟨g,0,none⟩) 0 0, .slice b m.length c]).run P w= .ok (.slice a' m.length c') w'∧aW f n E B w' a' m c'∧Below w.heap.size w w':=by
 obtain⟨i,hi,hz0,hz1,hz2⟩:=info_parts hE.info
 have hsrc:=Fa hE hf h1 hm
 rw[←hz1] at hsrc
 have hfew:=hE.few
 by_cases h0:m=[]
 ·subst h0
  have hr:=run_append_room_src (P:=P) w T T ty E i hE.slice hi g 0 0 0 (.slice b 0 c) 0 [] hsrc (Nat.le_refl _) (fun j hj=>by simp at hj) (fun j hj=>by simp at hj)
  exact⟨_,_,_,hr,hown,Below.refl _ _⟩
 ·have hpos:0<m.length:=List.length_pos_iff.2 h0
  have hold:(Builtin.firstCells i.size 0 (.slice (some ⟨g,0,none⟩) 0 0)).run P w.drew= .ok ([]:List Value).toArray w.drew:=run_firstCells_some w.drew i.size 0 ⟨g,0,none⟩ 0 0 [] AO (fun j u hu=>by simp at hu)
  have hcap:=nextslicecap_le (need:=0+m.length) (old:=0) AL
  have hr:=run_append_grow_src (P:=P) w T T ty E i z hE.slice hi hz0 (some ⟨g,0,none⟩) 0 0 [] hold (.slice b m.length c) m.length (m.flatMap f) hsrc AL AL (by rw[hz2];exact Nat.le_trans (Nat.mul_le_mul (Nat.le_trans hcap (show 2*(0+m.length)≤2000000 by omega)) hfew) AP)
  rw[Nat.zero_add] at hr
  refine⟨_,_,_,hr,⟨?_⟩,((Below.refl _ w).drew).alloc (Nat.le_refl _) _⟩
  have hge:=grownCap_ge w m.length 0 E
  refine⟨gW hf m, .inr ⟨w.heap.size,_,_,rfl,hB,heap_alloc_new w.drew _,hge,grownCap_le_maxLen _ _ _ _ (by unfold maxLen;omega), ?_, ?_⟩⟩
  ·simp only[List.nil_append,Array.size_append,List.size_toArray,size_zeroCells,hE.zs,gW hf m]
   rw[←Nat.add_mul];congr 1;omega
  ·simp only[List.nil_append,Array.toList_append]
   rw[List.take_append_of_le_length (by simp[gW hf m])]
   exact List.take_of_length_le (by simp[gW hf m])
end
end Go.Cit
