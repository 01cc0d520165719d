/- Texts of the proof, one behind the other: Tail, ManRefH, ManRefI, Kept. No condition but those that each names. -/
import Derived.Test.YtlholdllibghbaaGreatG10
import Derived.Test.YtlholdllibghbaaGreatMan
import Derived.Test.YtlholdllibghbaaGreatManRef
import Derived.Test.YtlholdllibghbaaGreatG30
import Derived.Test.YtlholdllibghbaaGreatG15
import Derived.Test.YtlholdllibghbaaGreatG13
import Derived.Deep.CutBlock
import Derived.Deep.DeepCutAuto
import Derived.Test.YtlholdllibghbaaGreatKit
set_option maxRecDepth 100000
set_option maxHeartbeats 8000000
namespace Go.Cit
open Go Go.RowKit
section
variable {P:Program} {Q:Exit→Act→World→Prop}
def Am (ops:Array Oper) (c:Nat):Bool:=(List.range ops.size).all fun i=>decide (i<c) || (List.range i).all fun j=>iq ops ops.size i j
theorem mG {ops:Array Oper} {c:Nat} (h:Am ops c=true) {i j:Nat} (hi:i<ops.size) (hc:c≤i) (hj:j<i):iq ops ops.size i j=true:=by
 have h1:=List.all_eq_true.1 h i (List.mem_range.2 hi)
 simp only[Bool.or_eq_true,decide_eq_true_eq] at h1
 rcases h1 with h1 |h1
 ·omega
 ·exact List.all_eq_true.1 h1 j (List.mem_range.2 hj)
theorem um {ops:Array Oper} {m:Nat} (hs:jg ops m=true):∀(listed:Array Bool),listed.size=ops.size→Region.ready .any ops listed=[]→∀i,i<ops.size→listed.getD i false=true:=by
 intro listed hsz hr i
 induction i using Nat.strongRecOn with
 |
  ind i ih=>
  intro hi
  cases hl:listed.getD i true with
  |
   true=>
   have hi':i<listed.size:=by omega
   simpa[Array.getD,hi'] using hl
  |
   false=>
   exfalso
   have hm:i∈Region.ready .any ops listed:=by
    rw[mem_ready]
    refine⟨hl,ops[i],by simp[hi],fun e he hb=> ?_⟩
    have:=(bG hs (i:=i) (o:=ops[i]) (by simp[hi])).1 e he hb
    exact ih e.on this AL
   rw[hr] at hm
   simp at hm
theorem OX {l:List Oper} {m c:Nat} (hs:jg l.toArray m=true) (hl:Am l.toArray c=true):∀(fuel:Nat) (listed:Array Bool) (i:Nat) (a:Act) (w:World),tN listed l.toArray.size≤fuel→listed.size=l.toArray.size→
 (∀j,j<l.length→(listed.getD j false=true↔j<i))→c≤i→wpList P l.toArray Q (l.drop i) a w→wpAny P .any l.toArray Q fuel listed a w:=by
 have hfin:∀(listed:Array Bool) (i:Nat) (a:Act) (w:World),(∀j,j<l.length→(listed.getD j false=true↔j<i))→(∀j,j<l.toArray.size→listed.getD j false=true)→wpList P l.toArray Q (l.drop i) a w→Q .normal a w:=by
  intro listed i a w hd hall hw
  have:l.drop i=[]:=List.drop_eq_nil_of_le (by
   rcases Nat.lt_or_ge i l.length with h |h
   ·have:=(hd i h).1 (hall i (by simpa using h));omega
   ·exact h)
  rw[this] at hw
  exact hw
 intro fuel
 induction fuel with
 |
  zero=>
  intro listed i a w hf hsz hd hci hw
  have hall:=nS (Nat.le_zero.1 hf)
  have hr:Region.ready .any l.toArray listed=[]:=by
   apply List.eq_nil_iff_forall_not_mem.2
   intro j hj
   rw[mem_ready] at hj
   obtain⟨h0,o,ho,_⟩:=hj
   rw[hall j (Array.getElem?_eq_some_iff.1 ho).1] at h0
   simp at h0
  exact⟨hr,hfin listed i a w hd (um hs listed hsz hr) hw⟩
 |
  succ fuel ih=>
  intro listed i a w hf hsz hd hci hw
  refine⟨fun hr=>hfin listed i a w hd (um hs listed hsz hr) hw,fun k hk=> ?_⟩
  obtain⟨h0,o,ho,hdep⟩:=mem_ready.1 hk
  have hlt:k<l.toArray.size:=(Array.getElem?_eq_some_iff.1 ho).1
  have hltl:k<l.length:=by simpa using hlt
  have hk0:listed.getD k false=false:=by
   have hi':k<listed.size:=by omega
   simpa[Array.getD,hi'] using h0
  have hki:k=i:=by
   have h1:¬k<i:=fun h=>by rw[(hd k hltl).2 h] at hk0;exact absurd hk0 AP
   rcases Nat.lt_or_ge i k with h |h
   ·have hcl':Closed l.toArray (upd (fun j=>listed.getD j false) k):=by
     intro j p hp hj e he hb
     by_cases hij:k=j
     ·subst hij
      obtain rfl:o=p:=by rw[ho] at hp;exact Option.some.inj hp
      unfold upd
      split
      ·rfl
      ·exact hdep e he hb
     ·rw[aA _ hij] at hj
      have hjl:j<l.length:=by have:=(Array.getElem?_eq_some_iff.1 hp).1;simpa using this
      have h2:=(hd j hjl).1 hj
      have h3:=(bG hs hp).1 e he hb
      unfold upd
      split
      ·rfl
      ·exact(hd _ AL).2 AL
    have:=hcl'.needs l.toArray.size k i (mG hl hlt AL h) (upd_same _ _)
    rw[aA _ AL] at this
    have:=(hd i AL).1 this
    omega
   ·omega
  subst hki
  have hdr:l.drop k=o::l.drop (k+1):=by
   rw[List.drop_eq_getElem_cons hltl];congr 1
   have:l[k]? =some o:=by simpa using ho
   exact(List.getElem?_eq_some_iff.1 this).2
  rw[hdr] at hw
  have hw':wpOp P l.toArray Q k (wpList P l.toArray Q (l.drop (k+1))) a w:=by
   unfold wpOp
   rw[ho]
   exact hw
  refine wpOp_mono (fun a' w' h=>ih _ (k+1) a' w' ?_ (by simpa using hsz) (fun j hj=> ?_) AL h) hw'
  ·have:=pI (n:=l.toArray.size) hlt AL h0
   omega
  ·by_cases hij:k=j
   ·subst hij
    have hi':k<listed.size:=by omega
    simp[hi']
   ·rw[getD_set_ne false hij,hd j hj];omega
theorem rG {id:Nat} {a0:Act} {w:World} {l:List Oper} (c:Nat) (T:Nat→Value→World→Prop)
 (hm:P.follows .mixedOrders=true) (hs:jg l.toArray a0.tmps.size=true) (hc0:decide (c<l.length)=true) (hl:Am l.toArray c=true)
 (hT:∀d v w1 w2,Below w1.heap.size w1 w2→T d v w1→T d v w2)
 (hop:dB (fun _ o=>∀a wx,pJ l.toArray T a0 w o a wx→(Wanted l.toArray o a∧bQ P (fun v w'=>Below wx.heap.size wx w'∧tyP T o v w') ((execOp a.eval o).run P wx))∨(Region.wanted o (yielded l.toArray a.tmps)=false∧tyP T o undef wx)) (l.take c) 0)
 (htail:∀a wx,Below w.heap.size w wx→fF (l.take c).toArray a0 a→(∀d,jc (l.take c).toArray d=false→T d (a.eval (.tmp d)) wx)→wpList P l.toArray Q (l.drop c) a wx):
 (Code.region id l.toArray true).wp P Q a0 w:=by
 have hcl0:c<l.length:=of_decide_eq_true hc0
 refine wp_region_any hm ?_
 have key:∀(fuel:Nat) (listed:Array Bool) (δ:Nat→Bool) (a:Act) (wx:World),tN listed l.toArray.size≤fuel→listed.size=l.toArray.size→(∀i,δ i=listed.getD i false)→Closed l.toArray δ→δ c=false→Below w.heap.size w wx→
  (∀i o d,i<c→l.toArray[i]? =some o→δ i=true→o.dst=some d→T d (a.eval (.tmp d)) wx)→fF (l.take c).toArray a0 a→wpAny P .any l.toArray Q fuel listed a wx:=by
  intro fuel
  induction fuel with
  |
   zero=>
   intro listed δ a wx hf hsz hδ hcl hδc hb hfa hsm
   have hall:=nS (Nat.le_zero.1 hf)
   have:=hall c (by simpa using hcl0)
   rw[hδ] at hδc
   have hi':c<listed.size:=by rw[hsz];simpa using hcl0
   simp[Array.getD,hi'] at hδc this
   rw[this] at hδc;exact absurd hδc AP
  |
   succ fuel ih=>
   intro listed δ a wx hf hsz hδ hcl hδc hb hfa hsm
   refine⟨fun hr=> ?_,fun i hi=> ?_⟩
   ·have:=um hs listed hsz hr c (by simpa using hcl0)
    rw[←hδ,hδc] at this;exact absurd this AP
   obtain⟨h0,o,ho,hdep⟩:=mem_ready.1 hi
   have hlt:i<l.toArray.size:=(Array.getElem?_eq_some_iff.1 ho).1
   have hltl:i<l.length:=by simpa using hlt
   have hoL:l[i]? =some o:=by simpa using ho
   have hδi:δ i=false:=by
    rw[hδ]
    have hi':i<listed.size:=by omega
    simpa[Array.getD,hi'] using h0
   have hcl':Closed l.toArray (upd δ i):=by
    intro j p hp hj e he hb
    by_cases hij:i=j
    ·subst hij
     obtain rfl:o=p:=by rw[ho] at hp;exact Option.some.inj hp
     unfold upd
     split
     ·rfl
     ·rw[hδ];exact hdep e he hb
    ·rw[aA _ hij] at hj
     have:=hcl j p hp hj e he hb
     unfold upd
     split
     ·rfl
     ·exact this
   have hic:i≤c:=by
    rcases Nat.lt_or_ge c i with h |h
    ·have:=hcl'.needs l.toArray.size i c (mG hl hlt AL h) (upd_same _ _)
     rw[aA _ AL,hδc] at this
     exact absurd this AP
    ·exact h
   by_cases hec:i=c
   ·subst hec
    have hlo:∀j,j<i→δ j=true:=fun j hj=>by
     have:=hcl'.needs l.toArray.size i j (mG hl hlt AL hj) (upd_same _ _)
     rwa[aA _ AL] at this
    have hd:∀j,j<l.length→(listed.getD j false=true↔j<i):=fun j hj=>by
     rw[←hδ]
     rcases Nat.lt_trichotomy j i with h |h |h
     ·exact⟨fun _=>h,fun _=>hlo j h⟩
     ·subst h;rw[hδc];exact⟨fun h=>absurd h AP,fun h=>absurd h AL⟩
     ·refine⟨fun hjt=> ?_,fun h2=>by omega⟩
      have:=hcl.needs l.toArray.size j i (mG hl (by simpa using hj) AL h) hjt
      rw[hδi] at this;exact absurd this AP
    refine(OX hs hl (fuel+1) listed i a wx hf hsz hd (Nat.le_refl _) (htail a wx hb hsm fun d hdd=> ?_)).2 i hi
    unfold jc at hdd
    rw[Array.all_eq_false] at hdd
    obtain⟨j,hj,hp⟩:=hdd
    have hj':j<i:=by simp at hj;omega
    have hjl:j<l.length:=by omega
    have e1:(l.take i).toArray[j]=l[j]:=by simp
    have hpd:l[j].dst=some d:=by rw[←e1];simpa using hp
    exact hfa j l[j] d hj' (by simp[hjl]) (hlo j hj') hpd
   ·have hic:i<c:=by omega
    have hwait:∀d,iC l.toArray o d=true→T d (a.eval (.tmp d)) wx:=by
     intro d hd
     unfold iC at hd
     rw[Array.any_eq_true] at hd
     obtain⟨k,hkk,he⟩:=hd
     rw[Bool.and_eq_true] at he
     obtain⟨hb,hp⟩:=he
     split at hp
     ·rename_i p hpp
      simp only[decide_eq_true_eq] at hp
      have h2:=(bG hs ho).1 _ (Array.getElem_mem hkk) hb
      exact hfa _ p d AL hpp (by rw[hδ];exact hdep _ (Array.getElem_mem hkk) hb) hp
     ·exact absurd hp AP
    have hold:∀d,jc l.toArray d=true→a.eval (.tmp d)=a0.eval (.tmp d):=by
     intro d hd
     refine hsm.2.2 d fun j p hp hpd=> ?_
     unfold jc at hd
     rw[Array.all_eq_true] at hd
     have hjl:l[j]? =some p:=by
      rw[List.getElem?_toArray,List.getElem?_take] at hp
      split at hp
      ·exact hp
      ·exact absurd hp AO
     obtain⟨hj,hjp⟩:=List.getElem?_eq_some_iff.1 hjl
     have:=hd j (by simpa using hj)
     simp[hjp,hpd] at this
    have h:=dB.get _ _ hop i o (by rw[List.getElem?_take];simpa[hic] using hoL) a wx ⟨hb,hwait,hold,fun _=>rfl,fun _=>rfl⟩
    have hgo:∀v w',Below wx.heap.size wx w'→tyP T o v w'→wpAny P .any l.toArray Q fuel (listed.setIfInBounds i true) (a.put o.dst v) w':=by
     intro v w' hb2 hv
     refine ih _ (upd δ i) _ _ ?_ (by simpa using hsz) ?_ hcl' (by rw[aA _ hec];exact hδc) (hb.trans (hb2.mono hb.size)) (fun j p d hjc hp hj hpd=> ?_) ?_
     ·have:=pI (n:=l.toArray.size) hlt AL h0
      omega
     ·intro j
      by_cases hij:i=j
      ·subst hij
       rw[upd_same]
       have hi':i<listed.size:=by omega
       simp[hi']
      ·rw[aA _ hij,getD_set_ne false hij];exact hδ j
     ·by_cases e:i=j
      ·subst e
       rw[ho] at hp
       obtain rfl:o=p:=Option.some.inj hp
       rw[fZ hpd] at hv
       rw[hpd]
       rw[show(a.put (some d) v).eval (.tmp d)=v from dM _ _ _ (by rw[hsm.2.1];exact(bG hs ho).2.1 d hpd)]
       exact hv
      ·rw[aA _ e] at hj
       have hne:o.dst≠some d:=by
        rcases Nat.lt_or_gt_of_ne e with h |h
        ·intro e;exact(bG hs hp).2.2 i o d ho h hpd e
        ·intro e;exact(bG hs ho).2.2 j p d hp h e hpd
       rw[show(a.put o.dst v).eval (.tmp d)=a.eval (.tmp d) from bH _ _ _ _ hne]
       exact hT _ _ _ _ hb2 (hfa j p d hjc hp hj hpd)
     ·refine⟨by rw[put_defers];exact hsm.1,by rw[iR];exact hsm.2.1,fun d hd=> ?_⟩
      rw[bH _ _ _ _ (hd i o (by rw[List.getElem?_toArray,List.getElem?_take];simpa[hic] using hoL))]
      exact hsm.2.2 d hd
    unfold wpOp
    rw[ho]
    dsimp only
    rcases h with⟨hw,h2⟩ |⟨hw,h2⟩
    ·rw[if_pos (show Region.wanted o (yielded l.toArray a.tmps)=true from hw)]
     refine Or.inl ?_
     unfold Oper.wp
     generalize (execOp a.eval o).run P wx=r at h2
     match r,h2 with
     | .ok (.value v) w',h2=>exact hgo v w' h2.1 h2.2
     | .ok .skip w',h2=>exact hgo undef w' h2.1 h2.2
     |
      .ok (.enter f args) w',h2=>
      refine Calls.mono h2 ?_
      rintro e w'' ⟨v,rfl,hb,hv⟩
      exact hgo v w'' hb hv
    ·rw[if_neg (by rw[hw];decide)]
     exact hgo undef wx (Below.refl _ _) h2
 exact key _ _ (fun _=>false) _ _ (Nat.le_trans (List.length_filter_le _ _) AO) AO (fun i=>by simp[Array.getD]) (fun i o _ hi=>absurd hi Bool.false_ne_true) rfl ⟨rfl,rfl,rfl,Nat.le_refl _,fun _ _=>rfl⟩ (fun i o d _ _ h=>absurd h Bool.false_ne_true) ⟨rfl,rfl,fun _ _=>rfl⟩
end
end Go.Cit
namespace Go.Proofs.YtlholdllibghbaaGreat
open Go Go.RowKit Go.Cit
theorem BN (w:World) (M:aV) (h:M.At w) (hcan:jK M=true):Calls Tryz.prog 54 #[.agg (cM M)] w fun e w'=>∃a X c,Hid (X=headB M)∧e= .returned (.slice a X.length c)∧Cit.Own 5 w.heap.size w' a X c∧Below w.heap.size w w':=by
 obtain⟨C,hC⟩:=AU (cM M)
 obtain⟨w0,hw0⟩:=AV (w.alloc (.cells C 55))
 have B0:Below w.heap.size w w0:=by rw[hw0];exact(Below.refl _ w).alloc (Nat.le_refl _) _
 have hI:eY w0 w.heap.size M:=by rw[hw0,hC.o];exact eY.new w h
 have HI0:=AQ hI
 have HB0:=AQ B0
 have HM:=AQ (h.stay B0)
 have HP:=AQ (mW h.p32 (jF hcan))
 have HCN:=AQ (jF hcan)
 obtain⟨w1,hw1⟩:=AV (w0.alloc (.cells #[] 5))
 obtain⟨z,hz⟩:=AV (w0.heap.size)
 have B1:Below w0.heap.size w0 w1:=by rw[hw1];exact(Below.refl _ w0).alloc (Nat.le_refl _) _
 have HO0:Hid (Cit.Own 5 w0.heap.size w1 (some ⟨z,0,none⟩) [] 0):=by rw[Hid,hw1,hz];exact kZ w0 #[] 5 [] rfl AP
 have HB1:=AQ B1
 have c0:=(hI.keep B1).ver
 rw[hw1] at c0
 have HK:=AQ (dZ w1 M.ver.1)
 have f0:=SI w.heap.size
 have f1:=mf1 w.heap.size
 have f2:=mf2 w.heap.size
 have f3:=OQ w.heap.size
 rw[←hC.o]
 clear hI h B0 B1 hcan
 go_enter Tryz.func54,Tryz.ntmps54
 go_upto_region 1 with fail
 rw[←hw0]
 clear hw0
 go_wp2_with fail
 rw[←hw1,←hz]
 clear hw1 hz
 refine(HK.o).mono ?_
 rintro e w2 ⟨aY,Y,cY,HY,rfl,hY,hYn,hb⟩
 have HYO:=AQ hY.isRow
 have HYN:=AQ hYn
 have HYL:Hid (Y.length≤8):=by rw[Hid,HY.o];exact Nat.le_of_eq (aB _ _)
 have HO0b:=AQ (HO0.o.stay hb)
 have HB2:=AQ (HB1.o.trans (hb.mono HB1.o.size))
 clear hY hYn hb HK c0 HO0 HB1
 go_upto_region 2 with ((with_reducible refine bU (o:=⟨some 8, .call _,_,_,_,_⟩) bt (.tmp 4) (.tmp 7) AA AA HO0b.o HYO.o HYN.o (by have:=HYL.o;rw[List.length_nil];omega) HB2.o.size AA AA ?_);intro a3 c3 w3 hO3 hg3 hn3;obtain⟨X3,hX3⟩:∃Z,Hid (Z=([]:List UInt8)++Y):=⟨_,rfl⟩;rw[←hX3.o] at hO3 ⊢;have HO3:=AQ hO3;have HG3:=AQ hg3;clear hO3 hg3 hn3)
 have HB3:=AQ (HB2.o.trans (grown_below HG3.o HB2.o.size (fun k hk=>(HO0b.o.aK hk).1)))
 have HX3:Hid (X3=int8 M.ver.1):=by rw[Hid,hX3.o,HY.o];rfl
 have HI3:=AQ (HI0.o.keep HB3.o)
 have HL3:Hid (X3.length=8):=by rw[Hid,HX3.o,eX]
 clear HY HYO HYN HYL HO0b HB2 HG3 hX3
 obtain⟨T,hT⟩:=AU ((M.prev.map vb).toArray)
 have hl:=HI3.o.prev
 rw[←hT.o] at hl
 have HLD:=AQ hl
 have hk:=vH w3 M.prev HI0.o.p32
 rw[←hT.o] at hk
 have HK:=AQ hk
 clear hl hk
 go_wp2_with ((with_reducible refine aN (o:=⟨some 11, .load 53 (.tmp 10),_,_,_,_⟩) AA AA AA HLD.o ?_))
 refine(HK.o).mono ?_
 rintro e w4 ⟨aY,Y,cY,HY,rfl,hY,hYn,hb⟩
 have HYO:=AQ hY.isRow
 have HYN:=AQ hYn
 have HYL:Hid (Y.length≤32):=by rw[Hid,HY.o];exact Nat.le_of_eq HI0.o.p32
 have HO3b:=AQ (HO3.o.stay hb)
 have HB4:=AQ (HB3.o.trans (hb.mono HB3.o.size))
 clear hY hYn hb HK HLD HO3 HB3 HI3
 go_upto_region 3 with ((with_reducible refine bU (o:=⟨some 13, .call _,_,_,_,_⟩) bt (.tmp 9) (.tmp 12) AA AA HO3b.o HYO.o HYN.o (by have:=HYL.o;have:=HL3.o;omega) HB4.o.size AA AA ?_);intro a5 c5 w5 hO5 hg5 hn5;obtain⟨X5,hX5⟩:∃Z,Hid (Z=X3++Y):=⟨_,rfl⟩;rw[←hX5.o] at hO5 ⊢;have HO5:=AQ hO5;have HG5:=AQ hg5;clear hO5 hg5 hn5)
 have HB5:=AQ (HB4.o.trans (grown_below HG5.o HB4.o.size (fun k hk=>(HO3b.o.aK hk).1)))
 have HX5:Hid (X5=int8 M.ver.1++M.prev):=by rw[Hid,hX5.o,HX3.o,HY.o]
 have HI5:=AQ (HI0.o.keep HB5.o)
 have HL5:Hid (X5.length=40):=by rw[Hid,HX5.o,List.length_append,eX,HI0.o.p32]
 clear HY HYO HYN HYL HO3b HB4 HG5 hX5 HX3 HL3
 have c2:=HI5.o.trial
 have HK:=AQ (dZ w5 M.trial.1)
 go_wp2_with fail
 refine(HK.o).mono ?_
 rintro e w6 ⟨aY,Y,cY,HY,rfl,hY,hYn,hb⟩
 have HYO:=AQ hY.isRow
 have HYN:=AQ hYn
 have HYL:Hid (Y.length≤8):=by rw[Hid,HY.o];exact Nat.le_of_eq (aB _ _)
 have HO5b:=AQ (HO5.o.stay hb)
 have HB6:=AQ (HB5.o.trans (hb.mono HB5.o.size))
 clear hY hYn hb HK c2 HO5 HB5 HI5
 go_upto_region 4 with ((with_reducible refine bU (o:=⟨some 18, .call _,_,_,_,_⟩) bt (.tmp 14) (.tmp 17) AA AA HO5b.o HYO.o HYN.o (by have:=HYL.o;have:=HL5.o;omega) HB6.o.size AA AA ?_);intro a7 c7 w7 hO7 hg7 hn7;obtain⟨X7,hX7⟩:∃Z,Hid (Z=X5++Y):=⟨_,rfl⟩;rw[←hX7.o] at hO7 ⊢;have HO7:=AQ hO7;have HG7:=AQ hg7;clear hO7 hg7 hn7)
 have HB7:=AQ (HB6.o.trans (grown_below HG7.o HB6.o.size (fun k hk=>(HO5b.o.aK hk).1)))
 have HX7:Hid (X7=int8 M.ver.1++M.prev++int8 M.trial.1):=by rw[Hid,hX7.o,HX5.o,HY.o];rfl
 have HI7:=AQ (HI0.o.keep HB7.o)
 have HL7:Hid (X7.length=48):=by rw[Hid,HX7.o,List.length_append,List.length_append,eX,eX,HI0.o.p32]
 clear HY HYO HYN HYL HO5b HB6 HG7 hX7 HX5 HL5
 have d0:=HI7.o.d0
 have d1:=HI7.o.d1
 have d2:=HI7.o.d2
 obtain⟨F,hF⟩:=AU (jC M.cfg)
 have HFF:Hid (F=rE M.cfg):=by rw[Hid,hF.o];unfold jC;rw[if_pos HCN.o]
 have hk:=BI w7 M.cfg (HM.o.stay HB7.o).cfg HCN.o
 rw[←HFF.o] at hk
 have HK:=AQ hk
 clear hk
 go_wp2_with fail
 refine(HK.o).mono ?_
 rintro e w8 ⟨aF,cF,rfl,hOF,hb8⟩
 have HFL:Hid (F.length≤3782):=by rw[Hid,hF.o];exact HP.o.2
 have hk:=qO w8 hOF.isRow (by have:=HFL.o;omega)
 have HK2:=AQ hk
 have HO7b:=AQ (HO7.o.stay hb8)
 have HB8:=AQ (HB7.o.trans (hb8.mono HB7.o.size))
 clear hk hOF hb8 HK d0 d1 d2 HO7 HB7 HI7
 go_wp2_with fail
 refine(HK2.o).mono ?_
 rintro e w9 ⟨aY,Y,cY,HY,rfl,hY,hYn,hb⟩
 have HYO:=AQ hY.isRow
 have HYN:=AQ hYn
 have HYL:Hid (Y.length≤4000):=by rw[Hid,HY.o];have:=HFL.o;have:=bn F;omega
 have HO9:=AQ (HO7b.o.stay hb)
 have HB9:=AQ (HB8.o.trans (hb.mono HB8.o.size))
 clear hY hYn hb HK2 HO7b HB8
 go_wp2_with ((with_reducible refine bU (o:=⟨some 24, .call _,_,_,_,_⟩) bt (.tmp 19) (.tmp 23) AA AA HO9.o HYO.o HYN.o (by have:=HYL.o;have:=HL7.o;omega) HB9.o.size AA AA ?_);intro aa ca wA hOa hga hna;obtain⟨Xa,hXa⟩:∃Z,Hid (Z=X7++Y):=⟨_,rfl⟩;rw[←hXa.o] at hOa ⊢;have HOa:=AQ hOa;have HGa:=AQ hga;clear hOa hga hna)
 have HBA:=AQ (HB9.o.trans (grown_below HGa.o HB9.o.size (fun k hk=>(HO9.o.aK hk).1)))
 go_ret
 refine⟨aa,Xa,ca, ?_,rfl,HOa.o.low HB0.o.size,HB0.o.trans (HBA.o.mono HB0.o.size)⟩
 rw[Hid,hXa.o,HX7.o,HY.o,headB,FP,←hF.o]
 simp[kC]
def tO (B:Nat) (L:List UInt8) (v:Value) (w:World):Prop:=∃a c,v= .slice a L.length c∧Cit.Own 5 B w a L c
theorem Qk {B:Nat} {L:List UInt8} {v:Value} {w1 w2:World} (hb:Below w1.heap.size w1 w2) (h:tO B L v w1):tO B L v w2:=by
 obtain⟨a,c,h1,h2⟩:=h
 exact⟨a,c,h1,h2.stay hb⟩
def pz (M:aV):List UInt8:=headB M++M.tag
def Ub (g B:Nat) (C T:Array Value) (L m:List UInt8):Nat→Value→World→Prop
 | 3=>fun v _=>v=(.agg C)
 | 4=>tO (B) (L)
 | 5=>fun v _=>v=(.pointer (some ⟨g,37,none⟩))
 | 6=>fun v _=>v=(.agg T)
 | 7=>tR (m)
 | _=>fun _ _=>True
theorem NQ (g B:Nat) (C T:Array Value) (L m:List UInt8):∀d v w1 w2,Below w1.heap.size w1 w2→Ub g B C T L m d v w1→Ub g B C T L m d v w2:=by
 intro d v w1 w2 hb h
 unfold Ub at h ⊢
 split at h<;>first |exact h |exact Qz hb h |exact Qk hb h |trivial
theorem qw (w:World) (M:aV) (h:M.At w) (hcan:jK M=true):Calls Tryz.prog 20 #[.agg (cM M)] w fun e w'=>∃a c,e= .returned (.slice a (pz M).length c)∧Row w' a (pz M) c∧Below w.heap.size w w':=by
 obtain⟨C,hC⟩:=AU (cM M)
 obtain⟨w0,hw0⟩:=AV (w.alloc (.cells C 55))
 have B0:Below w.heap.size w w0:=by rw[hw0];exact(Below.refl _ w).alloc (Nat.le_refl _) _
 have hI:eY w0 w.heap.size M:=by rw[hw0,hC.o];exact eY.new w h
 have HI0:=AQ hI
 have HB0:=AQ B0
 have HM:=AQ (h.stay B0)
 have HH:Hid (∀q:After w0,Calls Tryz.prog 54 #[.agg C] q.to fun e w'=>∃a c,e= .returned (.slice a (headB M).length c)∧Cit.Own 5 w0.heap.size w' a (headB M) c∧Below q.to.heap.size q.to w'):=fun q=>by
  rw[hC.o]
  refine(BN q.to M (HM.o.stay q.bel) hcan).mono ?_
  rintro e w' ⟨a,X,c,hX,he,ho,hb⟩
  obtain rfl:X=headB M:=hX.o
  exact⟨a,c,he,ho.low q.bel.size,hb⟩
 obtain⟨T,hT⟩:=AU ((M.tag.map vb).toArray)
 have HT:Hid (∀q:After w0,Calls Tryz.prog 55 #[.agg T] q.to fun e w'=>∃a c,e= .returned (.slice a M.tag.length c)∧Row w' a M.tag c∧Below q.to.heap.size q.to w'):=fun q=>by
  rw[hT.o]
  refine(vH q.to M.tag HI0.o.t32).mono ?_
  rintro e w' ⟨a,X,c,hX,he,ho,_,hb⟩
  obtain rfl:X=M.tag:=hX.o
  exact⟨a,c,he,ho.isRow,hb⟩
 have C1:∀q:After w0,(Instr.loadAt 53 (.pointer (some ⟨w.heap.size,37,none⟩))).run Tryz.prog q.to= .ok (.agg T) q.to:=fun q=>by rw[hT.o];exact(HI0.o.keep q.bel).tag
 have C5:∀q:After w0,(Instr.loadAt 55 (.pointer (some ⟨w.heap.size,0,none⟩))).run Tryz.prog q.to= .ok (.agg C) q.to:=fun q=>by rw[hC.o];exact(HI0.o.keep q.bel).whole
 have HLN:Hid ((headB M).length≤4000∧M.tag.length=32):=by have:=mW h.p32 (jF hcan);exact⟨by omega,h.t32⟩
 obtain⟨L,hL⟩:=AU (headB M)
 rw[←hL.o] at HH HLN
 obtain⟨R,hR⟩:=AU (pz M)
 rw[←hC.o,←hR.o]
 clear hI h B0 hcan
 go_enter Tryz.func20,Tryz.ntmps20
 go_upto_region 1 with fail
 rw[←hw0]
 clear hw0
 refine rG 5 (Ub w.heap.size w0.heap.size C T L M.tag) AB AB AB AB (NQ w.heap.size w0.heap.size C T L M.tag) ?_ ?_
 ·simp only[List.take_succ_cons,List.take_zero]
  repeat' (first |exact aU |refine aI ?_ ?_)
  all_goals intro av wx hk
  ·exact .inl ⟨ah rfl,bg (.tmp 1) rfl (show av.eval (.tmp 1)=(.pointer (some ⟨w.heap.size,0,none⟩)) from((hk.o 1).trans rfl)) (C5 ⟨wx,hk.below⟩) ⟨Below.refl _ _,rfl⟩⟩
  ·exact .inl ⟨ah rfl,bJ rfl (hk.fn _) #[.agg C] (fun w=>AB) (by simp only[List.map_toArray,List.map_cons,List.map_nil,(show av.eval (.tmp 3)=(.agg C) from hk.s 3)]) ((HH.o ⟨wx,hk.below⟩).mono fun e w' ⟨b,c,he,hv,hb⟩=>⟨_,he,hb,b,c,rfl,hv⟩)⟩
  ·exact .inl ⟨ah rfl,bF (.tmp 1) rfl (show av.eval (.tmp 1)=(.pointer (some ⟨w.heap.size,0,none⟩)) from((hk.o 1).trans rfl)) (v:= .pointer (some ⟨w.heap.size,37,none⟩)) (fun w=>AB) ⟨Below.refl _ _,rfl⟩⟩
  ·exact .inl ⟨ah rfl,bg (.tmp 5) rfl (hk.s 5) (C1 ⟨wx,hk.below⟩) ⟨Below.refl _ _,rfl⟩⟩
  ·exact .inl ⟨ah rfl,bJ rfl (hk.fn _) #[.agg T] (fun w=>AB) (by simp only[List.map_toArray,List.map_cons,List.map_nil,(show av.eval (.tmp 6)=(.agg T) from hk.s 6)]) ((HT.o ⟨wx,hk.below⟩).mono fun e w' ⟨b,c,he,hv,hb⟩=>⟨_,he,hb,b,c,rfl,hv⟩)⟩
 intro av wz hbz hsame hall
 have he:=dn hsame [3,4,5,6,7] AB
 simp only[List.foldl_cons,List.foldl_nil] at he
 obtain⟨a4,c4,e4,q4⟩:=hall 4 AB
 obtain⟨a7,c7,e7,q7⟩:=hall 7 AB
 rw[show av.eval (.tmp 4)=_ from e4,show av.eval (.tmp 7)=_ from e7] at he
 generalize av.eval (.tmp 3)=y3 at he
 generalize av.eval (.tmp 5)=y5 at he
 generalize av.eval (.tmp 6)=y6 at he
 simp only[fV] at he
 dsimp only[List.set_cons_zero,List.set_cons_succ] at he
 subst he
 clear hsame hall e4 e7
 simp only[List.drop_succ_cons,List.drop_zero]
 have HQ4:=AQ q4
 have HYO:=AQ q7
 have HYN:Hid (M.tag=[]→a7=none):=fun e=>by have:=HLN.o.2;rw[e] at this;simp at this
 have HBZ:=AQ hbz
 clear q4 q7 hbz C1 C5 HH HT
 go_wp2_with ((with_reducible refine bU (o:=⟨some 8, .call _,_,_,_,_⟩) bt (.tmp 4) (.tmp 7) AA AA HQ4.o HYO.o HYN.o (by have:=HLN.o;omega) HBZ.o.size AA AA ?_);intro a9 c9 w9 hO9 hg9 hn9;obtain⟨X9,hX9⟩:∃Z,Hid (Z=L++M.tag):=⟨_,rfl⟩;rw[←hX9.o] at hO9 ⊢;have HO9:=AQ hO9;have HG9:=AQ hg9;clear hO9 hg9 hn9)
 have HB9:=AQ (HBZ.o.trans (grown_below HG9.o HBZ.o.size (fun k hk=>(HQ4.o.aK hk).1)))
 have e9:X9=R:=by rw[hX9.o,hL.o,hR.o];rfl
 go_ret
 refine⟨a9,c9,by rw[←e9];rfl, ?_,HB0.o.trans (HB9.o.mono HB0.o.size)⟩
 rw[←e9];exact HO9.o.isRow
open Go Go.RowKit Go.Cit
theorem zX (w:World) (M:aV) (h:M.At w):Calls Tryz.prog 19 #[.agg (cM M)] w fun e w'=>e= .returned (.agg ((ji M).map vb).toArray)∧Below w.heap.size w w':=by
 have HZ:=AQ (bP aH rfl)
 have HA:=AQ (fun ρ d ty ps af w=>jO ρ d ty ps (af:=af) w)
 have HZT:=AQ (fun ρ d ty ps af w=>Nz ρ d ty ps (af:=af) w)
 obtain⟨Z,hZ⟩:=AU ((aH.map vb).toArray)
 rw[←hZ.o] at HZ HA HZT
 obtain⟨C,hC⟩:=AU (cM M)
 obtain⟨w0,hw0⟩:=AV ((w.alloc (.cells C 55)).alloc (.cells Z 53))
 have B1:Below (w.alloc (.cells C 55)).heap.size (w.alloc (.cells C 55)) w0:=by rw[hw0];exact(Below.refl _ _).alloc (Nat.le_refl _) _
 have B0:Below w.heap.size w w0:=((Below.refl _ w).alloc (Nat.le_refl _) _).trans (B1.mono AO)
 have hI:eY w0 w.heap.size M:=by rw[hC.o] at B1;exact(eY.new w h).keep B1
 obtain⟨g,hg⟩:=AV (w.heap.size+1)
 have hgb:w0.heap[g]? =some (.cells Z 53 (0,0)):=by
  rw[hw0,hg];have:=heap_alloc_new (w.alloc (.cells C 55)) (.cells Z 53);simpa using this
 have hgw:w.heap.size≤g:=by omega
 have HGW:=AQ hgw
 have HG:=AQ hgb
 have hm:=hI.whole
 rw[←hC.o] at hm
 have HL:=AQ hm
 have HB0:=AQ B0
 have HMV:=AQ (h.stay B0)
 have HCV:Hid (∀w1,Below w0.heap.size w0 w1→jK M=true→Calls Tryz.prog 20 #[.agg C] w1 fun e w'=>∃a c,e= .returned (.slice a (pz M).length c)∧Row w' a (pz M) c∧Below w1.heap.size w1 w'):=fun w1 hb hc=>by rw[hC.o];exact qw w1 M (HMV.o.stay hb) hc
 have hcn:=oh w0 M (h.stay B0)
 obtain⟨k,hk⟩:=AU (jK M)
 rw[←hk.o,←hC.o] at hcn
 have HCN:=AQ hcn
 obtain⟨R,hR⟩:=AU (ji M)
 have HR32:Hid (R.length=32):=by rw[Hid,hR.o];exact kK _
 have HLB:Hid (jK M=true→(pz M).length≤4000):=fun hc=>by have:=mW h.p32 (jF hc);have:=h.t32;unfold pz;rw[List.length_append];omega
 have HI9:=AQ hI
 rw[←hR.o,←hC.o]
 clear hgb hgw hI hm h B0 B1 hcn
 go_enter Tryz.func19,Tryz.ntmps19
 go_upto_region 1 with ((with_reducible refine aj (o:=⟨some 2, .alloc _,_,_,_,_⟩) AA (HA.o _ _ _ _ _ _) ?_))
 rw[←hw0,show(w.alloc (.cells C 55)).heap.size=g by rw[hg];simp]
 have HG1:=AQ hg
 clear hw0 hg
 go_wp2_with ((with_reducible refine aN (o:=⟨some 3, .load 55 (.tmp 1),_,_,_,_⟩) AA AA AA HL.o ?_))
 refine(HCN.o).mono ?_
 rintro e w1 ⟨rfl,hb1⟩
 have HB1:=AQ hb1
 have HGA:=AQ (aG HG.o hb1)
 have hw:=(HI9.o.keep hb1).whole
 rw[←hC.o] at hw
 have HL1:=AQ hw
 clear HL HCN hb1 hw
 cases k with
 |
  false=>
  have HRZ:Hid ((R.map vb).toArray=Z):=by rw[Hid,hR.o,ji,←hk.o,hZ.o];rfl
  go_wp2_with (first |((with_reducible refine aj (o:=⟨some 6, .build _ _,_,_,_,_⟩) AA (HZT.o _ _ _ _ _ _) ?_)) |((with_reducible refine ay (o:=⟨none, .store _ (.tmp 2) (.tmp 6),_,_,_,_⟩) dP (.tmp 2) (.tmp 6) AA AA AA AA AA HGA.o HZ.o.1 HZ.o.1 HZ.o.2 ?_);intro w5 hbw5 hSw5;have HBw5:=AQ hbw5;have HSw5:=AQ hSw5;clear hbw5 hSw5))
  have HBB:=AQ (HB0.o.trans (HB1.o.mono HB0.o.size))
  refine bodyPost_ret (ig dP rfl rfl HBw5.o HZ.o.1) rfl ⟨by rw[HRZ.o], ?_⟩
  exact HBB.o.trans (HSw5.o.below HBB.o.size (fun k hk=>by have:=HGW.o;omega))
 |
  true=>
  have hcv:=HCV.o w1 HB1.o hk.o.symm
  obtain⟨F,hF⟩:=AU (pz M)
  rw[←hF.o] at hcv
  have HC1:=AQ hcv
  have HFL:Hid (F.length≤4000):=by rw[Hid,hF.o];exact HLB.o hk.o.symm
  have HRS:Hid (R=jX F):=by rw[Hid,hR.o,ji,←hk.o,if_pos rfl,hF.o];rfl
  clear hcv
  go_wp2_with ((with_reducible refine aN (o:=⟨some 7, .load 55 (.tmp 1),_,_,_,_⟩) AA AA AA HL1.o ?_))
  refine(HC1.o).mono ?_
  rintro e w2 ⟨a2,c2,rfl,hr2,hb2⟩
  have hs:=EP w2 a2 F c2 hr2 (by have:=HFL.o;omega)
  rw[←HRS.o] at hs
  have HS:=AQ hs
  have HB2:=AQ (HB1.o.trans (hb2.mono HB1.o.size))
  clear hs hr2 hb2 HC1
  go_wp2_with fail
  refine(HS.o).mono ?_
  rintro e w3 ⟨rfl,hb3⟩
  have HB3:=AQ (HB2.o.trans (hb3.mono HB2.o.size))
  have HGB:=AQ (aG HG.o HB3.o)
  have HT:=AQ (bP R HR32.o)
  obtain⟨T,hT⟩:=AU ((R.map vb).toArray)
  rw[←hT.o] at HT
  rw[←hT.o]
  clear HS hb3
  go_wp2_with ((with_reducible refine ay (o:=⟨none, .store _ (.tmp 2) (.tmp 9),_,_,_,_⟩) dP (.tmp 2) (.tmp 9) AA AA AA AA AA HGB.o HZ.o.1 HT.o.1 HT.o.2 ?_);intro w5 hbw5 hSw5;have HBw5:=AQ hbw5;have HSw5:=AQ hSw5;clear hbw5 hSw5)
  have HBB:=AQ (HB0.o.trans (HB3.o.mono HB0.o.size))
  refine bodyPost_ret (ig dP rfl rfl HBw5.o HT.o.1) rfl ⟨by rw[hT.o], ?_⟩
  exact HBB.o.trans (HSw5.o.below HBB.o.size (fun k hk=>by have:=HGW.o;omega))
open Go Go.RowKit Go.Cit
def VH (p1 p2:Nat) (h1 h2 k1 k2:Bool):Nat→Value
 | 24=>(.bool h1)
 | 25=>(.bool h1)
 | 26=>(bif h1 then (.bool h2) else undef)
 | 27=>(.bool (h1 && h2))
 | 28=>(.bool (h1 && h2))
 | 29=>(bif (h1 && h2) then (.pointer (some ⟨p1,3,none⟩)) else undef)
 | 30=>(bif (h1 && h2) then (.bool k1) else undef)
 | 31=>(.bool ((h1 && h2) && k1))
 | 32=>(.bool ((h1 && h2) && k1))
 | 33=>(bif ((h1 && h2) && k1) then (.pointer (some ⟨p2,3,none⟩)) else undef)
 | 34=>(bif ((h1 && h2) && k1) then (.bool k2) else undef)
 | 35=>(.bool (((h1 && h2) && k1) && k2))
 | 6=>(.bool (((h1 && h2) && k1) && k2))
 | _=>undef
def UF (p1 p2:Nat) (h1 h2 _ _:Bool):Nat→Value
 | 8=>(.pointer (some ⟨p1,0,none⟩))
 | 9=>(.bool h1)
 | 10=>(.pointer (some ⟨p2,0,none⟩))
 | 11=>(.bool h2)
 | _=>undef
def VL (p1 p2:Nat) (s1 s2:Int) (b g:Bool):Nat→Value
 | 36=>(.bool b)
 | 37=>(.bool b)
 | 38=>(.bool b)
 | 39=>(bif b then (.pointer (some ⟨p1,1,none⟩)) else undef)
 | 40=>(bif b then (.pointer (some ⟨p1,2,none⟩)) else undef)
 | 41=>(bif b then (.int .i64 s1) else undef)
 | 42=>(bif b then (.pointer (some ⟨p2,1,none⟩)) else undef)
 | 43=>(bif b then (.pointer (some ⟨p2,2,none⟩)) else undef)
 | 44=>(bif b then (.int .i64 s2) else undef)
 | 45=>(bif b then (.bool g) else undef)
 | 46=>(.bool (b && g))
 | 6=>(.bool b)
 | 7=>(.bool (b && g))
 | _=>undef
def UW (p1 p2:Nat) (_ _:Int) (b _:Bool):Nat→Value
 | 6=>(.bool b)
 | 8=>(.pointer (some ⟨p1,0,none⟩))
 | 10=>(.pointer (some ⟨p2,0,none⟩))
 | _=>undef
def nK (ps qs:List dL) (id:Int):Bool:=((jd ps id && jd qs id) && (qQ ps id).keep) && (qQ qs id).keep
def sZ (ps qs:List dL) (id:Int):Bool:=nK ps qs id && decide ((qQ ps id).reg.size.1=(qQ qs id).reg.size.1)
def BK (V W:aO):Bool:=fitsV V && fitsV W
theorem zx (w:World) (V W:aO):gU ((w.alloc (.cells #[.slice V.wa V.ws.length V.wc, .slice V.pa V.ps.length V.pc, .slice V.ca V.cs.length V.cc] 26)).alloc (.cells #[.slice W.wa W.ws.length W.wc, .slice W.pa W.ps.length W.pc, .slice W.ca W.cs.length W.cc] 26)) w.heap.size V∧gU ((w.alloc (.cells #[.slice V.wa V.ws.length V.wc, .slice V.pa V.ps.length V.pc, .slice V.ca V.cs.length V.cc] 26)).alloc (.cells #[.slice W.wa W.ws.length W.wc, .slice W.pa W.ps.length W.pc, .slice W.ca W.cs.length W.cc] 26)) (w.heap.size+1) W:=by
 refine⟨(dK w V _).keep ((Below.refl _ _).alloc (Nat.le_refl _) _), ?_⟩
 have:=dK (w.alloc (.cells #[.slice V.wa V.ws.length V.wc, .slice V.pa V.ps.length V.pc, .slice V.ca V.cs.length V.cc] 26)) W 26
 simpa using this
theorem IL (w:World) (V W:aO) (h:V.At w) (k:W.At w) (hs:cu V) (ks:cu W):Calls Tryz.prog 155 #[.agg #[.slice V.wa V.ws.length V.wc, .slice V.pa V.ps.length V.pc, .slice V.ca V.cs.length V.cc], .agg #[.slice W.wa W.ws.length W.wc, .slice W.pa W.ps.length W.pc, .slice W.ca W.cs.length W.cc]] w fun e w'=>e= .returned (.bool (BK V W))∧Below w.heap.size w w':=by
 obtain⟨w0,hw0⟩:=AV ((w.alloc (.cells #[.slice V.wa V.ws.length V.wc, .slice V.pa V.ps.length V.pc, .slice V.ca V.cs.length V.cc] 26)).alloc (.cells #[.slice W.wa W.ws.length W.wc, .slice W.pa W.ps.length W.pc, .slice W.ca W.cs.length W.cc] 26))
 have B0:Below w.heap.size w w0:=by rw[hw0];exact((Below.refl _ w).alloc (Nat.le_refl _) _).alloc AO _
 have hI:=zx w V W
 rw[←hw0] at hI
 have HI:=AQ hI
 have HK:=AQ (k.stay B0)
 have hf:=Ad w0 V (h.stay B0) hs
 obtain⟨f,hf0⟩:=AU (fitsV V)
 obtain⟨f2,hf2⟩:=AU (fitsV W)
 have HR:Hid (BK V W=(f && f2)):=by rw[Hid,hf0.o,hf2.o];rfl
 rw[←hf0.o] at hf
 have HF:=AQ hf
 have HB0:=AQ B0
 obtain⟨R,hR⟩:=AU (BK V W)
 rw[←hR.o] at HR ⊢
 clear h k B0 hI hf
 obtain⟨⟨c0,c1,c2⟩,⟨d0,d1,d2⟩⟩:=HI.o
 cases f with
 |
  false=>
  have HRF:Hid (R=false):=HR.o
  go_enter Tryz.func155,Tryz.ntmps155
  go_wp2_with fail
  rw[←hw0]
  clear hw0
  refine(HF.o).mono ?_
  rintro e w1 ⟨rfl,hb1⟩
  have HB1:=AQ (HB0.o.trans (hb1.mono HB0.o.size))
  clear hb1 c0 c1 c2 d0 d1 d2
  go_wp2_with fail
  go_ret
  exact⟨aJ HRF.o.symm,HB1.o⟩
 |
  true=>
  have HRF:Hid (R=f2):=HR.o
  go_enter Tryz.func155,Tryz.ntmps155
  go_wp2_with fail
  rw[←hw0]
  clear hw0
  refine(HF.o).mono ?_
  rintro e w1 ⟨rfl,hb1⟩
  have hf:=Ad w1 W (HK.o.stay hb1) ks
  rw[←hf2.o] at hf
  have HF2:=AQ hf
  have HB1:=AQ (HB0.o.trans (hb1.mono HB0.o.size))
  clear c0 c1 c2 d0 d1 d2
  obtain⟨d0,d1,d2⟩:=HI.o.2.keep hb1
  clear hb1 hf
  go_wp2_with fail
  refine(HF2.o).mono ?_
  rintro e w2 ⟨rfl,hb2⟩
  have HB2:=AQ (HB1.o.trans (hb2.mono HB1.o.size))
  clear hb2 d0 d1 d2
  go_wp2_with fail
  go_ret
  exact⟨aJ HRF.o.symm,HB2.o⟩
theorem Jo (w:World) (V W:aO) (h:V.At w) (k:W.At w) (hs:cu V) (ks:cu W) (id:Int):Calls Tryz.prog 156 #[.agg #[.slice V.wa V.ws.length V.wc, .slice V.pa V.ps.length V.pc, .slice V.ca V.cs.length V.cc], .agg #[.slice W.wa W.ws.length W.wc, .slice W.pa W.ps.length W.pc, .slice W.ca W.cs.length W.cc], .int .i64 id] w fun e w'=>e= .returned (.tuple #[.bool (nK V.ps W.ps id), .bool (sZ V.ps W.ps id)])∧Below w.heap.size w w':=by
 obtain⟨w0,hw0⟩:=AV ((w.alloc (.cells #[.slice V.wa V.ws.length V.wc, .slice V.pa V.ps.length V.pc, .slice V.ca V.cs.length V.cc] 26)).alloc (.cells #[.slice W.wa W.ws.length W.wc, .slice W.pa W.ps.length W.pc, .slice W.ca W.cs.length W.cc] 26))
 have B0:Below w.heap.size w w0:=by rw[hw0];exact((Below.refl _ w).alloc (Nat.le_refl _) _).alloc AO _
 have hI:=zx w V W
 rw[←hw0] at hI
 have HI:=AQ hI
 have HK:=AQ (k.stay B0)
 have HB0:=AQ B0
 have HP:=AQ (yX w0 V (h.stay B0) hs id)
 obtain⟨h1,hh1⟩:=AU (jd V.ps id)
 obtain⟨h2,hh2⟩:=AU (jd W.ps id)
 rw[←hh1.o] at HP
 obtain⟨RB,hRB⟩:=AU (nK V.ps W.ps id)
 obtain⟨RC,hRC⟩:=AU (sZ V.ps W.ps id)
 rw[←hRB.o,←hRC.o]
 clear h k B0 hI
 obtain⟨⟨c0,c1,c2⟩,⟨d0,d1,d2⟩⟩:=HI.o
 go_enter Tryz.func156,Tryz.ntmps156
 go_wp2_with fail
 rw[←hw0]
 clear hw0
 refine(HP.o).mono ?_
 rintro e w1 ⟨x,rfl,hx,hO,hb1⟩
 obtain⟨wa,hwa⟩:=AV (w1.alloc (.cells (cA x) 46))
 obtain⟨p1,hp1⟩:=AV (w1.heap.size)
 have hba:Below w1.heap.size w1 wa:=by rw[hwa];exact(Below.refl _ w1).alloc (Nat.le_refl _) _
 have hX:wa.heap[p1]? =some (.cells (cA x) 46 (0,0)):=by rw[hwa,hp1];exact heap_alloc_new _ _
 have hb01:=hb1.trans (hba.mono hb1.size)
 have HX:=AQ (And.intro hX hx)
 have hpg:=yX wa W (HK.o.stay hb01) ks id
 rw[←hh2.o] at hpg
 have HP2:=AQ hpg
 have HB1:=AQ (HB0.o.trans (hb01.mono HB0.o.size))
 clear c0 c1 c2 d0 d1 d2
 have hI2:=HI.o.2.keep hb01
 rw[hwa] at hI2
 obtain⟨d0,d1,d2⟩:=hI2
 clear hx hO hb1 hba hX hb01 hpg HP
 go_wp2_with fail
 rw[←hwa,←hp1]
 clear hwa hp1 d0 d1 d2
 refine(HP2.o).mono ?_
 rintro e w2 ⟨y,rfl,hy,hO,hb2⟩
 obtain⟨wb,hwb⟩:=AV (w2.alloc (.cells (cA y) 46))
 obtain⟨p2,hp2⟩:=AV (w2.heap.size)
 have hbb:Below w2.heap.size w2 wb:=by rw[hwb];exact(Below.refl _ w2).alloc (Nat.le_refl _) _
 have hY:wb.heap[p2]? =some (.cells (cA y) 46 (0,0)):=by rw[hwb,hp2];exact heap_alloc_new _ _
 have hb12:=hb2.trans (hbb.mono hb2.size)
 have hX2:=aG HX.o.1 hb12
 have HXY:=AQ (And.intro hX2 hY)
 have HB2:=AQ (HB1.o.trans (hb12.mono HB1.o.size))
 obtain⟨k1,hk1⟩:=AU x.keep
 obtain⟨k2,hk2⟩:=AU y.keep
 obtain⟨s1,hs1⟩:=AU x.reg.size.1
 obtain⟨s2,hs2⟩:=AU y.reg.size.1
 obtain⟨b,hbb0⟩:=AU ((((h1 && h2) && k1) && k2))
 have hbb:=hbb0
 obtain⟨g,hgg⟩:∃g,Hid (((s1:Int)==s2)=g):=⟨_,rfl⟩
 obtain⟨c,hcc⟩:=AU ((b && g))
 have e1:(qQ V.ps id).keep=k1∧(qQ V.ps id).reg.size.1=s1:=by rw[←HX.o.2,hk1.o,hs1.o];exact⟨rfl,rfl⟩
 have e2:(qQ W.ps id).keep=k2∧(qQ W.ps id).reg.size.1=s2:=by rw[←hy,hk2.o,hs2.o];exact⟨rfl,rfl⟩
 have HRB:Hid (nK V.ps W.ps id=b):=by rw[Hid,hbb0.o,nK,e1.1,e2.1,hh1.o,hh2.o]
 have HRC:Hid (sZ V.ps W.ps id=c):=by rw[Hid,hcc.o,sZ,HRB.o,e1.2,e2.2,←hgg.o];congr 1
 have d1:∀q:After wb,q.to.cell? ⟨p1,3,none⟩=some (.bool k1):=fun q=>After.cell (by rw[World.cell?,hX2,hk1.o];rfl) q
 have d2:∀q:After wb,q.to.cell? ⟨p2,3,none⟩=some (.bool k2):=fun q=>After.cell (by rw[World.cell?,hY,hk2.o];rfl) q
 clear hy hO hb2 hX2 hY hb12 e1 e2
 go_upto_region 3 with fail
 rw[←hwb,←hp2]
 clear hwb hp2
 refine fQ (VH p1 p2 h1 h2 k1 k2) (UF p1 p2 h1 h2 k1 k2) [8,9,10,11] AB ⟨rfl,rfl,rfl,rfl,trivial⟩ ?_ ?_
 ·repeat' (first |exact aU |refine aI ?_ ?_)
  all_goals intro a hk
  ·
   exact .inl ⟨ah rfl,bZ (.tmp 9) rfl (hk.o 9)⟩
  ·
   exact .inl ⟨ah rfl,bZ (.tmp 24) rfl (hk.s 24)⟩
  ·
   cases h1<;>first |exact hk.no 25 true |skip
   exact .inl ⟨hk.yes 25 true,bZ (.tmp 11) rfl (hk.o 11)⟩
  ·
   cases h1 with
   |
    true=>
    exact .inl ⟨ah rfl,aT rfl true (hk.s 25) (hk.s 26)⟩
   |
    false=>
    exact .inl ⟨ah rfl,aT rfl false (hk.s 25) rfl⟩
  ·
   exact .inl ⟨ah rfl,bZ (.tmp 27) rfl (hk.s 27)⟩
  ·
   cases h1<;>cases h2<;>first |exact hk.no 28 true |skip
   exact .inl ⟨hk.yes 28 true,eP (.tmp 8) rfl (hk.o 8) (v:=(.pointer (some ⟨p1,3,none⟩))) (fun w=>AB) rfl⟩
  ·
   cases h1<;>cases h2<;>first |exact hk.no 28 true |skip
   exact .inl ⟨hk.yes 28 true,dG (.tmp 29) rfl (hk.s 29) (v:=(.bool k1)) (fun q=>bM (fun w=>AB) (d1 q)) rfl⟩
  ·
   cases h1 with
   |
    true=>
    cases h2 with
    |
     true=>
     exact .inl ⟨ah rfl,aT rfl true (hk.s 28) (hk.s 30)⟩
    |
     false=>
     exact .inl ⟨ah rfl,aT rfl false (hk.s 28) rfl⟩
   |
    false=>
    exact .inl ⟨ah rfl,aT rfl false (hk.s 28) rfl⟩
  ·
   exact .inl ⟨ah rfl,bZ (.tmp 31) rfl (hk.s 31)⟩
  ·
   cases h1<;>cases h2<;>cases k1<;>first |exact hk.no 32 true |skip
   exact .inl ⟨hk.yes 32 true,eP (.tmp 10) rfl (hk.o 10) (v:=(.pointer (some ⟨p2,3,none⟩))) (fun w=>AB) rfl⟩
  ·
   cases h1<;>cases h2<;>cases k1<;>first |exact hk.no 32 true |skip
   exact .inl ⟨hk.yes 32 true,dG (.tmp 33) rfl (hk.s 33) (v:=(.bool k2)) (fun q=>bM (fun w=>AB) (d2 q)) rfl⟩
  ·
   cases h1 with
   |
    true=>
    cases h2 with
    |
     true=>
     cases k1 with
     |
      true=>
      exact .inl ⟨ah rfl,aT rfl true (hk.s 32) (hk.s 34)⟩
     |
      false=>
      exact .inl ⟨ah rfl,aT rfl false (hk.s 32) rfl⟩
    |
     false=>
     exact .inl ⟨ah rfl,aT rfl false (hk.s 32) rfl⟩
   |
    false=>
    exact .inl ⟨ah rfl,aT rfl false (hk.s 32) rfl⟩
  ·
   exact .inl ⟨ah rfl,nH (.tmp 35) rfl (hk.s 35)⟩
 intro a ⟨w4,hb4⟩ hsame hall
 have he:=dn hsame [24,25,26,27,28,29,30,31,32,33,34,35,6] AB
 simp only[List.foldl_cons,List.foldl_nil] at he
 rw[show a.eval (.tmp 6)=(.bool b) from(hall 6 AB).trans (congrArg Value.bool hbb.o.symm)] at he
 generalize a.eval (.tmp 24)=x24 at he
 generalize a.eval (.tmp 25)=x25 at he
 generalize a.eval (.tmp 26)=x26 at he
 generalize a.eval (.tmp 27)=x27 at he
 generalize a.eval (.tmp 28)=x28 at he
 generalize a.eval (.tmp 29)=x29 at he
 generalize a.eval (.tmp 30)=x30 at he
 generalize a.eval (.tmp 31)=x31 at he
 generalize a.eval (.tmp 32)=x32 at he
 generalize a.eval (.tmp 33)=x33 at he
 generalize a.eval (.tmp 34)=x34 at he
 generalize a.eval (.tmp 35)=x35 at he
 simp only[fV] at he
 dsimp only[List.set_cons_zero,List.set_cons_succ] at he
 subst he
 clear hsame hall
 have d3:∀q:After w4,q.to.cell? ⟨p1,2,none⟩=some (.int .i64 s1):=fun q=>After.cell (by rw[World.cell?,aG HXY.o.1 hb4,hs1.o];rfl) q
 have d4:∀q:After w4,q.to.cell? ⟨p2,2,none⟩=some (.int .i64 s2):=fun q=>After.cell (by rw[World.cell?,aG HXY.o.2 hb4,hs2.o];rfl) q
 go_wp2_with fail
 refine ni (VL p1 p2 s1 s2 b g) (UW p1 p2 s1 s2 b g) [6,8,10] AB AB AB ⟨rfl,rfl,rfl,trivial⟩ ?_ ?_
 ·repeat' (first |exact aU |refine aI ?_ ?_)
  all_goals intro a hk
  ·
   exact .inl ⟨ah rfl,bZ (.tmp 6) rfl (hk.o 6)⟩
  ·
   exact .inl ⟨ah rfl,bZ (.tmp 6) rfl (hk.o 6)⟩
  ·
   exact .inl ⟨ah rfl,bZ (.tmp 37) rfl (hk.s 37)⟩
  ·
   cases b<;>first |exact hk.no 38 true |skip
   exact .inl ⟨hk.yes 38 true,eP (.tmp 8) rfl (hk.o 8) (v:=(.pointer (some ⟨p1,1,none⟩))) (fun w=>AB) rfl⟩
  ·
   cases b<;>first |exact hk.no 38 true |skip
   exact .inl ⟨hk.yes 38 true,eP (.tmp 39) rfl (hk.s 39) (v:=(.pointer (some ⟨p1,2,none⟩))) (fun w=>AB) rfl⟩
  ·
   cases b<;>first |exact hk.no 38 true |skip
   exact .inl ⟨hk.yes 38 true,dG (.tmp 40) rfl (hk.s 40) (v:=(.int .i64 s1)) (fun q=>bM (fun w=>AB) (d3 q)) rfl⟩
  ·
   cases b<;>first |exact hk.no 38 true |skip
   exact .inl ⟨hk.yes 38 true,eP (.tmp 10) rfl (hk.o 10) (v:=(.pointer (some ⟨p2,1,none⟩))) (fun w=>AB) rfl⟩
  ·
   cases b<;>first |exact hk.no 38 true |skip
   exact .inl ⟨hk.yes 38 true,eP (.tmp 42) rfl (hk.s 42) (v:=(.pointer (some ⟨p2,2,none⟩))) (fun w=>AB) rfl⟩
  ·
   cases b<;>first |exact hk.no 38 true |skip
   exact .inl ⟨hk.yes 38 true,dG (.tmp 43) rfl (hk.s 43) (v:=(.int .i64 s2)) (fun q=>bM (fun w=>AB) (d4 q)) rfl⟩
  ·
   cases b<;>first |exact hk.no 38 true |skip
   exact .inl ⟨hk.yes 38 true,jG rfl (hk.s 41) (hk.s 44) (v:= .bool (((s1:Int)==s2))) (fun w=>AB) (congrArg Value.bool (hgg.o))⟩
  ·
   cases b with
   |
    true=>
    exact .inl ⟨ah rfl,aT rfl true (hk.s 38) (hk.s 45)⟩
   |
    false=>
    exact .inl ⟨ah rfl,aT rfl false (hk.s 38) rfl⟩
  ·
   exact .inl ⟨ah rfl,nH (.tmp 36) rfl (hk.s 36)⟩
  ·
   exact .inl ⟨ah rfl,nH (.tmp 46) rfl (hk.s 46)⟩
 intro a ⟨w5,hb5⟩ hsame hall
 have he:=dn hsame [36,37,38,39,40,41,42,43,44,45,46,6,7] AB
 simp only[List.foldl_cons,List.foldl_nil] at he
 rw[show a.eval (.tmp 6)=(.bool b) from hall 6 AB,show a.eval (.tmp 7)=(.bool c) from(hall 7 AB).trans (congrArg Value.bool hcc.o.symm)] at he
 generalize a.eval (.tmp 36)=x36 at he
 generalize a.eval (.tmp 37)=x37 at he
 generalize a.eval (.tmp 38)=x38 at he
 generalize a.eval (.tmp 39)=x39 at he
 generalize a.eval (.tmp 40)=x40 at he
 generalize a.eval (.tmp 41)=x41 at he
 generalize a.eval (.tmp 42)=x42 at he
 generalize a.eval (.tmp 43)=x43 at he
 generalize a.eval (.tmp 44)=x44 at he
 generalize a.eval (.tmp 45)=x45 at he
 generalize a.eval (.tmp 46)=x46 at he
 simp only[fV] at he
 dsimp only[List.set_cons_zero,List.set_cons_succ] at he
 subst he
 clear hsame hall
 go_wp2_with fail
 (try simp only[Exit.inBlock,Exit.then])
 refine bodyPost_ret (results_tmp2 rfl _ _ _) rfl ?_
 exact⟨congrArg Ending.returned (by rw[hRB.o,HRB.o,hRC.o,HRC.o];rfl),HB2.o.trans ((hb4.trans (hb5.mono hb4.size)).mono HB2.o.size)⟩
end Go.Proofs.YtlholdllibghbaaGreat
