/- Texts of the proof, one behind the other: Tail, ManRefH, ManRefI, ManRefJ. No condition but those that each names. -/
import Derived.Test.YtlholdllibghbaaGreatG10
import Derived.Test.YtlholdllibghbaaGreatMan
import Derived.Test.YtlholdllibghbaaGreatManRef
import Derived.Test.YtlholdllibghbaaGreatG31
import Derived.Test.YtlholdllibghbaaGreatKit
set_option maxRecDepth 100000
set_option maxHeartbeats 8000000
namespace Go.Cit
open Go Go.RowKit
section
variable {P:Program} {Q:Exit→Act→World→Prop}
def BD (ops:Array Oper) (c:Nat):Bool:=(List.range ops.size).all fun i=>decide (i<c) || (List.range i).all fun j=>iq ops ops.size i j
theorem ou {ops:Array Oper} {c:Nat} (h:BD ops c=true) {i j:Nat} (hi:i<ops.size) (hc:c≤i) (hj:j<i):iq ops ops.size i j=true:=by
 have h1:=List.all_eq_true.1 h i (List.mem_range.2 hi)
 simp only[Bool.or_eq_true,decide_eq_true_eq] at h1
 rcases h1 with h1 |h1
 ·omega
 ·exact List.all_eq_true.1 h1 j (List.mem_range.2 hj)
theorem wO {ops:Array Oper} {m:Nat} (hs:jF ops m=true):∀(listed:Array Bool),listed.size=ops.size→Region.ready .any ops listed=[]→∀i,i<ops.size→listed.getD i false=true:=by
 intro listed hsz hr i
 induction i using Nat.strongRecOn with
 |
  ind i ih=>
  intro hi
  cases hl:listed.getD i true with
  |
   true=>
   have hi':i<listed.size:=by omega
   simpa[Array.getD,hi'] using hl
  |
   false=>
   exfalso
   have hm:i∈Region.ready .any ops listed:=by
    rw[mem_ready]
    refine⟨hl,ops[i],by simp[hi],fun e he hb=> ?_⟩
    have:=(bY hs (i:=i) (o:=ops[i]) (by simp[hi])).1 e he hb
    exact ih e.on this AL
   rw[hr] at hm
   simp at hm
theorem PX {l:List Oper} {m c:Nat} (hs:jF l.toArray m=true) (hl:BD l.toArray c=true):∀(fuel:Nat) (listed:Array Bool) (i:Nat) (a:Act) (w:World),wV listed l.toArray.size≤fuel→listed.size=l.toArray.size→
 (∀j,j<l.length→(listed.getD j false=true↔j<i))→c≤i→wpList P l.toArray Q (l.drop i) a w→wpAny P .any l.toArray Q fuel listed a w:=by
 have hfin:∀(listed:Array Bool) (i:Nat) (a:Act) (w:World),(∀j,j<l.length→(listed.getD j false=true↔j<i))→(∀j,j<l.toArray.size→listed.getD j false=true)→wpList P l.toArray Q (l.drop i) a w→Q .normal a w:=by
  intro listed i a w hd hall hw
  have:l.drop i=[]:=List.drop_eq_nil_of_le (by
   rcases Nat.lt_or_ge i l.length with h |h
   ·have:=(hd i h).1 (hall i (by simpa using h));omega
   ·exact h)
  rw[this] at hw
  exact hw
 intro fuel
 induction fuel with
 |
  zero=>
  intro listed i a w hf hsz hd hci hw
  have hall:=qc (Nat.le_zero.1 hf)
  have hr:Region.ready .any l.toArray listed=[]:=by
   apply List.eq_nil_iff_forall_not_mem.2
   intro j hj
   rw[mem_ready] at hj
   obtain⟨h0,o,ho,_⟩:=hj
   rw[hall j (Array.getElem?_eq_some_iff.1 ho).1] at h0
   simp at h0
  exact⟨hr,hfin listed i a w hd (wO hs listed hsz hr) hw⟩
 |
  succ fuel ih=>
  intro listed i a w hf hsz hd hci hw
  refine⟨fun hr=>hfin listed i a w hd (wO hs listed hsz hr) hw,fun k hk=> ?_⟩
  obtain⟨h0,o,ho,hdep⟩:=mem_ready.1 hk
  have hlt:k<l.toArray.size:=(Array.getElem?_eq_some_iff.1 ho).1
  have hltl:k<l.length:=by simpa using hlt
  have hk0:listed.getD k false=false:=by
   have hi':k<listed.size:=by omega
   simpa[Array.getD,hi'] using h0
  have hki:k=i:=by
   have h1:¬k<i:=fun h=>by rw[(hd k hltl).2 h] at hk0;exact absurd hk0 AP
   rcases Nat.lt_or_ge i k with h |h
   ·have hcl':Closed l.toArray (upd (fun j=>listed.getD j false) k):=by
     intro j p hp hj e he hb
     by_cases hij:k=j
     ·subst hij
      obtain rfl:o=p:=by rw[ho] at hp;exact Option.some.inj hp
      unfold upd
      split
      ·rfl
      ·exact hdep e he hb
     ·rw[aA _ hij] at hj
      have hjl:j<l.length:=by have:=(Array.getElem?_eq_some_iff.1 hp).1;simpa using this
      have h2:=(hd j hjl).1 hj
      have h3:=(bY hs hp).1 e he hb
      unfold upd
      split
      ·rfl
      ·exact(hd _ AL).2 AL
    have:=hcl'.needs l.toArray.size k i (ou hl hlt AL h) (upd_same _ _)
    rw[aA _ AL] at this
    have:=(hd i AL).1 this
    omega
   ·omega
  subst hki
  have hdr:l.drop k=o::l.drop (k+1):=by
   rw[List.drop_eq_getElem_cons hltl];congr 1
   have:l[k]? =some o:=by simpa using ho
   exact(List.getElem?_eq_some_iff.1 this).2
  rw[hdr] at hw
  have hw':wpOp P l.toArray Q k (wpList P l.toArray Q (l.drop (k+1))) a w:=by
   unfold wpOp
   rw[ho]
   exact hw
  refine wpOp_mono (fun a' w' h=>ih _ (k+1) a' w' ?_ (by simpa using hsz) (fun j hj=> ?_) AL h) hw'
  ·have:=ru (n:=l.toArray.size) hlt AL h0
   omega
  ·by_cases hij:k=j
   ·subst hij
    have hi':k<listed.size:=by omega
    simp[hi']
   ·rw[getD_set_ne false hij,hd j hj];omega
theorem pF {id:Nat} {a0:Act} {w:World} {l:List Oper} (c:Nat) (T:Nat→Value→World→Prop)
 (hm:P.follows .mixedOrders=true) (hs:jF l.toArray a0.tmps.size=true) (hc0:decide (c<l.length)=true) (hl:BD l.toArray c=true)
 (hT:∀d v w1 w2,Below w1.heap.size w1 w2→T d v w1→T d v w2)
 (hop:dJ (fun _ o=>∀a wx,rZ l.toArray T a0 w o a wx→(Wanted l.toArray o a∧dn P (fun v w'=>Below wx.heap.size wx w'∧tyP T o v w') ((execOp a.eval o).run P wx))∨(Region.wanted o (yielded l.toArray a.tmps)=false∧tyP T o undef wx)) (l.take c) 0)
 (htail:∀a wx,Below w.heap.size w wx→fQ (l.take c).toArray a0 a→(∀d,jG (l.take c).toArray d=false→T d (a.eval (.tmp d)) wx)→wpList P l.toArray Q (l.drop c) a wx):
 (Code.region id l.toArray true).wp P Q a0 w:=by
 have hcl0:c<l.length:=of_decide_eq_true hc0
 refine wp_region_any hm ?_
 have key:∀(fuel:Nat) (listed:Array Bool) (δ:Nat→Bool) (a:Act) (wx:World),wV listed l.toArray.size≤fuel→listed.size=l.toArray.size→(∀i,δ i=listed.getD i false)→Closed l.toArray δ→δ c=false→Below w.heap.size w wx→
  (∀i o d,i<c→l.toArray[i]? =some o→δ i=true→o.dst=some d→T d (a.eval (.tmp d)) wx)→fQ (l.take c).toArray a0 a→wpAny P .any l.toArray Q fuel listed a wx:=by
  intro fuel
  induction fuel with
  |
   zero=>
   intro listed δ a wx hf hsz hδ hcl hδc hb hfa hsm
   have hall:=qc (Nat.le_zero.1 hf)
   have:=hall c (by simpa using hcl0)
   rw[hδ] at hδc
   have hi':c<listed.size:=by rw[hsz];simpa using hcl0
   simp[Array.getD,hi'] at hδc this
   rw[this] at hδc;exact absurd hδc AP
  |
   succ fuel ih=>
   intro listed δ a wx hf hsz hδ hcl hδc hb hfa hsm
   refine⟨fun hr=> ?_,fun i hi=> ?_⟩
   ·have:=wO hs listed hsz hr c (by simpa using hcl0)
    rw[←hδ,hδc] at this;exact absurd this AP
   obtain⟨h0,o,ho,hdep⟩:=mem_ready.1 hi
   have hlt:i<l.toArray.size:=(Array.getElem?_eq_some_iff.1 ho).1
   have hltl:i<l.length:=by simpa using hlt
   have hoL:l[i]? =some o:=by simpa using ho
   have hδi:δ i=false:=by
    rw[hδ]
    have hi':i<listed.size:=by omega
    simpa[Array.getD,hi'] using h0
   have hcl':Closed l.toArray (upd δ i):=by
    intro j p hp hj e he hb
    by_cases hij:i=j
    ·subst hij
     obtain rfl:o=p:=by rw[ho] at hp;exact Option.some.inj hp
     unfold upd
     split
     ·rfl
     ·rw[hδ];exact hdep e he hb
    ·rw[aA _ hij] at hj
     have:=hcl j p hp hj e he hb
     unfold upd
     split
     ·rfl
     ·exact this
   have hic:i≤c:=by
    rcases Nat.lt_or_ge c i with h |h
    ·have:=hcl'.needs l.toArray.size i c (ou hl hlt AL h) (upd_same _ _)
     rw[aA _ AL,hδc] at this
     exact absurd this AP
    ·exact h
   by_cases hec:i=c
   ·subst hec
    have hlo:∀j,j<i→δ j=true:=fun j hj=>by
     have:=hcl'.needs l.toArray.size i j (ou hl hlt AL hj) (upd_same _ _)
     rwa[aA _ AL] at this
    have hd:∀j,j<l.length→(listed.getD j false=true↔j<i):=fun j hj=>by
     rw[←hδ]
     rcases Nat.lt_trichotomy j i with h |h |h
     ·exact⟨fun _=>h,fun _=>hlo j h⟩
     ·subst h;rw[hδc];exact⟨fun h=>absurd h AP,fun h=>absurd h AL⟩
     ·refine⟨fun hjt=> ?_,fun h2=>by omega⟩
      have:=hcl.needs l.toArray.size j i (ou hl (by simpa using hj) AL h) hjt
      rw[hδi] at this;exact absurd this AP
    refine(PX hs hl (fuel+1) listed i a wx hf hsz hd (Nat.le_refl _) (htail a wx hb hsm fun d hdd=> ?_)).2 i hi
    unfold jG at hdd
    rw[Array.all_eq_false] at hdd
    obtain⟨j,hj,hp⟩:=hdd
    have hj':j<i:=by simp at hj;omega
    have hjl:j<l.length:=by omega
    have e1:(l.take i).toArray[j]=l[j]:=by simp
    have hpd:l[j].dst=some d:=by rw[←e1];simpa using hp
    exact hfa j l[j] d hj' (by simp[hjl]) (hlo j hj') hpd
   ·have hic:i<c:=by omega
    have hwait:∀d,iZ l.toArray o d=true→T d (a.eval (.tmp d)) wx:=by
     intro d hd
     unfold iZ at hd
     rw[Array.any_eq_true] at hd
     obtain⟨k,hkk,he⟩:=hd
     rw[Bool.and_eq_true] at he
     obtain⟨hb,hp⟩:=he
     split at hp
     ·rename_i p hpp
      simp only[decide_eq_true_eq] at hp
      have h2:=(bY hs ho).1 _ (Array.getElem_mem hkk) hb
      exact hfa _ p d AL hpp (by rw[hδ];exact hdep _ (Array.getElem_mem hkk) hb) hp
     ·exact absurd hp AP
    have hold:∀d,jG l.toArray d=true→a.eval (.tmp d)=a0.eval (.tmp d):=by
     intro d hd
     refine hsm.2.2 d fun j p hp hpd=> ?_
     unfold jG at hd
     rw[Array.all_eq_true] at hd
     have hjl:l[j]? =some p:=by
      rw[List.getElem?_toArray,List.getElem?_take] at hp
      split at hp
      ·exact hp
      ·exact absurd hp AO
     obtain⟨hj,hjp⟩:=List.getElem?_eq_some_iff.1 hjl
     have:=hd j (by simpa using hj)
     simp[hjp,hpd] at this
    have h:=dJ.get _ _ hop i o (by rw[List.getElem?_take];simpa[hic] using hoL) a wx ⟨hb,hwait,hold,fun _=>rfl,fun _=>rfl⟩
    have hgo:∀v w',Below wx.heap.size wx w'→tyP T o v w'→wpAny P .any l.toArray Q fuel (listed.setIfInBounds i true) (a.put o.dst v) w':=by
     intro v w' hb2 hv
     refine ih _ (upd δ i) _ _ ?_ (by simpa using hsz) ?_ hcl' (by rw[aA _ hec];exact hδc) (hb.trans (hb2.mono hb.size)) (fun j p d hjc hp hj hpd=> ?_) ?_
     ·have:=ru (n:=l.toArray.size) hlt AL h0
      omega
     ·intro j
      by_cases hij:i=j
      ·subst hij
       rw[upd_same]
       have hi':i<listed.size:=by omega
       simp[hi']
      ·rw[aA _ hij,getD_set_ne false hij];exact hδ j
     ·by_cases e:i=j
      ·subst e
       rw[ho] at hp
       obtain rfl:o=p:=Option.some.inj hp
       rw[gV hpd] at hv
       rw[hpd]
       rw[show(a.put (some d) v).eval (.tmp d)=v from dP _ _ _ (by rw[hsm.2.1];exact(bY hs ho).2.1 d hpd)]
       exact hv
      ·rw[aA _ e] at hj
       have hne:o.dst≠some d:=by
        rcases Nat.lt_or_gt_of_ne e with h |h
        ·intro e;exact(bY hs hp).2.2 i o d ho h hpd e
        ·intro e;exact(bY hs ho).2.2 j p d hp h e hpd
       rw[show(a.put o.dst v).eval (.tmp d)=a.eval (.tmp d) from bZ _ _ _ _ hne]
       exact hT _ _ _ _ hb2 (hfa j p d hjc hp hj hpd)
     ·refine⟨by rw[put_defers];exact hsm.1,by rw[jv];exact hsm.2.1,fun d hd=> ?_⟩
      rw[bZ _ _ _ _ (hd i o (by rw[List.getElem?_toArray,List.getElem?_take];simpa[hic] using hoL))]
      exact hsm.2.2 d hd
    unfold wpOp
    rw[ho]
    dsimp only
    rcases h with⟨hw,h2⟩ |⟨hw,h2⟩
    ·rw[if_pos (show Region.wanted o (yielded l.toArray a.tmps)=true from hw)]
     refine Or.inl ?_
     unfold Oper.wp
     generalize (execOp a.eval o).run P wx=r at h2
     match r,h2 with
     | .ok (.value v) w',h2=>exact hgo v w' h2.1 h2.2
     | .ok .skip w',h2=>exact hgo undef w' h2.1 h2.2
     |
      .ok (.enter f args) w',h2=>
      refine Calls.mono h2 ?_
      rintro e w'' ⟨v,rfl,hb,hv⟩
      exact hgo v w'' hb hv
    ·rw[if_neg (by rw[hw];decide)]
     exact hgo undef wx (Below.refl _ _) h2
 exact key _ _ (fun _=>false) _ _ (Nat.le_trans (List.length_filter_le _ _) AO) AO (fun i=>by simp[Array.getD]) (fun i o _ hi=>absurd hi Bool.false_ne_true) rfl ⟨rfl,rfl,rfl,Nat.le_refl _,fun _ _=>rfl⟩ (fun i o d _ _ h=>absurd h Bool.false_ne_true) ⟨rfl,rfl,fun _ _=>rfl⟩
end
end Go.Cit
namespace Go.Proofs.YtlholdllibghbaaGreat
open Go Go.RowKit Go.Cit
theorem vX (w:World) (M:bD) (h:M.At w) (hcan:jf M=true):Calls Tryz.prog 54 #[.agg (cM M)] w fun e w'=>∃a X c,Hid (X=headB M)∧e= .returned (.slice a X.length c)∧Cit.Own 5 w.heap.size w' a X c∧Below w.heap.size w w':=by
 obtain⟨C,hC⟩:=AU (cM M)
 obtain⟨w0,hw0⟩:=AV (w.alloc (.cells C 55))
 have B0:Below w.heap.size w w0:=by rw[hw0];exact(Below.refl _ w).alloc (Nat.le_refl _) _
 have hI:fE w0 w.heap.size M:=by rw[hw0,hC.o];exact fE.new w h
 have HI0:=AQ hI
 have HB0:=AQ B0
 have HM:=AQ (h.stay B0)
 have HP:=AQ (ni h.p32 (jq hcan))
 have HCN:=AQ (jq hcan)
 obtain⟨w1,hw1⟩:=AV (w0.alloc (.cells #[] 5))
 obtain⟨z,hz⟩:=AV (w0.heap.size)
 have B1:Below w0.heap.size w0 w1:=by rw[hw1];exact(Below.refl _ w0).alloc (Nat.le_refl _) _
 have HO0:Hid (Cit.Own 5 w0.heap.size w1 (some ⟨z,0,none⟩) [] 0):=by rw[Hid,hw1,hz];exact mJ w0 #[] 5 [] rfl AP
 have HB1:=AQ B1
 have c0:=(hI.keep B1).ver
 rw[hw1] at c0
 have HK:=AQ (fK w1 M.ver.1)
 have f0:=U0 w.heap.size
 have f1:=mf1 w.heap.size
 have f2:=mf2 w.heap.size
 have f3:=Pz w.heap.size
 rw[←hC.o]
 clear hI h B0 B1 hcan
 go_enter Tryz.func54,Tryz.ntmps54
 go_upto_region 1 with fail
 rw[←hw0]
 clear hw0
 go_wp2_with fail
 rw[←hw1,←hz]
 clear hw1 hz
 refine(HK.o).mono ?_
 rintro e w2 ⟨aY,Y,cY,HY,rfl,hY,hYn,hb⟩
 have HYO:=AQ hY.isRow
 have HYN:=AQ hYn
 have HYL:Hid (Y.length≤8):=by rw[Hid,HY.o];exact Nat.le_of_eq (aG _ _)
 have HO0b:=AQ (HO0.o.stay hb)
 have HB2:=AQ (HB1.o.trans (hb.mono HB1.o.size))
 clear hY hYn hb HK c0 HO0 HB1
 go_upto_region 2 with ((with_reducible refine dF (o:=⟨some 8, .call _,_,_,_,_⟩) bt (.tmp 4) (.tmp 7) AA AA HO0b.o HYO.o HYN.o (by have:=HYL.o;rw[List.length_nil];omega) HB2.o.size AA AA ?_);intro a3 c3 w3 hO3 hg3 hn3;obtain⟨X3,hX3⟩:∃Z,Hid (Z=([]:List UInt8)++Y):=⟨_,rfl⟩;rw[←hX3.o] at hO3 ⊢;have HO3:=AQ hO3;have HG3:=AQ hg3;clear hO3 hg3 hn3)
 have HB3:=AQ (HB2.o.trans (grown_below HG3.o HB2.o.size (fun k hk=>(HO0b.o.aU hk).1)))
 have HX3:Hid (X3=int8 M.ver.1):=by rw[Hid,hX3.o,HY.o];rfl
 have HI3:=AQ (HI0.o.keep HB3.o)
 have HL3:Hid (X3.length=8):=by rw[Hid,HX3.o,fU]
 clear HY HYO HYN HYL HO0b HB2 HG3 hX3
 obtain⟨T,hT⟩:=AU ((M.prev.map vb).toArray)
 have hl:=HI3.o.prev
 rw[←hT.o] at hl
 have HLD:=AQ hl
 have hk:=yg w3 M.prev HI0.o.p32
 rw[←hT.o] at hk
 have HK:=AQ hk
 clear hl hk
 go_wp2_with ((with_reducible refine aN (o:=⟨some 11, .load 53 (.tmp 10),_,_,_,_⟩) AA AA AA HLD.o ?_))
 refine(HK.o).mono ?_
 rintro e w4 ⟨aY,Y,cY,HY,rfl,hY,hYn,hb⟩
 have HYO:=AQ hY.isRow
 have HYN:=AQ hYn
 have HYL:Hid (Y.length≤32):=by rw[Hid,HY.o];exact Nat.le_of_eq HI0.o.p32
 have HO3b:=AQ (HO3.o.stay hb)
 have HB4:=AQ (HB3.o.trans (hb.mono HB3.o.size))
 clear hY hYn hb HK HLD HO3 HB3 HI3
 go_upto_region 3 with ((with_reducible refine dF (o:=⟨some 13, .call _,_,_,_,_⟩) bt (.tmp 9) (.tmp 12) AA AA HO3b.o HYO.o HYN.o (by have:=HYL.o;have:=HL3.o;omega) HB4.o.size AA AA ?_);intro a5 c5 w5 hO5 hg5 hn5;obtain⟨X5,hX5⟩:∃Z,Hid (Z=X3++Y):=⟨_,rfl⟩;rw[←hX5.o] at hO5 ⊢;have HO5:=AQ hO5;have HG5:=AQ hg5;clear hO5 hg5 hn5)
 have HB5:=AQ (HB4.o.trans (grown_below HG5.o HB4.o.size (fun k hk=>(HO3b.o.aU hk).1)))
 have HX5:Hid (X5=int8 M.ver.1++M.prev):=by rw[Hid,hX5.o,HX3.o,HY.o]
 have HI5:=AQ (HI0.o.keep HB5.o)
 have HL5:Hid (X5.length=40):=by rw[Hid,HX5.o,List.length_append,fU,HI0.o.p32]
 clear HY HYO HYN HYL HO3b HB4 HG5 hX5 HX3 HL3
 have c2:=HI5.o.trial
 have HK:=AQ (fK w5 M.trial.1)
 go_wp2_with fail
 refine(HK.o).mono ?_
 rintro e w6 ⟨aY,Y,cY,HY,rfl,hY,hYn,hb⟩
 have HYO:=AQ hY.isRow
 have HYN:=AQ hYn
 have HYL:Hid (Y.length≤8):=by rw[Hid,HY.o];exact Nat.le_of_eq (aG _ _)
 have HO5b:=AQ (HO5.o.stay hb)
 have HB6:=AQ (HB5.o.trans (hb.mono HB5.o.size))
 clear hY hYn hb HK c2 HO5 HB5 HI5
 go_upto_region 4 with ((with_reducible refine dF (o:=⟨some 18, .call _,_,_,_,_⟩) bt (.tmp 14) (.tmp 17) AA AA HO5b.o HYO.o HYN.o (by have:=HYL.o;have:=HL5.o;omega) HB6.o.size AA AA ?_);intro a7 c7 w7 hO7 hg7 hn7;obtain⟨X7,hX7⟩:∃Z,Hid (Z=X5++Y):=⟨_,rfl⟩;rw[←hX7.o] at hO7 ⊢;have HO7:=AQ hO7;have HG7:=AQ hg7;clear hO7 hg7 hn7)
 have HB7:=AQ (HB6.o.trans (grown_below HG7.o HB6.o.size (fun k hk=>(HO5b.o.aU hk).1)))
 have HX7:Hid (X7=int8 M.ver.1++M.prev++int8 M.trial.1):=by rw[Hid,hX7.o,HX5.o,HY.o];rfl
 have HI7:=AQ (HI0.o.keep HB7.o)
 have HL7:Hid (X7.length=48):=by rw[Hid,HX7.o,List.length_append,List.length_append,fU,fU,HI0.o.p32]
 clear HY HYO HYN HYL HO5b HB6 HG7 hX7 HX5 HL5
 have d0:=HI7.o.d0
 have d1:=HI7.o.d1
 have d2:=HI7.o.d2
 obtain⟨F,hF⟩:=AU (ku M.cfg)
 have HFF:Hid (F=uJ M.cfg):=by rw[Hid,hF.o];unfold ku;rw[if_pos HCN.o]
 have hk:=Ea w7 M.cfg (HM.o.stay HB7.o).cfg HCN.o
 rw[←HFF.o] at hk
 have HK:=AQ hk
 clear hk
 go_wp2_with fail
 refine(HK.o).mono ?_
 rintro e w8 ⟨aF,cF,rfl,hOF,hb8⟩
 have HFL:Hid (F.length≤3782):=by rw[Hid,hF.o];exact HP.o.2
 have hk:=uy w8 hOF.isRow (by have:=HFL.o;omega)
 have HK2:=AQ hk
 have HO7b:=AQ (HO7.o.stay hb8)
 have HB8:=AQ (HB7.o.trans (hb8.mono HB7.o.size))
 clear hk hOF hb8 HK d0 d1 d2 HO7 HB7 HI7
 go_wp2_with fail
 refine(HK2.o).mono ?_
 rintro e w9 ⟨aY,Y,cY,HY,rfl,hY,hYn,hb⟩
 have HYO:=AQ hY.isRow
 have HYN:=AQ hYn
 have HYL:Hid (Y.length≤4000):=by rw[Hid,HY.o];have:=HFL.o;have:=bT F;omega
 have HO9:=AQ (HO7b.o.stay hb)
 have HB9:=AQ (HB8.o.trans (hb.mono HB8.o.size))
 clear hY hYn hb HK2 HO7b HB8
 go_wp2_with ((with_reducible refine dF (o:=⟨some 24, .call _,_,_,_,_⟩) bt (.tmp 19) (.tmp 23) AA AA HO9.o HYO.o HYN.o (by have:=HYL.o;have:=HL7.o;omega) HB9.o.size AA AA ?_);intro aa ca wA hOa hga hna;obtain⟨Xa,hXa⟩:∃Z,Hid (Z=X7++Y):=⟨_,rfl⟩;rw[←hXa.o] at hOa ⊢;have HOa:=AQ hOa;have HGa:=AQ hga;clear hOa hga hna)
 have HBA:=AQ (HB9.o.trans (grown_below HGa.o HB9.o.size (fun k hk=>(HO9.o.aU hk).1)))
 go_ret
 refine⟨aa,Xa,ca, ?_,rfl,HOa.o.low HB0.o.size,HB0.o.trans (HBA.o.mono HB0.o.size)⟩
 rw[Hid,hXa.o,HX7.o,HY.o,headB,Jk,←hF.o]
 simp[lI]
def tO (B:Nat) (L:List UInt8) (v:Value) (w:World):Prop:=∃a c,v= .slice a L.length c∧Cit.Own 5 B w a L c
theorem SQ {B:Nat} {L:List UInt8} {v:Value} {w1 w2:World} (hb:Below w1.heap.size w1 w2) (h:tO B L v w1):tO B L v w2:=by
 obtain⟨a,c,h1,h2⟩:=h
 exact⟨a,c,h1,h2.stay hb⟩
def oU (M:bD):List UInt8:=headB M++M.tag
def Wu (g B:Nat) (C T:Array Value) (L m:List UInt8):Nat→Value→World→Prop
 | 3=>fun v _=>v=(.agg C)
 | 4=>tO (B) (L)
 | 5=>fun v _=>v=(.pointer (some ⟨g,37,none⟩))
 | 6=>fun v _=>v=(.agg T)
 | 7=>tR (m)
 | _=>fun _ _=>True
theorem Qj (g B:Nat) (C T:Array Value) (L m:List UInt8):∀d v w1 w2,Below w1.heap.size w1 w2→Wu g B C T L m d v w1→Wu g B C T L m d v w2:=by
 intro d v w1 w2 hb h
 unfold Wu at h ⊢
 split at h<;>first |exact h |exact Nc hb h |exact SQ hb h |trivial
theorem sJ (w:World) (M:bD) (h:M.At w) (hcan:jf M=true):Calls Tryz.prog 20 #[.agg (cM M)] w fun e w'=>∃a c,e= .returned (.slice a (oU M).length c)∧Row w' a (oU M) c∧Below w.heap.size w w':=by
 obtain⟨C,hC⟩:=AU (cM M)
 obtain⟨w0,hw0⟩:=AV (w.alloc (.cells C 55))
 have B0:Below w.heap.size w w0:=by rw[hw0];exact(Below.refl _ w).alloc (Nat.le_refl _) _
 have hI:fE w0 w.heap.size M:=by rw[hw0,hC.o];exact fE.new w h
 have HI0:=AQ hI
 have HB0:=AQ B0
 have HM:=AQ (h.stay B0)
 have HH:Hid (∀q:After w0,Calls Tryz.prog 54 #[.agg C] q.to fun e w'=>∃a c,e= .returned (.slice a (headB M).length c)∧Cit.Own 5 w0.heap.size w' a (headB M) c∧Below q.to.heap.size q.to w'):=fun q=>by
  rw[hC.o]
  refine(vX q.to M (HM.o.stay q.bel) hcan).mono ?_
  rintro e w' ⟨a,X,c,hX,he,ho,hb⟩
  obtain rfl:X=headB M:=hX.o
  exact⟨a,c,he,ho.low q.bel.size,hb⟩
 obtain⟨T,hT⟩:=AU ((M.tag.map vb).toArray)
 have HT:Hid (∀q:After w0,Calls Tryz.prog 55 #[.agg T] q.to fun e w'=>∃a c,e= .returned (.slice a M.tag.length c)∧Row w' a M.tag c∧Below q.to.heap.size q.to w'):=fun q=>by
  rw[hT.o]
  refine(yg q.to M.tag HI0.o.t32).mono ?_
  rintro e w' ⟨a,X,c,hX,he,ho,_,hb⟩
  obtain rfl:X=M.tag:=hX.o
  exact⟨a,c,he,ho.isRow,hb⟩
 have C1:∀q:After w0,(Instr.loadAt 53 (.pointer (some ⟨w.heap.size,37,none⟩))).run Tryz.prog q.to= .ok (.agg T) q.to:=fun q=>by rw[hT.o];exact(HI0.o.keep q.bel).tag
 have C5:∀q:After w0,(Instr.loadAt 55 (.pointer (some ⟨w.heap.size,0,none⟩))).run Tryz.prog q.to= .ok (.agg C) q.to:=fun q=>by rw[hC.o];exact(HI0.o.keep q.bel).whole
 have HLN:Hid ((headB M).length≤4000∧M.tag.length=32):=by have:=ni h.p32 (jq hcan);exact⟨by omega,h.t32⟩
 obtain⟨L,hL⟩:=AU (headB M)
 rw[←hL.o] at HH HLN
 obtain⟨R,hR⟩:=AU (oU M)
 rw[←hC.o,←hR.o]
 clear hI h B0 hcan
 go_enter Tryz.func20,Tryz.ntmps20
 go_upto_region 1 with fail
 rw[←hw0]
 clear hw0
 refine pF 5 (Wu w.heap.size w0.heap.size C T L M.tag) AB AB AB AB (Qj w.heap.size w0.heap.size C T L M.tag) ?_ ?_
 ·simp only[List.take_succ_cons,List.take_zero]
  repeat' (first |exact aQ |refine aB ?_ ?_)
  all_goals intro av wx hk
  ·exact .inl ⟨ah rfl,bF (.tmp 1) rfl (show av.eval (.tmp 1)=(.pointer (some ⟨w.heap.size,0,none⟩)) from((hk.o 1).trans rfl)) (C5 ⟨wx,hk.below⟩) ⟨Below.refl _ _,rfl⟩⟩
  ·exact .inl ⟨ah rfl,bQ rfl (hk.fn _) #[.agg C] (fun w=>AB) (by simp only[List.map_toArray,List.map_cons,List.map_nil,(show av.eval (.tmp 3)=(.agg C) from hk.s 3)]) ((HH.o ⟨wx,hk.below⟩).mono fun e w' ⟨b,c,he,hv,hb⟩=>⟨_,he,hb,b,c,rfl,hv⟩)⟩
  ·exact .inl ⟨ah rfl,bG (.tmp 1) rfl (show av.eval (.tmp 1)=(.pointer (some ⟨w.heap.size,0,none⟩)) from((hk.o 1).trans rfl)) (v:= .pointer (some ⟨w.heap.size,37,none⟩)) (fun w=>AB) ⟨Below.refl _ _,rfl⟩⟩
  ·exact .inl ⟨ah rfl,bF (.tmp 5) rfl (hk.s 5) (C1 ⟨wx,hk.below⟩) ⟨Below.refl _ _,rfl⟩⟩
  ·exact .inl ⟨ah rfl,bQ rfl (hk.fn _) #[.agg T] (fun w=>AB) (by simp only[List.map_toArray,List.map_cons,List.map_nil,(show av.eval (.tmp 6)=(.agg T) from hk.s 6)]) ((HT.o ⟨wx,hk.below⟩).mono fun e w' ⟨b,c,he,hv,hb⟩=>⟨_,he,hb,b,c,rfl,hv⟩)⟩
 intro av wz hbz hsame hall
 have he:=bn hsame [3,4,5,6,7] AB
 simp only[List.foldl_cons,List.foldl_nil] at he
 obtain⟨a4,c4,e4,q4⟩:=hall 4 AB
 obtain⟨a7,c7,e7,q7⟩:=hall 7 AB
 rw[show av.eval (.tmp 4)=_ from e4,show av.eval (.tmp 7)=_ from e7] at he
 generalize av.eval (.tmp 3)=y3 at he
 generalize av.eval (.tmp 5)=y5 at he
 generalize av.eval (.tmp 6)=y6 at he
 simp only[cu] at he
 dsimp only[List.set_cons_zero,List.set_cons_succ] at he
 subst he
 clear hsame hall e4 e7
 simp only[List.drop_succ_cons,List.drop_zero]
 have HQ4:=AQ q4
 have HYO:=AQ q7
 have HYN:Hid (M.tag=[]→a7=none):=fun e=>by have:=HLN.o.2;rw[e] at this;simp at this
 have HBZ:=AQ hbz
 clear q4 q7 hbz C1 C5 HH HT
 go_wp2_with ((with_reducible refine dF (o:=⟨some 8, .call _,_,_,_,_⟩) bt (.tmp 4) (.tmp 7) AA AA HQ4.o HYO.o HYN.o (by have:=HLN.o;omega) HBZ.o.size AA AA ?_);intro a9 c9 w9 hO9 hg9 hn9;obtain⟨X9,hX9⟩:∃Z,Hid (Z=L++M.tag):=⟨_,rfl⟩;rw[←hX9.o] at hO9 ⊢;have HO9:=AQ hO9;have HG9:=AQ hg9;clear hO9 hg9 hn9)
 have HB9:=AQ (HBZ.o.trans (grown_below HG9.o HBZ.o.size (fun k hk=>(HQ4.o.aU hk).1)))
 have e9:X9=R:=by rw[hX9.o,hL.o,hR.o];rfl
 go_ret
 refine⟨a9,c9,by rw[←e9];rfl, ?_,HB0.o.trans (HB9.o.mono HB0.o.size)⟩
 rw[←e9];exact HO9.o.isRow
open Go Go.RowKit Go.Cit
theorem ug (w:World) (M:bD) (h:M.At w):Calls Tryz.prog 19 #[.agg (cM M)] w fun e w'=>e= .returned (.agg ((jm M).map vb).toArray)∧Below w.heap.size w w':=by
 have HZ:=AQ (cO aK rfl)
 have HA:=AQ (fun ρ d ty ps af w=>kQ ρ d ty ps (af:=af) w)
 have HZT:=AQ (fun ρ d ty ps af w=>QY ρ d ty ps (af:=af) w)
 obtain⟨Z,hZ⟩:=AU ((aK.map vb).toArray)
 rw[←hZ.o] at HZ HA HZT
 obtain⟨C,hC⟩:=AU (cM M)
 obtain⟨w0,hw0⟩:=AV ((w.alloc (.cells C 55)).alloc (.cells Z 53))
 have B1:Below (w.alloc (.cells C 55)).heap.size (w.alloc (.cells C 55)) w0:=by rw[hw0];exact(Below.refl _ _).alloc (Nat.le_refl _) _
 have B0:Below w.heap.size w w0:=((Below.refl _ w).alloc (Nat.le_refl _) _).trans (B1.mono AO)
 have hI:fE w0 w.heap.size M:=by rw[hC.o] at B1;exact(fE.new w h).keep B1
 obtain⟨g,hg⟩:=AV (w.heap.size+1)
 have hgb:w0.heap[g]? =some (.cells Z 53 (0,0)):=by
  rw[hw0,hg];have:=heap_alloc_new (w.alloc (.cells C 55)) (.cells Z 53);simpa using this
 have hgw:w.heap.size≤g:=by omega
 have HGW:=AQ hgw
 have HG:=AQ hgb
 have hm:=hI.whole
 rw[←hC.o] at hm
 have HL:=AQ hm
 have HB0:=AQ B0
 have HMV:=AQ (h.stay B0)
 have HCV:Hid (∀w1,Below w0.heap.size w0 w1→jf M=true→Calls Tryz.prog 20 #[.agg C] w1 fun e w'=>∃a c,e= .returned (.slice a (oU M).length c)∧Row w' a (oU M) c∧Below w1.heap.size w1 w'):=fun w1 hb hc=>by rw[hC.o];exact sJ w1 M (HMV.o.stay hb) hc
 have hcn:=kD w0 M (h.stay B0)
 obtain⟨k,hk⟩:=AU (jf M)
 rw[←hk.o,←hC.o] at hcn
 have HCN:=AQ hcn
 obtain⟨R,hR⟩:=AU (jm M)
 have HR32:Hid (R.length=32):=by rw[Hid,hR.o];exact jK _
 have HLB:Hid (jf M=true→(oU M).length≤4000):=fun hc=>by have:=ni h.p32 (jq hc);have:=h.t32;unfold oU;rw[List.length_append];omega
 have HI9:=AQ hI
 rw[←hR.o,←hC.o]
 clear hgb hgw hI hm h B0 B1 hcn
 go_enter Tryz.func19,Tryz.ntmps19
 go_upto_region 1 with ((with_reducible refine aj (o:=⟨some 2, .alloc _,_,_,_,_⟩) AA (HA.o _ _ _ _ _ _) ?_))
 rw[←hw0,show(w.alloc (.cells C 55)).heap.size=g by rw[hg];simp]
 have HG1:=AQ hg
 clear hw0 hg
 go_wp2_with ((with_reducible refine aN (o:=⟨some 3, .load 55 (.tmp 1),_,_,_,_⟩) AA AA AA HL.o ?_))
 refine(HCN.o).mono ?_
 rintro e w1 ⟨rfl,hb1⟩
 have HB1:=AQ hb1
 have HGA:=AQ (aH HG.o hb1)
 have hw:=(HI9.o.keep hb1).whole
 rw[←hC.o] at hw
 have HL1:=AQ hw
 clear HL HCN hb1 hw
 cases k with
 |
  false=>
  have HRZ:Hid ((R.map vb).toArray=Z):=by rw[Hid,hR.o,jm,←hk.o,hZ.o];rfl
  go_wp2_with (first |((with_reducible refine aj (o:=⟨some 6, .build _ _,_,_,_,_⟩) AA (HZT.o _ _ _ _ _ _) ?_)) |((with_reducible refine au (o:=⟨none, .store _ (.tmp 2) (.tmp 6),_,_,_,_⟩) dW (.tmp 2) (.tmp 6) AA AA AA AA AA HGA.o HZ.o.1 HZ.o.1 HZ.o.2 ?_);intro w5 hbw5 hSw5;have HBw5:=AQ hbw5;have HSw5:=AQ hSw5;clear hbw5 hSw5))
  have HBB:=AQ (HB0.o.trans (HB1.o.mono HB0.o.size))
  refine bodyPost_ret (iC dW rfl rfl HBw5.o HZ.o.1) rfl ⟨by rw[HRZ.o], ?_⟩
  exact HBB.o.trans (HSw5.o.below HBB.o.size (fun k hk=>by have:=HGW.o;omega))
 |
  true=>
  have hcv:=HCV.o w1 HB1.o hk.o.symm
  obtain⟨F,hF⟩:=AU (oU M)
  rw[←hF.o] at hcv
  have HC1:=AQ hcv
  have HFL:Hid (F.length≤4000):=by rw[Hid,hF.o];exact HLB.o hk.o.symm
  have HRS:Hid (R=jg F):=by rw[Hid,hR.o,jm,←hk.o,if_pos rfl,hF.o];rfl
  clear hcv
  go_wp2_with ((with_reducible refine aN (o:=⟨some 7, .load 55 (.tmp 1),_,_,_,_⟩) AA AA AA HL1.o ?_))
  refine(HC1.o).mono ?_
  rintro e w2 ⟨a2,c2,rfl,hr2,hb2⟩
  have hs:=nU w2 a2 F c2 hr2 (by have:=HFL.o;omega)
  rw[←HRS.o] at hs
  have HS:=AQ hs
  have HB2:=AQ (HB1.o.trans (hb2.mono HB1.o.size))
  clear hs hr2 hb2 HC1
  go_wp2_with fail
  refine(HS.o).mono ?_
  rintro e w3 ⟨rfl,hb3⟩
  have HB3:=AQ (HB2.o.trans (hb3.mono HB2.o.size))
  have HGB:=AQ (aH HG.o HB3.o)
  have HT:=AQ (cO R HR32.o)
  obtain⟨T,hT⟩:=AU ((R.map vb).toArray)
  rw[←hT.o] at HT
  rw[←hT.o]
  clear HS hb3
  go_wp2_with ((with_reducible refine au (o:=⟨none, .store _ (.tmp 2) (.tmp 9),_,_,_,_⟩) dW (.tmp 2) (.tmp 9) AA AA AA AA AA HGB.o HZ.o.1 HT.o.1 HT.o.2 ?_);intro w5 hbw5 hSw5;have HBw5:=AQ hbw5;have HSw5:=AQ hSw5;clear hbw5 hSw5)
  have HBB:=AQ (HB0.o.trans (HB3.o.mono HB0.o.size))
  refine bodyPost_ret (iC dW rfl rfl HBw5.o HT.o.1) rfl ⟨by rw[hT.o], ?_⟩
  exact HBB.o.trans (HSw5.o.below HBB.o.size (fun k hk=>by have:=HGW.o;omega))
def Wx (g:Nat) (C T:Array Value) (a:Option Addr) (n c:Nat) (K L:List UInt8):Nat→Value→World→Prop
 | 7=>fun v _=>v=(.slice a n c)
 | 8=>tR (K)
 | 9=>fun v _=>v=(.agg C)
 | 10=>tR (L)
 | 11=>fun v _=>v=(.agg T)
 | 12=>fun v _=>v=(.pointer (some ⟨g,37,none⟩))
 | _=>fun _ _=>True
theorem Rq (g:Nat) (C T:Array Value) (a:Option Addr) (n c:Nat) (K L:List UInt8):∀d v w1 w2,Below w1.heap.size w1 w2→Wx g C T a n c K L d v w1→Wx g C T a n c K L d v w2:=by
 intro d v w1 w2 hb h
 unfold Wx at h ⊢
 split at h<;>first |exact h |exact Nc hb h |trivial
def sO (key:List UInt8) (M:bD):bD:= {M with tag:=if jf M then pX key M else M.tag}
theorem uq {w:World} {key:List UInt8} {M:bD} (h:M.At w):(sO key M).At w:=⟨h.p32,by unfold sO;dsimp only;split;exact lT _ _;exact h.t32,h.cfg⟩
theorem uI (w:World) (a:Option Addr) (key:List UInt8) (c:Nat) (hk:Row w a key c) (hkl:key.length≤100000) (M:bD) (h:M.At w):Calls Tryz.prog 25 #[.slice a key.length c, .agg (cM M)] w fun e w'=>e= .returned (.agg (cM (sO key M)))∧Below w.heap.size w w':=by
 have HAM:=AQ (fun ρ d ty ps af w=>gy ρ d ty ps (af:=af) w)
 obtain⟨Z,hZ⟩:=AU (cM zM)
 rw[←hZ.o] at HAM
 have HZS:Hid (Z.size=69):=by rw[Hid,hZ.o];rfl
 obtain⟨C,hC⟩:=AU (cM M)
 obtain⟨w0,hw0⟩:=AV ((w.alloc (.cells C 55)).alloc (.cells Z 55))
 have B1:Below (w.alloc (.cells C 55)).heap.size (w.alloc (.cells C 55)) w0:=by rw[hw0];exact(Below.refl _ _).alloc (Nat.le_refl _) _
 have B0:Below w.heap.size w w0:=((Below.refl _ w).alloc (Nat.le_refl _) _).trans (B1.mono AO)
 have hI:fE w0 w.heap.size M:=by rw[hC.o] at B1;exact(fE.new w h).keep B1
 obtain⟨g,hg⟩:=AV (w.heap.size+1)
 have hgb:w0.heap[g]? =some (.cells Z 55 (0,0)):=by
  rw[hw0,hg];have:=heap_alloc_new (w.alloc (.cells C 55)) (.cells Z 55);simpa using this
 have HGW:Hid (g=w.heap.size+1):=hg
 have HG:=AQ hgb
 have HI0:=AQ hI
 have HB0:=AQ B0
 have HK:=AQ hk
 have HMV:=AQ (h.stay B0)
 have hw:=hI.whole
 rw[←hC.o] at hw
 have HL:=AQ hw
 obtain⟨k,hkk⟩:=AU (jf M)
 have hcn:=kD w0 M (h.stay B0)
 rw[←hkk.o,←hC.o] at hcn
 have HCN:=AQ hcn
 obtain⟨S,hS⟩:=AU (sO key M)
 have f4:=V8 w.heap.size
 obtain⟨n,hn⟩:=AU key.length
 rw[←hC.o,←hn.o,←hS.o]
 clear hgb hI h B0 B1 hk hw hcn
 go_enter Tryz.func25,Tryz.ntmps25
 go_upto_region 1 with ((with_reducible refine aj (o:=⟨some 4, .alloc _,_,_,_,_⟩) AA (HAM.o _ _ _ _ _ _) ?_))
 rw[←hw0,show(w.alloc (.cells C 55)).heap.size=g by rw[hg];simp]
 clear hw0 hg
 go_wp2_with ((with_reducible refine aN (o:=⟨some 5, .load 55 (.tmp 3),_,_,_,_⟩) AA AA AA HL.o ?_))
 refine(HCN.o).mono ?_
 rintro e w3 ⟨rfl,hb3⟩
 have HI3:=AQ (HI0.o.keep hb3)
 have HG3:=AQ (aH HG.o hb3)
 have HB3:=AQ (HB0.o.trans (hb3.mono HB0.o.size))
 have HM3:=AQ (HMV.o.stay hb3)
 have HC2:Hid (C.size=69∧C.all (·.oneCell')=true):=by rw[hC.o];exact⟨HI3.o.size,eH _⟩
 clear hb3 HL HCN HG HI0 HMV
 cases k with
 |
  false=>
  have hw:=HI3.o.whole
  rw[←hC.o] at hw
  have HL3:=AQ hw
  have HSC:Hid (cM S=C):=by rw[Hid,hS.o,hC.o,sO,←hkk.o];rfl
  clear hw
  go_wp2_with (first |(with_reducible refine aN (o:=⟨some 13, .load 55 (.tmp 3),_,_,_,_⟩) AA AA AA HL3.o ?_) |((with_reducible refine au (o:=⟨none, .store _ (.tmp 4) (.tmp 13),_,_,_,_⟩) eU (.tmp 4) (.tmp 13) AA AA AA AA AA HG3.o HZS.o HC2.o.1 HC2.o.2 ?_);intro w4 hbw4 hSw4;have HBw4:=AQ hbw4;have HSw4:=AQ hSw4;clear hbw4 hSw4))
  refine bodyPost_ret (iC eU rfl rfl HBw4.o HC2.o.1) rfl ⟨by rw[HSC.o], ?_⟩
  exact HB3.o.trans (HSw4.o.below HB3.o.size (fun k hk=>by have:=HGW.o;omega))
 |
  true=>
  have HCT:Hid (jf M=true):=hkk.o.symm
  obtain⟨R,hR⟩:=AU (pX key M)
  have HR32:Hid (R.length=32):=by rw[Hid,hR.o];exact lT _ _
  obtain⟨T,hT⟩:=AU ((R.map vb).toArray)
  have HTC:Hid (T.size=32∧T.all (·.oneCell')=true):=by rw[hT.o];exact cO R HR32.o
  obtain⟨K,hK⟩:=AU (uU key CQ [])
  obtain⟨L,hL⟩:=AU (headB M)
  have HDV:Hid (∀q:After w3,Calls Tryz.prog 72 #[.slice a n c,Value.string {data:= #[109,97,110,105,102,101,115,116]},Value.slice none 0 0] q.to fun e w'=>∃a' c',e= .returned (.slice a' K.length c')∧Row w' a' K c'∧Below q.to.heap.size q.to w'):=fun q=>by
   have:=Aa q.to a key c (HK.o.stay (HB3.o.trans (q.bel.mono HB3.o.size))) AL CQ AP none [] 0 (Ia q.to) AP
   rw[hn.o,hK.o,ny]
   exact this
  have HH:Hid (∀q:After w3,Calls Tryz.prog 54 #[.agg C] q.to fun e w'=>∃a c,e= .returned (.slice a L.length c)∧Row w' a L c∧Below q.to.heap.size q.to w'):=fun q=>by
   rw[hC.o]
   refine(vX q.to M (HM3.o.stay q.bel) HCT.o).mono ?_
   rintro e w' ⟨a,X,c,hX,he,ho,hb⟩
   obtain rfl:X=L:=hX.o.trans hL.o.symm
   exact⟨a,c,he,ho.isRow,hb⟩
  have HSM:Hid (∀(q:After w3) b1 k1 b2 k2,Row q.to b1 K k1→Row q.to b2 L k2→Calls Tryz.prog 71 #[.slice b1 K.length k1, .slice b2 L.length k2] q.to fun e w'=>e= .returned (.agg T)∧Below q.to.heap.size q.to w'):=fun q b1 k1 b2 k2 r1 r2=>by
   have h1:K.length≤1000000:=by rw[hK.o,ny];decide
   have h2:L.length≤1000000:=by rw[hL.o];have:=ni HM3.o.p32 (jq HCT.o);omega
   have:=vN q.to b1 K k1 r1 h1 b2 L k2 r2 h2
   rw[hT.o,hR.o,pX,←hK.o,←hL.o]
   exact this
  have C5:∀q:After w3,(Instr.loadAt 55 (.pointer (some ⟨w.heap.size,0,none⟩))).run Tryz.prog q.to= .ok (.agg C) q.to:=fun q=>by rw[hC.o];exact(HI3.o.keep q.bel).whole
  go_upto_region 2 with fail
  refine pF 6 (Wx w.heap.size C T a n c K L) AB AB AB AB (Rq w.heap.size C T a n c K L) ?_ ?_
  ·simp only[List.take_succ_cons,List.take_zero]
   repeat' (first |exact aQ |refine aB ?_ ?_)
   all_goals intro av wx hk
   ·exact .inl ⟨ah rfl,dN (.tmp 0) rfl ⟨Below.refl _ _,(hk.o 0).trans rfl⟩⟩
   ·exact .inl ⟨ah rfl,bQ rfl (hk.fn _) #[.slice a n c,Value.string {data:= #[109,97,110,105,102,101,115,116]},Value.slice none 0 0] (fun w=>AB) (by simp only[List.map_toArray,List.map_cons,List.map_nil,show ∀v,av.eval (.const v)=v from hk.lit,(show av.eval (.tmp 7)=(.slice a n c) from hk.s 7)]) ((HDV.o ⟨wx,hk.below⟩).mono fun e w' ⟨b,c,he,hv,hb⟩=>⟨_,he,hb,b,c,rfl,hv⟩)⟩
   ·exact .inl ⟨ah rfl,bF (.tmp 3) rfl (show av.eval (.tmp 3)=(.pointer (some ⟨w.heap.size,0,none⟩)) from((hk.o 3).trans rfl)) (C5 ⟨wx,hk.below⟩) ⟨Below.refl _ _,rfl⟩⟩
   ·exact .inl ⟨ah rfl,bQ rfl (hk.fn _) #[.agg C] (fun w=>AB) (by simp only[List.map_toArray,List.map_cons,List.map_nil,(show av.eval (.tmp 9)=(.agg C) from hk.s 9)]) ((HH.o ⟨wx,hk.below⟩).mono fun e w' ⟨b,c,he,hv,hb⟩=>⟨_,he,hb,b,c,rfl,hv⟩)⟩
   ·obtain⟨b1_,k1_,e1_,q1_⟩:=hk.s 8
    obtain⟨b2_,k2_,e2_,q2_⟩:=hk.s 10
    exact .inl ⟨ah rfl,bQ rfl (hk.fn _) #[.slice b1_ (K).length k1_, .slice b2_ (L).length k2_] (fun w=>AB) (by simp only[List.map_toArray,List.map_cons,List.map_nil,show av.eval (.tmp 8)=_ from e1_,show av.eval (.tmp 10)=_ from e2_]) ((HSM.o ⟨wx,hk.below⟩ b1_ k1_ b2_ k2_ q1_ q2_).mono fun e w' ⟨he,hb⟩=>⟨_,he,hb,rfl⟩)⟩
   ·exact .inl ⟨ah rfl,bG (.tmp 3) rfl (show av.eval (.tmp 3)=(.pointer (some ⟨w.heap.size,0,none⟩)) from((hk.o 3).trans rfl)) (v:= .pointer (some ⟨w.heap.size,37,none⟩)) (fun w=>AB) ⟨Below.refl _ _,rfl⟩⟩
  intro av wz hbz hsame hall
  have he:=bn hsame [7,8,9,10,11,12] AB
  simp only[List.foldl_cons,List.foldl_nil] at he
  rw[show av.eval (.tmp 11)=(.agg T) from hall 11 AB,show av.eval (.tmp 12)=(.pointer (some ⟨w.heap.size,37,none⟩)) from hall 12 AB] at he
  generalize av.eval (.tmp 7)=y7 at he
  generalize av.eval (.tmp 8)=y8 at he
  generalize av.eval (.tmp 9)=y9 at he
  generalize av.eval (.tmp 10)=y10 at he
  simp only[cu] at he
  dsimp only[List.set_cons_zero,List.set_cons_succ] at he
  subst he
  clear hsame hall
  simp only[List.drop_succ_cons,List.drop_zero]
  have HIz:=AQ (HI3.o.keep hbz)
  have HGz:=AQ (aH HG3.o hbz)
  have HBz:=AQ (HB3.o.trans (hbz.mono HB3.o.size))
  clear hbz HDV HH HSM C5 HI3 HG3 HB3 HM3
  go_upto_region 3 with ((with_reducible refine dL (o:=⟨none, .store _ (.tmp 12) (.tmp 11),_,_,_,_⟩) (C:=cM M) dW.info (.tmp 12) (.tmp 11) AA AA AA AA AA HTC.o.1 HIz.o.blk (by rw[HIz.o.size];decide) HTC.o.2 ?_);intro w5 hbw5 hSw5;have HBw5:=AQ hbw5;have HSw5:=AQ hSw5;clear hbw5 hSw5)
  have HI5:Hid (fE w5 w.heap.size S):=by
   rw[Hid,hS.o,sO,←hkk.o]
   refine⟨HBw5.o.trans ?_,HIz.o.p32,by show(pX key M).length=32;exact lT _ _⟩
   rw[hT.o,hR.o,show nC (cM M) 37 _=cM {M with tag:=pX key M} from Bo HIz.o.p32 HIz.o.t32 (lT _ _)];rfl
  have hg9:g<wz.heap.size:=(Array.getElem?_eq_some_iff.1 HGz.o).1
  have HG5:Hid (w5.heap[g]? =some (.cells Z 55 (0,0))):=(HSw5.o.block g hg9 (by have:=HGW.o;omega)).trans HGz.o
  have HB5:Hid (Below w.heap.size w w5):=HBz.o.trans (HSw5.o.below HBz.o.size (fun k hk=>by omega))
  obtain⟨C3,hC3⟩:=AU (cM S)
  have hw:=HI5.o.whole
  rw[←hC3.o] at hw
  have HL5:=AQ hw
  have HC3:Hid (C3.size=69∧C3.all (·.oneCell')=true):=by rw[hC3.o];exact⟨HI5.o.size,eH _⟩
  clear hw hg9 HIz HGz HBz
  go_wp2_with (first |(with_reducible refine aN (o:=⟨some 13, .load 55 (.tmp 3),_,_,_,_⟩) AA AA AA HL5.o ?_) |((with_reducible refine au (o:=⟨none, .store _ (.tmp 4) (.tmp 13),_,_,_,_⟩) eU (.tmp 4) (.tmp 13) AA AA AA AA AA HG5.o HZS.o HC3.o.1 HC3.o.2 ?_);intro w6 hbw6 hSw6;have HBw6:=AQ hbw6;have HSw6:=AQ hSw6;clear hbw6 hSw6))
  refine bodyPost_ret (iC eU rfl rfl HBw6.o HC3.o.1) rfl ⟨by rw[hC3.o], ?_⟩
  exact HB5.o.trans (HSw6.o.below HB5.o.size (fun k hk=>by have:=HGW.o;omega))
open Go Go.RowKit Go.Cit
def X0 (B p:Nat) (C T1 T2:Array Value) (k s:Bool):Nat→Value
 | 9=>(.agg C)
 | 10=>(.bool k)
 | 11=>(.bool k)
 | 12=>(bif k then (.pointer (some ⟨p,37,none⟩)) else undef)
 | 13=>(bif k then (.agg T1) else undef)
 | 14=>(bif k then (.pointer (some ⟨B,37,none⟩)) else undef)
 | 15=>(bif k then (.agg T2) else undef)
 | 16=>(bif k then (.bool s) else undef)
 | 17=>(.bool (k && s))
 | 4=>(.bool (k && s))
 | _=>undef
def Xw (B p:Nat) (_ _ _:Array Value) (_ _:Bool):Nat→Value
 | 3=>(.pointer (some ⟨B,0,none⟩))
 | 5=>(.pointer (some ⟨p,0,none⟩))
 | _=>undef
theorem zZ (w:World) (ak:Option Addr) (key:List UInt8) (c:Nat) (hk:Row w ak key c) (hkl:key.length≤100000) (M:bD) (h:M.At w):Calls Tryz.prog 30 #[.slice ak key.length c, .agg (cM M)] w fun e w'=>e= .returned (.bool (qp key M.man))∧Below w.heap.size w w':=by
 have HAM:=AQ (fun ρ d ty ps af w=>gy ρ d ty ps (af:=af) w)
 obtain⟨Z,hZ⟩:=AU (cM zM)
 rw[←hZ.o] at HAM
 have HZS:Hid (Z.size=69):=by rw[Hid,hZ.o];rfl
 obtain⟨C,hC⟩:=AU (cM M)
 obtain⟨w0,hw0⟩:=AV (w.alloc (.cells C 55))
 have B0:Below w.heap.size w w0:=by rw[hw0];exact(Below.refl _ w).alloc (Nat.le_refl _) _
 have hI:fE w0 w.heap.size M:=by rw[hw0,hC.o];exact fE.new w h
 have HI0:=AQ hI
 have HB0:=AQ B0
 have HM:=AQ (h.stay B0)
 obtain⟨k,hkk⟩:=AU (jf M)
 obtain⟨R,hR⟩:=AU (qp key M.man)
 obtain⟨S,hS⟩:=AU (sO key M)
 obtain⟨s,hss⟩:=AU (decide (S.tag=M.tag))
 have HR:Hid (R=(k && s)):=by
  rw[Hid,hR.o,qp,←jy,←zk,hkk.o,hss.o,hS.o,sO]
  cases jf M<;>rfl
 obtain⟨n,hn⟩:=AU key.length
 have hks:=uI w0 ak key c (hk.stay B0) hkl M (h.stay B0)
 obtain⟨CS,hCS⟩:=AU (cM S)
 rw[←hC.o,←hn.o,←hS.o,←hCS.o] at hks
 have HKS:=AQ hks
 have HAS:Hid (S.At w0):=by rw[hS.o];exact uq (h.stay B0)
 have HCS:Hid (CS.size=69∧CS.all (·.oneCell')=true):=by rw[hCS.o];exact⟨eY HAS.o.p32 HAS.o.t32,eH _⟩
 have hw:=hI.whole
 rw[←hC.o] at hw
 have HL:=AQ hw
 rw[←hC.o,←hR.o,←hn.o]
 clear hI h B0 hk hks hw
 go_enter Tryz.func30,Tryz.ntmps30
 go_upto_region 1 with fail
 rw[←hw0]
 clear hw0
 go_upto_region 1 with fail
 go_wp2_with ((with_reducible refine aN (o:=⟨some 7, .load 55 (.tmp 3),_,_,_,_⟩) AA AA AA HL.o ?_))
 refine(HKS.o).mono ?_
 rintro e w1 ⟨rfl,hb1⟩
 have HB1:=AQ (HB0.o.trans (hb1.mono HB0.o.size))
 have HI1:=AQ (HI0.o.keep hb1)
 have HM1:=AQ (HM.o.stay hb1)
 have HAS1:=AQ (HAS.o.stay hb1)
 obtain⟨p,hp⟩:=AV (w1.heap.size)
 have HNW:=AQ (heap_alloc_new w1 (.cells Z 55))
 clear hb1 HL HKS HI0 HM HAS HB0
 go_upto_region 2 with (first |((with_reducible refine aj (o:=⟨some 5, .alloc _,_,_,_,_⟩) AA (HAM.o _ _ _ _ _ _) ?_)) |((with_reducible refine au (o:=⟨none, .store _ (.tmp 5) (.tmp 8),_,_,_,_⟩) eU (.tmp 5) (.tmp 8) AA AA AA AA AA HNW.o HZS.o HCS.o.1 HCS.o.2 ?_);intro w3 hbw3 hSw3;have HBw3:=AQ hbw3;have HSw3:=AQ hSw3;clear hbw3 hSw3))
 have HS3:Hid (Below w1.heap.size w1 w3):=by
  have h1:Below w1.heap.size w1 (w1.alloc (.cells Z 55)):=(Below.refl _ _).alloc (Nat.le_refl _) _
  exact h1.trans (HSw3.o.below AO (fun k hk=>by omega))
 have HI3:=AQ (HI1.o.keep HS3.o)
 have HP3:Hid (fE w3 p S):=by rw[Hid,hp];exact⟨by rw[←hCS.o];exact HBw3.o,HAS1.o.p32,HAS1.o.t32⟩
 have HM3:=AQ (HM1.o.stay HS3.o)
 have HB3:=AQ (HB1.o.trans (HS3.o.mono HB1.o.size))
 rw[←hp]
 clear HBw3 HSw3 HNW HS3 HI1 HM1 HAS1 HB1 hp
 obtain⟨T1,hT1⟩:=AU ((S.tag.map vb).toArray)
 obtain⟨T2,hT2⟩:=AU ((M.tag.map vb).toArray)
 have C1:∀q:After w3,(Instr.loadAt 53 (.pointer (some ⟨w.heap.size,37,none⟩))).run Tryz.prog q.to= .ok (.agg T2) q.to:=fun q=>by rw[hT2.o];exact(HI3.o.keep q.bel).tag
 have C2:∀q:After w3,(Instr.loadAt 53 (.pointer (some ⟨p,37,none⟩))).run Tryz.prog q.to= .ok (.agg T1) q.to:=fun q=>by rw[hT1.o];exact(HP3.o.keep q.bel).tag
 have C5:∀q:After w3,(Instr.loadAt 55 (.pointer (some ⟨w.heap.size,0,none⟩))).run Tryz.prog q.to= .ok (.agg C) q.to:=fun q=>by rw[hC.o];exact(HI3.o.keep q.bel).whole
 have HC:Hid (∀q:After w3,Calls Tryz.prog 16 #[.agg C] q.to fun e w'=>e= .returned (.bool k)∧Below q.to.heap.size q.to w'):=fun q=>by rw[hC.o,hkk.o];exact kD q.to M (HM3.o.stay q.bel)
 have HX:Hid (∀w:World,(do eqGuard .eql 53 (.tmp 13) (.tmp 15) (.agg T1) (.agg T2);binOp .eql 53 (.agg T1) (.agg T2):Sem Value).run Tryz.prog w= .ok (.bool s) w):=fun w=>by
  rw[hT1.o,hT2.o,hss.o];exact pz Ec.guard _ _ (kZ Ec _ _ HP3.o.t32 HI3.o.t32) w
 refine bJ (X0 w.heap.size p C T1 T2 k s) (Xw w.heap.size p C T1 T2 k s) [3,5] AB ⟨rfl,rfl,trivial⟩ ?_ ?_
 ·repeat' (first |exact aQ |refine aB ?_ ?_)
  all_goals intro a hk
  ·
   exact .inl ⟨ah rfl,aV (.tmp 3) rfl (hk.o 3) (v:=(.agg C)) (fun q=>C5 q) rfl⟩
  ·
   exact .inl ⟨ah rfl,dV rfl rfl #[(.agg C)] (fun w=>AB) (by simp only[List.map_toArray,List.map_cons,List.map_nil,(show a.eval (.tmp 9)=(.agg C) from hk.s 9)]) (v:=(.bool k)) (fun q=>HC.o q) rfl⟩
  ·
   exact .inl ⟨ah rfl,aO (.tmp 10) rfl (hk.s 10)⟩
  ·
   cases k<;>first |exact hk.no 11 true |skip
   exact .inl ⟨hk.yes 11 true,aX (.tmp 5) rfl (hk.o 5) (v:=(.pointer (some ⟨p,37,none⟩))) (fun w=>AB) rfl⟩
  ·
   cases k<;>first |exact hk.no 11 true |skip
   exact .inl ⟨hk.yes 11 true,aV (.tmp 12) rfl (hk.s 12) (v:=(.agg T1)) (fun q=>C2 q) rfl⟩
  ·
   cases k<;>first |exact hk.no 11 true |skip
   exact .inl ⟨hk.yes 11 true,aX (.tmp 3) rfl (hk.o 3) (v:=(.pointer (some ⟨w.heap.size,37,none⟩))) (fun w=>AB) rfl⟩
  ·
   cases k<;>first |exact hk.no 11 true |skip
   exact .inl ⟨hk.yes 11 true,aV (.tmp 14) rfl (hk.s 14) (v:=(.agg T2)) (fun q=>C1 q) rfl⟩
  ·
   cases k<;>first |exact hk.no 11 true |skip
   exact .inl ⟨hk.yes 11 true,eP rfl (hk.s 13) (hk.s 15) (v:=(.bool s)) (fun w=>HX.o w) rfl⟩
  ·
   cases k with
   |
    true=>
    exact .inl ⟨ah rfl,aI rfl true (hk.s 11) (hk.s 16)⟩
   |
    false=>
    exact .inl ⟨ah rfl,aI rfl false (hk.s 11) rfl⟩
  ·
   exact .inl ⟨ah rfl,gU (.tmp 17) rfl (hk.s 17)⟩
 intro a ⟨w9,hb9⟩ hsame hall
 have he:=bn hsame [9,10,11,12,13,14,15,16,17,4] AB
 simp only[List.foldl_cons,List.foldl_nil] at he
 rw[show a.eval (.tmp 4)=(.bool R) from(hall 4 AB).trans (congrArg Value.bool HR.o.symm)] at he
 generalize a.eval (.tmp 9)=x9 at he
 generalize a.eval (.tmp 10)=x10 at he
 generalize a.eval (.tmp 11)=x11 at he
 generalize a.eval (.tmp 12)=x12 at he
 generalize a.eval (.tmp 13)=x13 at he
 generalize a.eval (.tmp 14)=x14 at he
 generalize a.eval (.tmp 15)=x15 at he
 generalize a.eval (.tmp 16)=x16 at he
 generalize a.eval (.tmp 17)=x17 at he
 simp only[cu] at he
 dsimp only[List.set_cons_zero,List.set_cons_succ] at he
 subst he
 clear hsame hall
 go_wp2_with fail
 go_ret
 exact⟨rfl,HB3.o.trans (hb9.mono HB3.o.size)⟩
end Go.Proofs.YtlholdllibghbaaGreat
