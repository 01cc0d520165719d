/- Texts of the proof, one behind the other: RefHsum, Derive, ManHead, HmacSame. No condition but those that each names. -/
import Derived.Test.YtlholdllibghbaaGreatG30
import Derived.Test.YtlholdllibghbaaGreatG10
import Derived.Test.YtlholdllibghbaaGreatG19
import Derived.Test.YtlholdllibghbaaGreatG21
import Derived.Test.YtlholdllibghbaaGreatG22
import Derived.BigQuiet
import Derived.Deep.QuietTactic
import Derived.Test.YtlholdllibghbaaGreatKit
set_option maxRecDepth 100000
set_option maxHeartbeats 8000000
namespace Go.Proofs.YtlholdllibghbaaGreat
open Go Go.RowKit Go.Cit
theorem eval_put_ne (a:Act) (o:Option Tmp) (t:Tmp) (v:Value) (h:o≠some t):(a.put o v).eval (.tmp t)=a.eval (.tmp t):=bZ a o t v h
theorem eval_put_same (a:Act) (t:Tmp) (v:Value) (h:t<a.tmps.size):(a.put (some t) v).eval (.tmp t)=v:=dP a t v h
def Xl (r:Nat) (W:World) (F X:Array Value) (M S:List UInt8) (δ:Nat→Bool) (act:Act) (wx:World):Prop:=
 Save (· ≠r) W wx∧wx.heap[r]? =some (.cells (if δ 6 then F else X) 53 (0,0))∧
 (δ 4=false→(δ 1=true→∃a c,act.eval (.tmp 12)= .slice a M.length c∧Cit.Own 5 W.heap.size wx a M c)∧(δ 3=true→∃a c,act.eval (.tmp 14)= .slice a S.length c∧Row wx a S c))
def Vt (r:Nat) (u:Value) (M S:List UInt8) (D F:Array Value):Nat→Value→World→Prop
 | 11,v,_=>v=u
 | 13,v,_=>v= .agg D
 | 15,v,w=>∃a c,v= .slice a (M++S).length c∧Row w a (M++S) c∧∀g,Go.Cit.blk a=some g→g≠r
 | 16,v,_=>v= .agg F
 | _,_,_=>True
theorem Q7 {r:Nat} {u:Value} {M S:List UInt8} {D F:Array Value} {d:Nat} {v:Value} {wx w':World} (hG:Save (· ≠r) wx w') (h:Vt r u M S D F d v wx):Vt r u M S D F d v w':=by
 unfold Vt at h ⊢
 split at h<;>try exact h
 obtain⟨a,c,h1,h2,h3⟩:=h
 exact⟨a,c,h1,h2.save hG h3,h3⟩
theorem DW {r:Nat} {W:World} {F X:Array Value} {M S:List UInt8} {δ:Nat→Bool} {act:Act} {wx w':World} {i:Nat} {o:Option Tmp} {v:Value} (h:Xl r W F X M S δ act wx) (hb:Below wx.heap.size wx w') (h1:i≠1) (h3:i≠3) (h4:i≠4) (h6:i≠6) (o1:o≠some 12) (o2:o≠some 14):Xl r W F X M S (upd δ i) (act.put o v) w':=by
 obtain⟨a1,a2,a3⟩:=h
 refine⟨a1.trans (Save.of hb),by rw[aA δ h6,hb.block _ (Array.getElem?_eq_some_iff.1 a2).1];exact a2,fun h=> ?_⟩
 rw[aA δ h4] at h
 obtain⟨b1,b2⟩:=a3 h
 rw[aA δ h1,aA δ h3,eval_put_ne _ _ _ _ o1,eval_put_ne _ _ _ _ o2]
 refine⟨fun hd=> ?_,fun hd=> ?_⟩
 ·obtain⟨a,c,e,ho⟩:=b1 hd
  exact⟨a,c,e,ho.save (Save.of (S:=fun _=>True) hb) (fun _ _=>trivial)⟩
 ·obtain⟨a,c,e,hr⟩:=b2 hd
  exact⟨a,c,e,hr.stay hb⟩
theorem vN (w:World) (a:Option Addr) (k:List UInt8) (c:Nat) (h:Row w a k c) (hl:k.length≤1000000) (a2:Option Addr) (b:List UInt8) (c2:Nat) (h2:Row w a2 b c2) (hl2:b.length≤1000000):
 Calls Tryz.prog 71 #[.slice a k.length c, .slice a2 b.length c2] w fun e w'=>e= .returned (.agg ((vI k b).map vb).toArray)∧Below w.heap.size w w':=by
 have HA:=AQ (fun ρ d ty ps af w=>jM ρ d ty ps (af:=af) w)
 obtain⟨X,hX⟩:=AU (((List.replicate 32 (0:UInt8)).map vb).toArray)
 rw[←hX.o] at HA
 have HX:Hid (X.size=32):=by rw[Hid,hX.o];simp
 have B0:Below w.heap.size w (w.alloc (.cells X 53)):=(Below.refl _ _).alloc (Nat.le_refl _) _
 have x0:(w.alloc (.cells X 53)).heap[w.heap.size]? =some (.cells X 53 (0,0)):=heap_alloc_new w _
 have HB0:=AQ (And.intro x0 B0)
 have hM0:Calls Tryz.prog 153 #[.slice a k.length c, .int .u8 54] (w.alloc (.cells X 53)) _:=sQ _ a k c (h.stay B0) hl 54
 have HM0:=AQ hM0
 have HR0:=AQ (h2.stay B0)
 have HK0:=AQ (h.stay B0)
 have HKW:=AQ h
 clear B0 x0 h h2 hM0
 go_enter Tryz.func71,Tryz.ntmps71
 go_wp2_with (first
  | ((with_reducible refine aj (o:=⟨some 4, .alloc _,_,_,_,_⟩) AA (HA.o _ _ _ _ _ _) ?_)))
 refine HM0.o.mono ?_
 rintro e w1 ⟨a3,c3,rfl,hO3,hb1⟩
 have hsz1:w.heap.size<w1.heap.size:=by have:=hb1.size;simp at this;omega
 have HX1:Hid (w1.heap[w.heap.size]? =some (.cells X 53 (0,0))):=(hb1.block _ AO).trans HB0.o.1
 have B1:=HB0.o.2.trans (hb1.mono AO)
 have HR1:=AQ (HR0.o.stay hb1)
 have HK1:=AQ (HK0.o.stay hb1)
 obtain⟨N,hN⟩:=AU (iJ (iR k) 54)
 have HNL:Hid (N.length=64):=by rw[Hid,hN.o,qJ,jW]
 rw[←hN.o] at hO3
 have HO3:Hid (aZ cb 1 5 (w.heap.size+1) w1 a3 N c3):=(hO3.low AO).yu
 have HV1:Hid (Vec cb 1 w1 a2 b c2):=Vec.Vs (v:=vb) HR1.o.le HR1.o.top HR1.o.nil HR1.o.spot HR1.o.cell
 have h64:(.slice a3 64 c3:Value)= .slice a3 N.length c3:=by rw[HNL.o]
 rw[h64]
 have hNb:N.length+b.length≤1000000000:=by rw[HNL.o];omega
 have HSZ1:Hid (w.heap.size+1≤w1.heap.size):=hsz1
 have HBT:Hid (dA Tryz.prog 40 5 1 1 (.int .u8 0)):=dA.ofBytes bt
 clear hb1 hO3 HM0 HR0 HK0 h64
 go_wp2_with (first
  | ((with_reducible refine pK (o:=⟨some 9, .call _,_,_,_,_⟩) HBT.o CJ Gm (.tmp 7) (.tmp 8) AA AA HO3.o HV1.o hNb HSZ1.o AA AA ?_);intro a4 c4 w2 hO4 hg4;have HO4:=AQ hO4;have HG4:=AQ hg4;clear hO4 hg4))
 have B12:Below (w.heap.size+1) w1 w2:=HO3.o.grown HG4.o HSZ1.o
 have B2:=B1.trans (B12.mono (Nat.le_succ _))
 have hsz2:w.heap.size<w2.heap.size:=by have:=B12.size;omega
 have HX2:Hid (w2.heap[w.heap.size]? =some (.cells X 53 (0,0))):=(B12.block _ AL).trans HX1.o
 obtain⟨I,hI⟩:=AU (N++b)
 have HRI:Hid (Row w2 a4 I c4):=by rw[Hid,hI.o];exact HO4.o.own.isRow
 have hIl:Hid (N.length+b.length=I.length):=by rw[Hid,hI.o,List.length_append]
 have hI9:I.length≤10000000:=by rw[←hIl.o,HNL.o];omega
 rw[hIl.o]
 have HS2:=AQ (nU w2 a4 I c4 HRI.o hI9)
 clear B12 hIl HO4 HG4 HO3 HV1 HR1 HK1 B1 HX1 HB0
 refine HS2.o.mono ?_
 rintro e w3 ⟨rfl,hb3⟩
 have B3:=B2.trans (hb3.mono B2.size)
 have hsz3:w.heap.size<w3.heap.size:=by have:=hb3.size;omega
 have HX3:Hid (w3.heap[w.heap.size]? =some (.cells X 53 (0,0))):=(hb3.block _ hsz2).trans HX2.o
 obtain⟨D,hD⟩:=AU (((jg I).map vb).toArray)
 rw[←hD.o]
 have HD:Hid (D.size=32):=by rw[Hid,hD.o];simpa using eX I
 have HDo:Hid (D.all (·.oneCell')=true):=by rw[Hid,hD.o];exact mF _
 have HN3:Hid ((w3.alloc (.cells X 53)).heap[w3.heap.size]? =some (.cells X 53 (0,0))):=heap_alloc_new _ _
 clear hb3 HS2 HRI
 go_wp2_with (first
  | ((with_reducible refine aj (o:=⟨some 5, .alloc _,_,_,_,_⟩) AA (HA.o _ _ _ _ _ _) ?_))
  | ((with_reducible refine au (o:=⟨none, .store _ (.tmp 5) (.tmp 10),_,_,_,_⟩) iw (.tmp 5) (.tmp 10) AA AA AA AA AA HN3.o HX.o HD.o HDo.o ?_);intro w5 hb5 hS5;have HB5:=AQ hb5;have HS5:=AQ hS5;clear hb5 hS5))
 have hs5:=HS5.o.size
 rw[World.size_alloc] at hs5
 have hA5:Below w3.heap.size w3 w5:=((Below.refl _ w3).alloc (Nat.le_refl _) (.cells X 53)).trans (HS5.o.below AO (fun j hj=>by omega))
 have B5:=B3.trans (hA5.mono B3.size)
 have HX5:Hid (w5.heap[w.heap.size]? =some (.cells X 53 (0,0))):=(hA5.block _ hsz3).trans HX3.o
 have HKR:Hid (Row w5 a k c∧∀g,k≠ []→Go.Cit.blk a=some g→g<w.heap.size):=⟨HKW.o.stay B5,fun g hne hg=>by
  obtain⟨g',off,e'⟩:=HKW.o.spot hne
  subst e'
  have h1:=HKW.o.blk (i:=0) (List.length_pos_iff.2 hne)
  simp[Go.Cit.blk] at hg
  simp[ad] at h1
  omega⟩
 obtain⟨r,hr⟩:=AV (w.heap.size)
 obtain⟨t5,ht5⟩:=AV (w3.heap.size)
 have HT5:Hid (w5.heap[t5]? =some (.cells D 53 (0,0))):=by rw[Hid,ht5];exact HB5.o
 rw[←ht5]
 have htr:t5≠r:=by omega
 rw[←hr] at HX5 HKR B5 ⊢
 obtain⟨F,hF⟩:=AU (((vI k b).map vb).toArray)
 have HF:Hid (F.size=32):=by rw[Hid,hF.o];simpa using oD k b
 have HFo:Hid (F.all (·.oneCell')=true):=by rw[Hid,hF.o];exact mF _
 obtain⟨M,hM⟩:=AU (iJ (iR k) 92)
 have HML:Hid (M.length=64):=by rw[Hid,hM.o,qJ,jW]
 have HFE:Hid (((jg (M++jg I)).map vb).toArray=F):=by rw[Hid,hF.o,hM.o,hI.o,hN.o];rfl
 have hrw:r<w5.heap.size:=(Array.getElem?_eq_some_iff.1 HX5.o).1
 clear HA HX3 HB5 HS5 hA5 HDo hs5 ht5 B3 hsz1 hsz2 hsz3 HN3 HSZ1
 simp only[Act.put,List.setIfInBounds_toArray,List.set_cons_succ,List.set_cons_zero]
 refine jQ (Xl r w5 F X M (jg I)) (fun i wx w'=>i≠4→Save (· ≠r) wx w') (Vt r (.slice a k.length c) M (jg I) D F) AB AB ?_ ?_ ?_ ?_
 ·intro w' hb hh
  exact⟨Save.of hb,by rw[hh];exact HX5.o,fun _=>⟨fun h=>absurd h AP,fun h=>absurd h AP⟩⟩
 ·intro δ i j o v ax wx w' ho hij hcl hj hi hC hG h
  rcases hd:o.dst with _ |d
  ·exact eG hd _ _
  ·rw[gV hd] at h ⊢
   by_cases h4:i=4
   ·subst h4
    unfold Vt at h ⊢
    split at h<;>try exact h
    exfalso
    exact hij (yS (d:=15) (j:=4) AB ho hd).symm
   ·exact Q7 (hG h4) h
 ·repeat' (first |exact aQ |refine aB ?_ ?_)
  all_goals intro δ wa wx hk
  ·exact⟨ah rfl,dN (.tmp 0) rfl ⟨fun _=>Save.refl _ _,DW hk.inv (Below.refl _ _) AP AP AP AP AO AO,hk.o 0⟩⟩
  ·obtain⟨q1,q2,q3⟩:=hk.inv
   have hrow:Row wx a k c:=HKR.o.1.save' q1 (fun hne g hg=>by have:=HKR.o.2 g hne hg;omega)
   have hmk:Calls Tryz.prog 153 #[.slice a k.length c, .int .u8 92] wx _:=sQ wx a k c hrow hl 92
   refine⟨ah rfl,bQ rfl (hk.fn _) #[.slice a k.length c, .int .u8 92] (fun w=>AB) (by simp[show wa.eval (.tmp 11)=_ from hk.s 11,hk.lit]) (hmk.mono ?_)⟩
   rintro e w' ⟨a',c',rfl,hO,hb⟩
   rw[←hM.o] at hO
   refine⟨_,rfl,fun _=>Save.of hb,⟨q1.trans (Save.of hb),by rw[aA δ AP,hb.block _ (Array.getElem?_eq_some_iff.1 q2).1];exact q2,fun h4=>⟨fun _=>⟨a',c', ?_,hO.low q1.size⟩,fun h3=> ?_⟩⟩,trivial⟩
   ·rw[eval_put_same _ _ _ (by rw[hk.same.2.1];simp),HML.o]
   ·rw[aA δ AP] at h4 h3
    obtain⟨a3',c3',e3,r3⟩:=(q3 h4).2 h3
    exact⟨a3',c3',(eval_put_ne _ _ _ _ AO).trans e3,r3.stay hb⟩
  ·obtain⟨q1,q2,q3⟩:=hk.inv
   have hb5:=(q1.block t5 (Array.getElem?_eq_some_iff.1 HT5.o).1 htr).trans HT5.o
   exact⟨ah rfl,Js iw (.tmp 5) rfl (hk.o 5) hb5 HD.o ⟨fun _=>Save.refl _ _,DW ⟨q1,q2,q3⟩ (Below.refl _ _) AP AP AP AP AO AO,rfl⟩⟩
  ·obtain⟨q1,q2,q3⟩:=hk.inv
   have hbk:=nH wx (jg I) (eX I)
   rw[←hD.o] at hbk
   refine⟨ah rfl,bQ rfl (hk.fn _) #[.agg D] (fun w=>AB) (by simp[show wa.eval (.tmp 13)=_ from hk.s 13]) (hbk.mono ?_)⟩
   rintro e w' ⟨a',c',rfl,hO,hb⟩
   refine⟨_,rfl,fun _=>Save.of hb,⟨q1.trans (Save.of hb),by rw[aA δ AP,hb.block _ (Array.getElem?_eq_some_iff.1 q2).1];exact q2,fun h4=>⟨fun h1=> ?_,fun _=>⟨a',c', ?_,hO.isRow⟩⟩⟩,trivial⟩
   ·rw[aA δ AP] at h4 h1
    obtain⟨a3',c3',e3,o3⟩:=(q3 h4).1 h1
    exact⟨a3',c3',(eval_put_ne _ _ _ _ AO).trans e3,o3.save (Save.of (S:=fun _=>True) hb) (fun _ _=>trivial)⟩
   ·rw[eval_put_same _ _ _ (by rw[hk.same.2.1];simp),eX]
  ·obtain⟨q1,q2,q3⟩:=hk.inv
   have d1:δ 1=true:=by
    have:=hk.next.needs 8 4 1 AB (upd_same _ _)
    rwa[aA δ AP] at this
   have d3:δ 3=true:=by
    have:=hk.next.needs 8 4 3 AB (upd_same _ _)
    rwa[aA δ AP] at this
   obtain⟨q4,q5⟩:=q3 hk.yet
   obtain⟨a1',c1',e1,o1⟩:=q4 d1
   obtain⟨a2',c2',e2,r2⟩:=q5 d3
   have hsl:(jg I).length=32:=eX I
   refine⟨ah rfl,ER bt (.tmp 12) (.tmp 14) rfl o1 r2 (by intro h0;rw[h0] at hsl;simp at hsl) (by rw[HML.o,hsl];decide) q1.size e1 e2 ?_⟩
   intro a' cap' w' hO hg hn
   have hfar:∀g,g<w5.heap.size→some g≠Go.Cit.blk a1':=fun g hg1 he=>by have:=(o1.aU he.symm).1;omega
   have hgs:Save (· ≠r) w5 w':=⟨hg.os.trans q1.os,hg.tape.trans q1.tape,hg.output.trans q1.output,Nat.le_trans q1.size hg.size,fun g hg1 hg2=>(hg.block g (Nat.lt_of_lt_of_le hg1 q1.size) (hfar g hg1)).trans (q1.block g hg1 hg2)⟩
   refine⟨fun h=>absurd rfl h,⟨hgs, ?_,fun h=> ?_⟩,a',cap',rfl,hO.isRow,fun g hg'=>by have:=(hO.aU hg').1;omega⟩
   ·rw[aA δ AP,hg.block r (Nat.lt_of_lt_of_le hrw q1.size) (hfar r hrw)];exact q2
   ·rw[upd_same] at h;exact absurd h AP
  ·obtain⟨a1',c1',e1,r1,n1⟩:=hk.s 15
   refine⟨ah rfl,bQ rfl (hk.fn _) #[.slice a1' (M++jg I).length c1'] (fun w=>AB) (by simp[e1]) ((nU wx a1' (M++jg I) c1' r1 (by rw[List.length_append,HML.o,eX];decide)).mono ?_)⟩
   rintro e w' ⟨rfl,hb⟩
   exact⟨_,rfl,fun _=>Save.of hb,DW hk.inv hb AP AP AP AP AO AO,by rw[HFE.o];rfl⟩
  ·obtain⟨q1,q2,q3⟩:=hk.inv
   rw[hk.yet] at q2
   have d4:δ 4=true:=by
    have:=hk.next.needs 8 6 4 AB (upd_same _ _)
    rwa[aA δ AP] at this
   refine⟨ah rfl,oL iw (.tmp 4) (.tmp 16) rfl (hk.o 4) (hk.s 16) q2 HX.o HF.o HFo.o ?_⟩
   intro w' hb hs
   refine⟨fun _=>hs,⟨q1.trans hs,by rw[upd_same];exact hb,fun h=> ?_⟩,eG rfl _ _⟩
   rw[aA δ AP,d4] at h;exact absurd h AP
 intro δ wa wx hall hC hsame hT
 obtain⟨hSv,hcE,_⟩:=hC
 rw[hall 6 AP,if_pos rfl] at hcE
 have he:=bn hsame [11,12,13,14,15,16] AB
 obtain⟨a15,c15,e15,_⟩:=hT 15 AB
 obtain⟨v12,e12⟩:∃v,wa.eval (.tmp 12)=v:=⟨_,rfl⟩
 obtain⟨v14,e14⟩:∃v,wa.eval (.tmp 14)=v:=⟨_,rfl⟩
 simp only[List.foldl_cons,List.foldl_nil] at he
 rw[show wa.eval (.tmp 11)=_ from hT 11 AB,e12,show wa.eval (.tmp 13)=_ from hT 13 AB,e14,e15,show wa.eval (.tmp 16)=_ from hT 16 AB] at he
 simp only[Act.put,List.setIfInBounds_toArray,List.set_cons_zero,List.set_cons_succ] at he
 clear hT hsame hall e12 e14 e15
 subst he
 go_wp2_with fail
 refine bodyPost_ret (iC iw rfl rfl hcE HF.o) rfl ⟨by rw[hF.o], ?_⟩
 rw[←hr]
 exact B5.trans (hSv.below (by have:=B5.size;omega) (fun j hj=>by omega))
open Go Go.RowKit Go.Cit
def uU (k s:List UInt8) (zs:List Int):List UInt8:=vI k (kN s zs)
theorem Gx (w:World) (a:Option Addr) (k:List UInt8) (c:Nat) (h:Row w a k c) (hl:k.length≤1000000) (s:List UInt8) (hs9:s.length≤1000) (a2:Option Addr) (zs:List Int) (c2:Nat) (h2:Ints w a2 zs c2) (hz9:zs.length≤1000):
 Calls Tryz.prog 165 #[.slice a k.length c, .string ⟨s.toArray⟩, .slice a2 zs.length c2] w fun e w'=>∃g,e= .returned (.slice (some ⟨g,0,none⟩) 32 32)∧w.heap.size≤g∧je 53 w' g (uU k s zs)∧Below w.heap.size w w':=by
 have HA:=AQ (fun ρ d ty ps af w=>jM ρ d ty ps (af:=af) w)
 obtain⟨X,hX⟩:=AU (((List.replicate 32 (0:UInt8)).map vb).toArray)
 rw[←hX.o] at HA
 have HX:Hid (X.size=32):=by rw[Hid,hX.o];simp
 have HP:=AQ (Ep w s hs9 a2 zs c2 h2 hz9)
 have HK:=AQ h
 have hfl:=wG s zs
 have hf9:(kN s zs).length≤1000000:=by omega
 clear h h2 hfl
 obtain⟨F,hF⟩:=AU (kN s zs)
 rw[←hF.o] at HP hf9
 go_enter Tryz.func165,Tryz.ntmps165
 go_wp2_with fail
 refine HP.o.mono ?_
 rintro e w1 ⟨a1,c1,rfl,hr1,hb1⟩
 have HB1:=AQ hb1
 have HS:=AQ (Dt w1 a k c (HK.o.stay hb1) hl a1 F c1 hr1 hf9)
 clear hr1 hb1 HP
 go_wp2_with fail
 refine HS.o.mono ?_
 rintro e w2 ⟨rfl,hb2⟩
 obtain⟨D,hD⟩:=AU (((vI k F).map vb).toArray)
 rw[←hD.o]
 have HD:Hid (D.size=32):=by rw[Hid,hD.o];simpa using oD k F
 have HDo:Hid (D.all (·.oneCell')=true):=by rw[Hid,hD.o];exact mF _
 have HN2:Hid ((w2.alloc (.cells X 53)).heap[w2.heap.size]? =some (.cells X 53 (0,0))):=heap_alloc_new _ _
 have tA:=FY w2.heap.size
 have HB2:=AQ (HB1.o.trans (hb2.mono HB1.o.size))
 clear hb2 HS
 go_wp2_with (first
  | ((with_reducible refine aj (o:=⟨some 7, .alloc _,_,_,_,_⟩) AA (HA.o _ _ _ _ _ _) ?_))
  | ((with_reducible refine au (o:=⟨none, .store _ (.tmp 7) (.tmp 12),_,_,_,_⟩) iw (.tmp 7) (.tmp 12) AA AA AA AA AA HN2.o HX.o HD.o HDo.o ?_);intro w3 hb3 hS3;have HB3:=AQ hb3;have HS3:=AQ hS3;clear hb3 hS3))
 have hs3:=HS3.o.size
 rw[World.size_alloc] at hs3
 have B3':Below w2.heap.size w2 w3:=((Below.refl _ w2).alloc (Nat.le_refl _) (.cells X 53)).trans (HS3.o.below AO (fun j hj=>by omega))
 have B3:=AQ (HB2.o.trans (B3'.mono HB2.o.size))
 have HG:=AQ HB2.o.size
 clear B3' hs3
 go_ret
 refine⟨w2.heap.size,rfl,HG.o, ?_,B3.o⟩
 have:=HB3.o
 rw[hD.o,hF.o] at this
 exact this
theorem Aa (w:World) (a:Option Addr) (k:List UInt8) (c:Nat) (h:Row w a k c) (hl:k.length≤1000000) (s:List UInt8) (hs9:s.length≤1000) (a2:Option Addr) (zs:List Int) (c2:Nat) (h2:Ints w a2 zs c2) (hz9:zs.length≤1000):
 Calls Tryz.prog 72 #[.slice a k.length c, .string ⟨s.toArray⟩, .slice a2 zs.length c2] w fun e w'=>∃a' c',e= .returned (.slice a' 32 c')∧Row w' a' (uU k s zs) c'∧Below w.heap.size w w':=by
 have HP:=AQ (JV w s hs9 a2 zs c2 h2 hz9)
 have HK:=AQ h
 have hfl:=wG s zs
 have hf9:(kN s zs).length≤1000000:=by omega
 clear h h2 hfl
 obtain⟨F,hF⟩:=AU (kN s zs)
 rw[←hF.o] at HP hf9
 go_enter Tryz.func72,Tryz.ntmps72
 go_wp2_with fail
 refine HP.o.mono ?_
 rintro e w1 ⟨a1,c1,rfl,hr1,hb1⟩
 have HB1:=AQ hb1
 have HS:=AQ (vN w1 a k c (HK.o.stay hb1) hl a1 F c1 hr1 hf9)
 clear hr1 hb1 HP
 go_wp2_with fail
 refine HS.o.mono ?_
 rintro e w2 ⟨rfl,hb2⟩
 have HB2:=AQ (HB1.o.trans (hb2.mono HB1.o.size))
 have HY:=AQ (nH w2 (vI k F) (oD k F))
 clear hb2 HS
 go_wp2_with fail
 refine HY.o.mono ?_
 rintro e w3 ⟨a3,c3,rfl,hO3,hb3⟩
 have B3:=AQ (HB2.o.trans (hb3.mono HB2.o.size))
 have HM3:=AQ hO3.isRow
 clear hO3 hb3 HY
 go_wp2_with fail
 go_ret
 refine⟨a3,c3,rfl, ?_,B3.o⟩
 have:=HM3.o
 rw[hF.o] at this
 exact this
open Go Go.RowKit Go.Cit
def Jk (M:bD):List (List UInt8):=[int8 M.ver.1,M.prev,int8 M.trial.1,lI (ku M.cfg)]
def headB (M:bD):List UInt8:=(Jk M).flatten
theorem jq {M:bD} (h:jf M=true):pO M.cfg=true:=by
 unfold jf at h;rw[Bool.and_eq_true] at h;exact h.2
theorem ni {M:bD} (hp:M.prev.length=32) (hc:pO M.cfg=true):(headB M).length=52+(ku M.cfg).length∧(ku M.cfg).length≤3782:=by
 have hcan:=tJ hc
 have hlw:=xO M.cfg.ws
 have hlc:=Bj M.cfg.cs
 have hlp:=Bl M.cfg.ps hcan.2.2.2
 have h1:(headB M).length=52+(ku M.cfg).length:=by simp[headB,Jk,fU,hp,bT];omega
 refine⟨h1, ?_⟩
 have h2:(ku M.cfg).length=24+(M.cfg.ws.flatMap jr).length+(M.cfg.ps.flatMap jI).length+(M.cfg.cs.flatMap zC).length:=by
  unfold ku;rw[if_pos hc];unfold uJ;simp[fU];omega
 omega
def Wi (w0:Nat) (M:bD) (T:Array Value) (a3:Option Addr) (F:List UInt8) (k3:Nat) (f:Nat→Value):Nat→Value
 | 12=>(.pointer (some ⟨w0,0,none⟩))
 | 13=>(.int .i64 M.ver.1)
 | 15=>(.pointer (some ⟨w0,1,none⟩))
 | 16=>(.agg T)
 | 18=>(.pointer (some ⟨w0,33,none⟩))
 | 19=>(.int .i64 M.trial.1)
 | 21=>(.slice a3 F.length k3)
 | 2=>(f 4)
 | _=>undef
def U3:Nat→Nat
 | 2=>5
 | _=>0
def XC (w0:Nat) (_:bD) (_:Array Value) (a3:Option Addr) (F:List UInt8) (k3:Nat):Nat→Value
 | 1=>(.pointer (some ⟨w0,0,none⟩))
 | 3=>(.slice a3 F.length k3)
 | _=>undef
theorem Ur (w0:Nat) (M:bD) (T:Array Value) (a3:Option Addr) (F:List UInt8) (k3:Nat):∀d (f g:Nat→Value),(∀j,j<U3 d→f j=g j)→Wi w0 M T a3 F k3 f d=Wi w0 M T a3 F k3 g d:=by
 intro d f g h
 unfold Wi
 split
 ·rfl
 ·rfl
 ·rfl
 ·rfl
 ·rfl
 ·rfl
 ·rfl
 ·rw[h 4 AP]
 ·rfl
theorem DZ (w:World) (M:bD) (h:M.At w) (hcan:jf M=true):Calls Tryz.prog 47 #[.agg (cM M)] w (MX w (headB M)):=by
 obtain⟨C,hC⟩:=AU (cM M)
 obtain⟨w0,hw0⟩:=AV (w.alloc (.cells C 55))
 have B0:Below w.heap.size w w0:=by rw[hw0];exact(Below.refl _ w).alloc (Nat.le_refl _) _
 have hI:fE w0 w.heap.size M:=by rw[hw0,hC.o];exact fE.new w h
 have d0:=hI.d0
 have d1:=hI.d1
 have d2:=hI.d2
 have HI0:=AQ hI
 have HB0:=AQ B0
 have HLN:=AQ (ni h.p32 (jq hcan))
 obtain⟨F,hF⟩:=AU (ku M.cfg)
 have hp:=Jf w0 M.cfg (h.cfg.stay B0) (kL (jq hcan))
 rw[←hF.o] at hp
 have HP:=AQ hp
 obtain⟨Y,hY⟩:=AU (headB M)
 rw[←hC.o,←hY.o]
 have f3:=Pz w.heap.size
 clear hp hI h B0 hcan
 go_enter Tryz.func47,Tryz.ntmps47
 go_upto_region 1 with fail
 rw[←hw0]
 clear hw0
 go_wp2_with fail
 refine(HP.o).mono ?_
 rintro e w1 ⟨a3,k3,rfl,hr3,hb1⟩
 have HB1:=AQ (HB0.o.trans (hb1.mono HB0.o.size))
 have hI:=AQ (HI0.o.keep hb1)
 have C0:=hI.o.ver
 have C2:=hI.o.trial
 obtain⟨T,hT⟩:=AU ((M.prev.map vb).toArray)
 have C1:∀q:After w1,(Instr.loadAt 53 (.pointer (some ⟨w.heap.size,1,none⟩))).run Tryz.prog q.to= .ok (.agg T) q.to:=fun q=>by rw[hT.o];exact(hI.o.keep q.bel).prev
 obtain⟨fs,hfs⟩:=AV ([int8 M.ver.1,M.prev,int8 M.trial.1,lI F])
 have HRM:Hid (([]:List UInt8).length+ [int8 M.ver.1,M.prev,int8 M.trial.1,lI F].flatten.length≤65536):=by
  have h1:=HLN.o
  have h2:(headB M).length=[int8 M.ver.1,M.prev,int8 M.trial.1,lI F].flatten.length:=by rw[hF.o];rfl
  rw[Hid,←h2,List.length_nil];omega
 clear d0 d1 d2 HI0 HP hb1 f3
 go_upto_region 2 with fail
 subst hfs
 refine sF (Wi w.heap.size M T a3 F k3) U3 (XC w.heap.size M T a3 F k3) [1,3] [0,3,6,9,11] (lK w1 [] [int8 M.ver.1,M.prev,int8 M.trial.1,lI F]) AB AB AB AB ⟨rfl,rfl,trivial⟩ (Ur w.heap.size M T a3 F k3) (lK.start _ _ _) ?_ ?_
 ·repeat' (first |exact aQ |refine aB ?_ ?_)
  all_goals intro av vs hk
  ·refine⟨ah rfl, .inl ⟨0,rfl,fun hvs wx hst=> ?_⟩⟩
   refine bQ rfl (hk.fn _) #[] (fun w=>AB) (by rw[List.map_toArray];rfl) (hst.begins hvs (NU _))
  ·exact⟨ah rfl, .inr ⟨by decide,fun s1 s2 hle wx hst=>bG (.tmp 1) rfl (hk.o 1) (v:=(.pointer (some ⟨w.heap.size,0,none⟩))) (fun w=>AB) ⟨hst,rfl⟩⟩⟩
  ·exact⟨ah rfl, .inr ⟨by decide,fun s1 s2 hle wx hst=>bF (.tmp 12) rfl (hk.s 12) (v:=(.int .i64 M.ver.1)) ((fun (q:After _)=>aT (fun w=>AB) (keep q.bel C0)) ⟨wx,hst.bel⟩) ⟨hst,rfl⟩⟩⟩
  ·refine⟨ah rfl, .inl ⟨1,rfl,fun hvs wx hst=> ?_⟩⟩
   refine bQ rfl (hk.fn _) #[qA vs 0, .int .i64 M.ver.1] (fun w=>AB) (by simp only[List.map_toArray,List.map_cons,List.map_nil,(show av.eval (.tmp 11)=qA vs 0 from(hk.line 0 11 AB AB).2),(show av.eval (.tmp 13)=(.int .i64 M.ver.1) from hk.s 13)]) (hst.step (k:=0) hvs (m:=int8 M.ver.1) rfl HRM.o (fun v=> #[v, .int .i64 M.ver.1]) (fun b a X c hw hb9 hr=>fA hw hb9 _ (by have:=fU M.ver.1;omega)))
  ·exact⟨ah rfl, .inr ⟨by decide,fun s1 s2 hle wx hst=>bG (.tmp 1) rfl (hk.o 1) (v:=(.pointer (some ⟨w.heap.size,1,none⟩))) (fun w=>AB) ⟨hst,rfl⟩⟩⟩
  ·exact⟨ah rfl, .inr ⟨by decide,fun s1 s2 hle wx hst=>bF (.tmp 15) rfl (hk.s 15) (v:=(.agg T)) ((fun (q:After _)=>C1 q) ⟨wx,hst.bel⟩) ⟨hst,rfl⟩⟩⟩
  ·refine⟨ah rfl, .inl ⟨2,rfl,fun hvs wx hst=> ?_⟩⟩
   refine bQ rfl (hk.fn _) #[qA vs 1, .agg T] (fun w=>AB) (by simp only[List.map_toArray,List.map_cons,List.map_nil,(show av.eval (.tmp 14)=qA vs 1 from(hk.line 1 14 AB AB).2),(show av.eval (.tmp 16)=(.agg T) from hk.s 16)]) (hst.step (k:=1) hvs (m:=M.prev) rfl HRM.o (fun v=> #[v, .agg T]) (fun b a X c hw hb9 hr=>by rw[hT.o];exact CW hw hb9 _ hI.o.p32 (by have:=hI.o.p32;omega)))
  ·exact⟨ah rfl, .inr ⟨by decide,fun s1 s2 hle wx hst=>bG (.tmp 1) rfl (hk.o 1) (v:=(.pointer (some ⟨w.heap.size,33,none⟩))) (fun w=>AB) ⟨hst,rfl⟩⟩⟩
  ·exact⟨ah rfl, .inr ⟨by decide,fun s1 s2 hle wx hst=>bF (.tmp 18) rfl (hk.s 18) (v:=(.int .i64 M.trial.1)) ((fun (q:After _)=>aT (fun w=>AB) (keep q.bel C2)) ⟨wx,hst.bel⟩) ⟨hst,rfl⟩⟩⟩
  ·refine⟨ah rfl, .inl ⟨3,rfl,fun hvs wx hst=> ?_⟩⟩
   refine bQ rfl (hk.fn _) #[qA vs 2, .int .i64 M.trial.1] (fun w=>AB) (by simp only[List.map_toArray,List.map_cons,List.map_nil,(show av.eval (.tmp 17)=qA vs 2 from(hk.line 2 17 AB AB).2),(show av.eval (.tmp 19)=(.int .i64 M.trial.1) from hk.s 19)]) (hst.step (k:=2) hvs (m:=int8 M.trial.1) rfl HRM.o (fun v=> #[v, .int .i64 M.trial.1]) (fun b a X c hw hb9 hr=>fA hw hb9 _ (by have:=fU M.trial.1;omega)))
  ·exact⟨ah rfl, .inr ⟨by decide,fun s1 s2 hle wx hst=>dN (.tmp 3) rfl ⟨hst,(hk.o 3)⟩⟩⟩
  ·refine⟨ah rfl, .inl ⟨4,rfl,fun hvs wx hst=> ?_⟩⟩
   refine bQ rfl (hk.fn _) #[qA vs 3, .slice a3 F.length k3] (fun w=>AB) (by simp only[List.map_toArray,List.map_cons,List.map_nil,(show av.eval (.tmp 20)=qA vs 3 from(hk.line 3 20 AB AB).2),(show av.eval (.tmp 21)=(.slice a3 F.length k3) from hk.s 21)]) (hst.step (k:=3) hvs (m:=lI F) rfl HRM.o (fun v=> #[v, .slice a3 F.length k3]) (fun b a X c hw hb9 hr=>yD hw hb9 (hr3.stay hst.bel).row (by have:=bT F;omega)))
  ·exact⟨ah rfl, .inr ⟨by decide,fun s1 s2 hle wx hst=>lS (.tmp 22) rfl ⟨hst,(show av.eval (.tmp 22)=qA vs 4 from(hk.line 4 22 AB AB).2)⟩⟩⟩
 intro av vs w2 hlen9 hfin hsame hall hline
 have he:=bn hsame [11,12,13,14,15,16,17,18,19,20,21,22,2] AB
 simp only[List.foldl_cons,List.foldl_nil] at he
 rw[show av.eval (.tmp 2)=(qA vs 4) from hall 2 AB AB] at he
 generalize av.eval (.tmp 11)=y11 at he
 generalize av.eval (.tmp 12)=y12 at he
 generalize av.eval (.tmp 13)=y13 at he
 generalize av.eval (.tmp 14)=y14 at he
 generalize av.eval (.tmp 15)=y15 at he
 generalize av.eval (.tmp 16)=y16 at he
 generalize av.eval (.tmp 17)=y17 at he
 generalize av.eval (.tmp 18)=y18 at he
 generalize av.eval (.tmp 19)=y19 at he
 generalize av.eval (.tmp 20)=y20 at he
 generalize av.eval (.tmp 21)=y21 at he
 generalize av.eval (.tmp 22)=y22 at he
 simp only[cu] at he
 dsimp only[List.set_cons_zero,List.set_cons_succ] at he
 subst he
 clear hsame hall hline
 obtain⟨b,a,X,c,hv,hX,hW,hb2⟩:=hfin.ended (by rw[hlen9];rfl)
 have hv':qA vs 4= .pointer (some ⟨b,0,none⟩):=hv
 rw[hv']
 go_wp2_with fail
 go_ret
 exact⟨b,a,X,c,by rw[Hid,hX.o,hY.o,headB,Jk,←hF.o];rfl,rfl,hW.low HB1.o.size,HB1.o.trans (hb2.mono HB1.o.size)⟩
open Go Go.RowKit Go.Cit
theorem or_zero (v x y:UInt8):UY v (vC x y)=0↔v=0∧x=y:=by
 unfold UY vC
 rw[UInt8.or_eq_zero_iff,UInt8.xor_eq_zero_iff]
theorem JD (w:World) (l m:List UInt8) (hl:l.length=32) (hm:m.length=32):
 Calls Tryz.prog 81 #[.agg (l.map vb).toArray, .agg (m.map vb).toArray] w fun e w'=>e= .returned (.bool (decide (l=m)))∧Below w.heap.size w w':=by
 have HLL:=AQ hl
 have HML:=AQ hm
 have b0:je 53 ((w.alloc (.cells (l.map vb).toArray 53)).alloc (.cells (m.map vb).toArray 53)) w.heap.size l:=(Below.heap_alloc _ _ _ AO).trans (heap_alloc_new w _)
 have b1:je 53 ((w.alloc (.cells (l.map vb).toArray 53)).alloc (.cells (m.map vb).toArray 53)) (w.heap.size+1) m:=by
  have:=heap_alloc_new (w.alloc (.cells (l.map vb).toArray 53)) (.cells (m.map vb).toArray 53)
  rwa[World.size_alloc] at this
 have B0:Below w.heap.size w ((w.alloc (.cells (l.map vb).toArray 53)).alloc (.cells (m.map vb).toArray 53)):=((Below.refl _ w).alloc (Nat.le_refl _) _).alloc AO _
 have HB:=AQ (And.intro b0 (And.intro b1 B0))
 obtain⟨C,hC⟩:=AU ((l.map vb).toArray)
 obtain⟨D,hD⟩:=AU ((m.map vb).toArray)
 rw[←hC.o,←hD.o] at HB ⊢
 clear b0 b1 B0 hl hm
 go_enter Tryz.func81,Tryz.ntmps81
 go_wp2_with (first
  | ((with_reducible refine kP (o:=⟨some 2, .box _ (.tmp 0),_,_,_,_⟩) (.tmp 0) AA AA AA ?_))
  | ((with_reducible refine kP (o:=⟨some 3, .box _ (.tmp 1),_,_,_,_⟩) (.tmp 1) AA AA AA ?_)))
 obtain⟨b0,b1,B0⟩:=HB.o
 go_loopw [5,7] (fun v i wr=>∃(k:Nat) (x:UInt8),k≤32∧i= .int .i64 k∧v=vb x∧Hid (x=0↔l.take k=m.take k)∧je 53 wr w.heap.size l∧je 53 wr (w.heap.size+1) m∧Below w.heap.size w wr) (fun _ i _=>32-(intOf i).toNat)
 case atStart=>exact⟨0,0,by omega,rfl,rfl,by simp[Hid],b0,b1,B0⟩
 case round=>
  clear b0 b1 B0
  obtain⟨k,v,hk,rfl,rfl,HV,A0,A1,B⟩:=hrel
  by_cases hlt:k<32
  ·have d1:decide ((k:Int)<32)=true:=by simp;omega
   have hkl:k<l.length:=by rw[HLL.o];exact hlt
   have hkm:k<m.length:=by rw[HML.o];exact hlt
   have i0:=fun W=>qY (T:=53) (n:=32) Tryz.underlying53 w.heap.size k hlt W
   have i1:=fun W=>qY (T:=53) (n:=32) Tryz.underlying53 (w.heap.size+1) k hlt W
   have e0:∀n,({wr with drawn:=n}:World).cell? ⟨w.heap.size,k,none⟩=some (vb l[k]):=fun _=>A0.cell k hkl
   have e1:∀n,({wr with drawn:=n}:World).cell? ⟨w.heap.size+1,k,none⟩=some (vb m[k]):=fun _=>A1.cell k hkm
   have HS:Hid (UY v (vC l[k] m[k])=0↔l.take (k+1)=m.take (k+1)):=by
    rw[Hid,or_zero,HV.o,List.take_succ_eq_append_getElem hkl,List.take_succ_eq_append_getElem hkm]
    constructor
    ·rintro⟨h1,h2⟩;rw[h1,h2]
    ·intro h
     have:=List.append_inj h (by rw[List.length_take,List.length_take,HLL.o,HML.o])
     exact⟨this.1,by simpa using this.2⟩
   generalize l[k]=x at e0 HS
   generalize m[k]=y at e1 HS
   have A0d:∀n,je 53 (wr.drewN n) w.heap.size l:=fun _=>A0
   have A1d:∀n,je 53 (wr.drewN n) (w.heap.size+1) m:=fun _=>A1
   have HA:=AQ (And.intro A0d A1d)
   clear hkl hkm A0d A1d
   go_wp2_with fail
   go_quiet (fail)
   go_wp2_with fail
   go_roundw
   case rel=>exact⟨k+1,UY v (vC x y),by omega,by go_num,rfl,HS,HA.o.1 _,HA.o.2 _,B.trans (below_drewN _ _ _)⟩
   case measure=>simp[intOf];omega
  ·have hk2:k=32:=by omega
   have d1:decide ((k:Int)<32)=false:=by simp;omega
   have HV2:Hid (v=0↔l=m):=by
    have:=HV.o
    rwa[hk2,List.take_of_length_le (by rw[HLL.o];omega),List.take_of_length_le (by rw[HML.o];omega)] at this
   clear hk2
   by_cases hlm:l=m
   ·have q:((v.toNat:Int)==0)=true:=by rw[HV2.o.2 hlm];rfl
    have HR:Hid (decide (l=m)=true):=by rw[Hid];simpa using hlm
    clear hlm
    go_wp2_with fail
    go_ret
    exact⟨by rw[HR.o];rfl,B⟩
   ·have q:((v.toNat:Int)==0)=false:=by
     rw[beq_eq_false_iff_ne];intro h
     exact hlm (HV2.o.1 (UInt8.toNat_inj.1 (by show v.toNat=0;omega)))
    have HR:Hid (decide (l=m)=false):=by rw[Hid];simpa using hlm
    clear hlm
    go_wp2_with fail
    go_ret
    exact⟨by rw[HR.o];rfl,B⟩
end Go.Proofs.YtlholdllibghbaaGreat
