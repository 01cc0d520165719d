/- Texts of the proof, one behind the other: Parse, WordsOrd, ParPlain, EtU. No condition but those that each names. -/
import Derived.Test.YtlholdllibghbaaGreatG20
import Derived.Test.YtlholdllibghbaaGreatG15
import Derived.Test.YtlholdllibghbaaGreatProg
import Derived.Test.YtlholdllibghbaaGreatG00
import Derived.Test.YtlholdllibghbaaGreatG05
import Derived.Test.YtlholdllibghbaaGreatG09
import Derived.Test.YtlholdllibghbaaGreatG01
import Derived.Test.YtlholdllibghbaaGreatKit
set_option maxRecDepth 100000
set_option maxHeartbeats 8000000
namespace Go.Proofs.YtlholdllibghbaaGreat
open Go Go.RowKit Go.Cit
def FZ (K:Bq):Bool:=((decide (K.wins.length≤12) && decide (K.parts.length≤6)) && decide (K.chans.length≤8)) && !K.parts.any fun p=>decide (512<p.img.length)
theorem jE (V:aO):nJ V=FZ V.cfg:=by
 unfold nJ FZ aO.cfg
 simp only[List.length_map,List.any_map]
 rfl
def Ah (l:List UInt8):List qm×St:=iF bW 12 (St.new l)
def G9 (l:List UInt8):List Pt×St:=iF fC 6 (Ah l).2
def EU (l:List UInt8):List Ch×St:=iF dN 8 (G9 l).2
def zU (l:List UInt8):Bq:=⟨(Ah l).1,(G9 l).1,(EU l).1⟩
def Dx (l:List UInt8):Bool:=decide ((EU l).2.fin=0) && FZ (zU l)
def xk (l:List UInt8):Bq:=if Dx l then zU l else⟨[],[],[]⟩
def uz (l:List UInt8):Int:=if Dx l then 0 else 110
theorem bV.off {B k:Nat} {w w':World} {V:aO} {C:Array Value} {fr:Nat×Nat} (h:bV B w V) (hs:Save (· ≠k) w w') (hk:w.heap[k]? =some (.cells C 26 fr)):bV B w' V:=by
 have e:∀ {E:TypeId} {g:Nat},(∃cs,w.heap[g]? =some (.cells cs E (0,0)))→(E:Nat)≠26→g≠k:=by
  rintro E g ⟨cs,hg⟩ hE rfl
  rw[hk] at hg;injection hg with hg;injection hg with _ h2;exact hE h2.symm
 have s:∀ {E:TypeId} {g:Nat},(∃cs,w.heap[g]? =some (.cells cs E (0,0)))→(E:Nat)≠26→∃cs,w'.heap[g]? =some (.cells cs E (0,0)):=by
  rintro E g ⟨cs,hg⟩ hE
  exact⟨cs,(hs.block g (Array.getElem?_eq_some_iff.1 hg).1 (e ⟨cs,hg⟩ hE)).trans hg⟩
 exact⟨h.win.save dW hs (fun _ j hj=>e (h.wb j hj).2 Kr),h.pts.save dY hs (fun _ j hj=>e (h.pb j hj).2 QD),h.kL.save gK hs (fun _ j hj=>e (h.cb j hj).2 Nh),
  fun g hg=>⟨(h.wb g hg).1,s (h.wb g hg).2 Kr⟩,fun g hg=>⟨(h.pb g hg).1,s (h.pb g hg).2 QD⟩,fun g hg=>⟨(h.cb g hg).1,s (h.cb g hg).2 Nh⟩,fun x hx=>(h.img x hx).save hs (fun j hj=>mF (h.img x hx) hk Ti j hj)⟩
theorem ou (B:Nat) (w:World):bV B w ⟨none,[],0,none,[],0,none,[],0⟩:=
 ⟨Vec.nil_ _,Vec.nil_ _,Vec.nil_ _,fun g h=>by simp[blk] at h,fun g h=>by simp[blk] at h,fun g h=>by simp[blk] at h,fun x hx=>by simp at hx⟩
theorem GN (w:World) {a:Option Addr} {l:List UInt8} {c:Nat} (h:Row w a l c):Calls Tryz.prog 59 #[.slice a l.length c] w fun e w'=>∃U:aO,e= .returned (.tuple #[.agg (cU U), .int .i64 (uz l)])∧U.cfg=xk l∧bV w.heap.size w' U∧Below w.heap.size w w':=by
 obtain⟨w0,hw0⟩:=AV (w.alloc (.cells #[.slice none 0 0, .slice none 0 0, .slice none 0 0] 26))
 obtain⟨R,hR⟩:=AV (w.heap.size)
 have B0:Below w.heap.size w w0:=by rw[hw0];exact(Below.refl _ w).alloc (Nat.le_refl _) _
 have hxR:w0.heap[R]? =some (.cells #[.slice none 0 0, .slice none 0 0, .slice none 0 0] 26 (0,0)):=by rw[hw0,hR];exact heap_alloc_new _ _
 have HN:=AQ (qp w0 (h.stay B0))
 have H0:=AQ (And.intro hxR B0)
 obtain⟨PE,hPE⟩:=AU (uz l)
 obtain⟨PK,hPK⟩:=AU (xk l)
 rw[←hPE.o,←hPK.o]
 have hl9:=h.bK
 clear h hxR B0
 go_enter Tryz.func59,Tryz.ntmps59
 go_upto_region 1 with fail
 rw[←hw0,←hR]
 have HRR:=AQ hR
 clear hw0 hR
 go_wp2_with fail
 refine(HN.o).mono ?_
 rintro e w1 ⟨rfl,hRd,hb1⟩
 obtain⟨b,hb⟩:=AV (w0.heap.size)
 obtain⟨T,hT⟩:=AV (w1.heap.size)
 obtain⟨w2,hw2⟩:=AV (w1.alloc (.cells #[.pointer (some ⟨b,0,none⟩)] 100))
 have hb2:Below w1.heap.size w1 w2:=by rw[hw2];exact(Below.refl _ _).alloc (Nat.le_refl _) _
 have hgv:dJ w2 T b:=by rw[hw2,hT];exact heap_alloc_new _ _
 rw[←hb,←hT] at hRd
 have hRd2:=hRd.stay hb2
 have hRb:R<b:=by have:=(Array.getElem?_eq_some_iff.1 H0.o.1).1;omega
 have hwb:w.heap.size≤b:=by have:=HRR.o;omega
 have hTw:T≤w2.heap.size:=by rw[hT];exact hb2.size
 have hB2:Below w0.heap.size w0 w2:=hb1.trans (hb2.mono hb1.size)
 obtain⟨L1,hL1⟩:=AU ((Ah l).1)
 obtain⟨s1,hs1⟩:=AU ((Ah l).2)
 obtain⟨L3,hL3⟩:=AU ((EU l).1)
 obtain⟨s2,hs2⟩:=AU ((G9 l).2)
 obtain⟨s3,hs3⟩:=AU ((EU l).2)
 have HTB:Hid (T≠b):=hgv.ne hRd2
 have HBL:Hid (b<w2.heap.size):=hRd2.lt
 have hk:Calls Tryz.prog 133 _ w2 fun e w'=>∃a c,e= .returned (.slice a (Ah l).1.length c)∧aS mY 2 77 w2.heap.size w' a (Ah l).1 c∧dU b T w' b (Ah l).2∧Save (· ≠b) w2 w':=Fj hRd2 hTw T hgv 12 AP
 rw[←hL1.o,←hs1.o] at hk
 have HK:=AQ hk
 have c0:=hgv.cell
 have H2:=AQ (And.intro hgv hB2)
 clear hRd hb1 hb2 hRd2 hgv hB2 HN hk
 go_upto_region 2 with fail
 rw[←hb,←hw2,←hT]
 have HBB:=AQ hb
 clear hb hw2 hT
 go_wp2_with fail
 refine(HK.o).mono ?_
 rintro e w3 ⟨aw,cw,rfl,hOw,hR3,hS3⟩
 have hTb:T≠b:=HTB.o
 have hg3:dJ w3 T b:=H2.o.1.save hS3 hTb
 have hx3:w3.heap[R]? =some (.cells #[.slice none 0 0, .slice none 0 0, .slice none 0 0] 26 (0,0)):=(hS3.block R (by have:=(Array.getElem?_eq_some_iff.1 (aG H0.o.1 H2.o.2)).1;exact this) AL).trans (aG H0.o.1 H2.o.2)
 obtain⟨w4,hw4⟩:=AV (w3.alloc (.cells #[.slice aw L1.length cw, .slice none 0 0, .slice none 0 0] 26))
 obtain⟨C,hC⟩:=AV (w3.heap.size)
 have hb4:Below w3.heap.size w3 w4:=by rw[hw4];exact(Below.refl _ _).alloc (Nat.le_refl _) _
 have hxC:w4.heap[C]? =some (.cells #[.slice aw L1.length cw, .slice none 0 0, .slice none 0 0] 26 (0,0)):=by rw[hw4,hC];exact heap_alloc_new _ _
 have hR4:=hR3.stay hb4
 have hg4:dJ w4 T b:=aG hg3 hb4
 have hCw:w2.heap.size≤C:=by rw[hC];exact hS3.size
 have hC4:C<w4.heap.size:=(Array.getElem?_eq_some_iff.1 hxC).1
 have hTC:T≤C:=Nat.le_trans hTw hCw
 have hRC:R≠C:=by have:=(Array.getElem?_eq_some_iff.1 hx3).1;omega
 have hbC:b≠C:=by have:=hR3.lt;omega
 have hTC':T≠C:=by have:=hg3.lt;omega
 obtain⟨N2,hN2⟩:=AV (w2.heap.size)
 have H4:=AQ (And.intro hg4 (And.intro hxC (And.intro (aG hx3 hb4) (And.intro (hOw.stay hb4) (hS3.trans (Save.of hb4))))))
 have hN4:T≤w4.heap.size:=Nat.le_trans hTw (Nat.le_trans hS3.size hb4.size)
 have hk:Calls Tryz.prog 135 _ w4 fun e w'=>∃a c,∃L:List dL,e= .returned (.slice a L.length c)∧L.map dL.pt=(iF fC 6 s1).1∧aS Bo 5 46 w4.heap.size w' a L c∧(∀x∈L,Row w' x.a x.img x.c∧(x.img≠ []→∀g,blk x.a=some g→w4.heap.size≤g∧blk a≠some g))∧dU b T w' b (iF fC 6 s1).2∧Save (· ≠b) w4 w':=FC hR4 hN4 T hg4 6 AP
 have e2:iF fC 6 s1=G9 l:=by rw[hs1.o];rfl
 rw[e2,←hs2.o] at hk
 have HK:=AQ hk
 have c0:=hg4.cell
 clear hOw hR3 hS3 hg3 hx3 hb4 hxC hR4 hg4 hk e2
 go_upto_region 3 with fail
 rw[←hw4,←hC]
 have HCC:=AQ hC
 clear hw4 hC
 go_wp2_with fail
 refine(HK.o).mono ?_
 rintro e w5 ⟨ap,cp,L2,rfl,hL2,hOp,hIm,hR5,hS5⟩
 have hg5:dJ w5 T b:=H4.o.1.save hS5 hTb
 have hx5:=(hS5.block R (Array.getElem?_eq_some_iff.1 H4.o.2.2.1).1 AL).trans H4.o.2.2.1
 have hc5:=(hS5.block C hC4 AL).trans H4.o.2.1
 have ow5:=H4.o.2.2.2.1.save hS5 (fun g hg=>by have:=(H4.o.2.2.2.1.aK hg).1;have:=HBL.o;omega)
 have c1:=au hc5 1 rfl
 have f1:=bD hc5 1
 obtain⟨w6,hw6⟩:=AV (w5.setCell ⟨C,1,none⟩ (.slice ap L2.length cp))
 have hs6:Save (· ≠C) w5 w6:=by rw[hw6];exact Save.set
 have hc6:w6.heap[C]? =some (.cells #[.slice aw L1.length cw, .slice ap L2.length cp, .slice none 0 0] 26 (0,0)):=by rw[hw6];exact aX _ hc5
 have hx6:=(hs6.block R (Array.getElem?_eq_some_iff.1 hx5).1 hRC).trans hx5
 have ow6:=ow5.save hs6 (fun g hg=>cO ow5 hc5 Kr g hg)
 have op6:=hOp.save hs6 (fun g hg=>cO hOp hc5 QD g hg)
 have hR6:=hR5.newer hs6 hTC hbC
 have hg6:dJ w6 T b:=hg5.newer hs6 hTC'
 have im6:Hid (∀x∈L2,Row w6 x.a x.img x.c∧(x.img≠ []→∀g,blk x.a=some g→w4.heap.size≤g)):=fun x hx=>⟨(hIm x hx).1.save' hs6 (fun h g hg=>by have:=((hIm x hx).2 h g hg).1;omega),fun h g hg=>((hIm x hx).2 h g hg).1⟩
 have H6:=AQ (And.intro hg6 (And.intro hc6 (And.intro hx6 (And.intro ow6 (And.intro op6 ((H4.o.2.2.2.2.trans hS5)))))))
 have H6S:=AQ hs6
 have hN6:T≤w6.heap.size:=Nat.le_trans hN4 (Nat.le_trans hS5.size hs6.size)
 have hk:Calls Tryz.prog 138 _ w6 fun e w'=>∃a c,e= .returned (.slice a (iF dN 8 s2).1.length c)∧aS BO 5 48 w6.heap.size w' a (iF dN 8 s2).1 c∧dU b T w' b (iF dN 8 s2).2∧Save (· ≠b) w6 w':=Ic hR6 hN6 T hg6 8 AP
 have e2:iF dN 8 s2=EU l:=by rw[hs2.o];rfl
 rw[e2,←hL3.o,←hs3.o] at hk
 have HK:=AQ hk
 have HL2:=AQ hL2
 have HS56:Hid (w4.heap.size≤w5.heap.size):=hS5.size
 clear hL2 hOp hIm hR5 hS5 hg5 hx5 hc5 ow5 hs6 hc6 hx6 ow6 op6 hR6 hg6 hk e2 c0
 go_upto_region 4 with fail
 rw[←hw6]
 clear hw6 c1 f1
 have c0:=H6.o.1.cell
 go_wp2_with fail
 refine(HK.o).mono ?_
 rintro e w7 ⟨ac,cc,rfl,hOc,hR7,hS7⟩
 have hx7:=(hS7.block R (Array.getElem?_eq_some_iff.1 H6.o.2.2.1).1 AL).trans H6.o.2.2.1
 have hg7:dJ w7 T b:=H6.o.1.save hS7 hTb
 have hc7:=(hS7.block C (Array.getElem?_eq_some_iff.1 H6.o.2.1).1 AL).trans H6.o.2.1
 have ow7:=H6.o.2.2.2.1.save hS7 (fun g hg=>by have:=(H6.o.2.2.2.1.aK hg).1;have:=HBL.o;omega)
 have hbig:w2.heap.size≤w4.heap.size:=H4.o.2.2.2.2.size
 have op7:=H6.o.2.2.2.2.1.save hS7 (fun g hg=>by have:=(H6.o.2.2.2.2.1.aK hg).1;have:=HBL.o;omega)
 have c2:=au hc7 2 rfl
 have f2:=bD hc7 2
 obtain⟨w8,hw8⟩:=AV (w7.setCell ⟨C,2,none⟩ (.slice ac L3.length cc))
 have hs8:Save (· ≠C) w7 w8:=by rw[hw8];exact Save.set
 have hc8:w8.heap[C]? =some (.cells #[.slice aw L1.length cw, .slice ap L2.length cp, .slice ac L3.length cc] 26 (0,0)):=by rw[hw8];exact aX _ hc7
 have hx8:=(hs8.block R (Array.getElem?_eq_some_iff.1 hx7).1 hRC).trans hx7
 have ow8:=ow7.save hs8 (fun g hg=>cO ow7 hc7 Kr g hg)
 have op8:=op7.save hs8 (fun g hg=>cO op7 hc7 QD g hg)
 have oc8:=hOc.save hs8 (fun g hg=>cO hOc hc7 Nh g hg)
 have hR8:=hR7.newer hs8 hTC hbC
 have hg8:dJ w8 T b:=hg7.newer hs8 hTC'
 have im8:∀x∈L2,Row w8 x.a x.img x.c:=fun x hx=>((im6.o x hx).1.save' hS7 (fun h g hg=>by have:=(im6.o x hx).2 h g hg;have:=HBL.o;omega)).save' hs8 (fun h g hg=>by have:=(im6.o x hx).2 h g hg;omega)
 obtain⟨V,hV⟩:∃V:aO,Hid (V=⟨aw,L1,cw,ap,L2,cp,ac,L3,cc⟩):=⟨_,rfl⟩
 have HVA:Hid (V.At w8):=by rw[hV.o];exact⟨ow8.vec dW,op8.vec dY,oc8.vec gK,im8⟩
 have HVC:Hid (V.cfg=zU l):=by rw[hV.o,Hid];unfold aO.cfg zU;rw[hL1.o,HL2.o,hL3.o]
 have HX8:=AQ (And.intro hx8 (And.intro hc8 hg8))
 have hB8:Below w.heap.size w w8:=by
  have h2:Below w.heap.size w w2:=H0.o.2.trans (H2.o.2.mono H0.o.2.size)
  have h4:Below w.heap.size w w4:=h2.trans (H4.o.2.2.2.2.below h2.size (fun k hk=>by omega))
  have h5:Below w.heap.size w w6:=h2.trans (H6.o.2.2.2.2.2.below h2.size (fun k hk=>by omega)) |>.trans (H6S.o.below (Nat.le_trans h4.size HS56.o) (fun k hk=>by have:=h2.size;omega))
  exact(h5.trans (hS7.below h5.size (fun k hk=>by omega))).trans (hs8.below (Nat.le_trans h5.size hS7.size) (fun k hk=>by have:=h2.size;omega))
 have HB8:=AQ hB8
 have HK:=AQ (xP hR8)
 have hk:=xA w8 V HVA.o
 rw[jE,HVC.o] at hk
 obtain⟨q,hq⟩:=AU (FZ (zU l))
 obtain⟨f,hf⟩:=AU s3.fin
 rw[←hq.o,hV.o] at hk
 rw[←hf.o] at HK
 have HKC:=AQ hk
 have c0:=hg8.cell
 clear hx7 hg7 hc7 ow7 op7 hs8 hc8 hx8 ow8 op8 oc8 hR8 hg8 im8 hB8 hk hbig hOc hR7 hS7 H6
 go_upto_region 5 with fail
 rw[←hw8]
 clear hw8 c2 f2
 have HOK:Hid (Dx l=(decide (f=0) && q)):=by rw[Hid,Dx,hf.o,hq.o,hs3.o]
 obtain⟨d0,d1,d2⟩:gU w8 C ⟨aw,L1,cw,ap,L2,cp,ac,L3,cc⟩:=Gx HX8.o.2.1
 by_cases hf0:f=0
 ·subst hf0
  go_wp2_with fail
  refine(HK.o).mono ?_
  rintro e w9 ⟨rfl,rfl⟩
  go_wp2_with fail
  refine(HKC.o).mono ?_
  rintro e w10 ⟨rfl,hb10⟩
  have hx10:=aG HX8.o.1 hb10
  have hc10:=aG HX8.o.2.1 hb10
  have HX10:=AQ (And.intro hx10 hc10)
  have HB10:=AQ (HB8.o.trans (hb10.mono HB8.o.size))
  have HVA10:=AQ (HVA.o.stay hb10)
  clear hx10 hc10 hb10 d0 d1 d2 c0
  cases q with
  |
   true=>
   have e1:Hid (PE=0):=by rw[Hid,hPE.o,uz,HOK.o];rfl
   have e2:Hid (PK=zU l):=by rw[Hid,hPK.o,xk,HOK.o];rfl
   obtain⟨d0,d1,d2⟩:gU w10 C ⟨aw,L1,cw,ap,L2,cp,ac,L3,cc⟩:=Gx HX10.o.2
   have hsm:cu V:=by
    have hcan:nJ V=true:=by rw[jE,HVC.o];exact hq.o.symm
    have hsp:=rC hcan
    refine⟨by omega,by omega,by omega,fun x hx=> ?_⟩
    have:=List.any_eq_false.1 hsp.2.2.2 x hx
    simp[jZ] at this
    omega
   have hk:=xY w10 V HVA10.o hsm
   rw[hV.o] at hk
   have HCP:=AQ hk
   clear hk
   go_wp2_with fail
   refine(HCP.o).mono ?_
   rintro e w11 ⟨U,rfl,hU,hF,hb11⟩
   have HU:=AQ (And.intro hU (And.intro hF hb11))
   have HXR:=AQ (aG HX10.o.1 hb11)
   clear hU hF hb11 d0 d1 d2 HCP
   go_wp2_with ((with_reducible refine ay (o:=⟨none, .store _ (.tmp 2) _,_,_,_,_⟩) iW (.tmp 2) (.tmp 30) AA AA AA AA AA HXR.o AA AA AA ?_);intro w12 hg12 hs12)
   have hB11:=HB10.o.trans (HU.o.2.2.mono HB10.o.size)
   refine bodyPost_ret (jS iW rfl (by rfl) hg12 rfl) rfl ⟨U, ?_, ?_,(HU.o.2.1.off hs12 HXR.o).low HB10.o.size,hB11.trans (hs12.below hB11.size (fun k hk=>by have:=HRR.o;omega))⟩
   ·rw[e1.o];rfl
   ·rw[HU.o.1,e2.o,←HVC.o,hV.o]
  |
   false=>
   have e1:Hid (PE=110):=by rw[Hid,hPE.o,uz,HOK.o];rfl
   have e2:Hid (PK=⟨[],[],[]⟩):=by rw[Hid,hPK.o,xk,HOK.o];rfl
   go_wp2_with ((with_reducible refine ay (o:=⟨none, .store _ (.tmp 2) _,_,_,_,_⟩) iW (.tmp 2) (.tmp 28) AA AA AA AA AA HX10.o.1 AA AA AA ?_);intro w12 hg12 hs12)
   refine bodyPost_ret (jS iW rfl (by rfl) hg12 rfl) rfl ⟨⟨none,[],0,none,[],0,none,[],0⟩, ?_, ?_,ou _ _,HB10.o.trans (hs12.below HB10.o.size (fun k hk=>by have:=HRR.o;omega))⟩
   ·rw[e1.o];rfl
   ·rw[e2.o];rfl
 ·have e1:Hid (PE=110):=by rw[Hid,hPE.o,uz,HOK.o,decide_eq_false hf0];rfl
  have e2:Hid (PK=⟨[],[],[]⟩):=by rw[Hid,hPK.o,xk,HOK.o,decide_eq_false hf0];rfl
  have t1:((f:Int) !=0)=true:=by simpa using hf0
  clear hf0
  go_wp2_with fail
  refine(HK.o).mono ?_
  rintro e w9 ⟨rfl,rfl⟩
  go_wp2_with ((with_reducible refine ay (o:=⟨none, .store _ (.tmp 2) _,_,_,_,_⟩) iW (.tmp 2) (.tmp 28) AA AA AA AA AA HX8.o.1 AA AA AA ?_);intro w12 hg12 hs12)
  refine bodyPost_ret (jS iW rfl (by rfl) hg12 rfl) rfl ⟨⟨none,[],0,none,[],0,none,[],0⟩, ?_, ?_,ou _ _,HB8.o.trans (hs12.below HB8.o.size (fun k hk=>by have:=HRR.o;omega))⟩
  ·rw[e1.o];rfl
  ·rw[e2.o];rfl
open Go Go.RowKit Go.Cit
theorem rF:∀(l:List UInt8) (x:Nat),l.foldl (fun x d=>256*x+d.toNat) x=x*256^l.length+l.foldl (fun x d=>256*x+d.toNat) 0
 | [],x=>by simp
 |
  d::l,x=>by
  rw[List.foldl_cons,List.foldl_cons,rF l (256*x+d.toNat),rF l (256*0+d.toNat),List.length_cons,Nat.pow_succ]
  generalize 256^l.length=p
  rw[Nat.mul_zero,Nat.zero_add,Nat.add_mul,Nat.add_assoc]
  congr 1
  rw[Nat.mul_comm p 256,←Nat.mul_assoc,Nat.mul_comm x 256]
theorem KL (d:UInt8) (l:List UInt8):DY (d::l)=d.toNat*256^l.length+DY l:=by
 show l.foldl _ (256*0+d.toNat)=_
 rw[rF,Nat.mul_zero,Nat.zero_add];rfl
theorem Ko:∀(l:List UInt8) (x:UInt64),x.toNat%256^l.length=DY l→rowB x l.length=l
 | [],_,_=>rfl
 |
  d::l,x,h=>by
  rw[List.length_cons,Nat.pow_succ,KL] at h
  have hlt:=yI l
  have hp:0<256^l.length:=Nat.pow_pos AP
  rw[List.length_cons,rowB]
  have e1:x.toNat/256^l.length%256=d.toNat:=by
   rw[←Nat.mod_mul_right_div_self,h,Nat.mul_comm,Nat.mul_add_div hp,Nat.div_eq_of_lt hlt,Nat.add_zero]
  have e2:x.toNat%256^l.length=DY l:=by
   rw[←Nat.mod_mul_right_mod x.toNat (256^l.length) 256,h,Nat.mul_comm,Nat.mul_add_mod,Nat.mod_eq_of_lt hlt]
  rw[Ko l x e2]
  congr 1
  apply UInt8.toNat_inj.1
  rw[EW,e1]
theorem MJ (l:List UInt8) (h:l.length≤8):rowB (dS l) l.length=l:=
 Ko l _ (by rw[tC l h];exact Nat.mod_eq_of_lt (yI l))
open Go Go.RowKit Go.Cit
theorem Dz {α:Type} {s:St} {n:Nat} {f:List UInt8→α×Bool} {z:α} (h:s.e=0):
 (n≤s.l.length∧(f (s.l.take n)).2=true∧s.read n f z=((f (s.l.take n)).1,⟨s.l.drop n,0⟩))∨s.read n f z=(z,St.broke):=by
 obtain⟨l,e⟩:=s
 have h:e=0:=h
 subst h
 by_cases hn:n≤l.length
 ·by_cases hf:(f (l.take n)).2=true
  ·exact .inl ⟨hn,hf,mZ hn hf⟩
  ·exact .inr (vC hn (by simpa using hf))
 ·right
  rw[pR (fun _=>by omega)]
  rfl
theorem NW {x:List UInt8} (hx:x.length=4) (h:(dS x).toNat≤65536):rowB (lN (EK ((dS x).toNat:Int))) 4=x:=by
 have h1:lN (EK ((dS x).toNat:Int))=dS x:=by
  apply UInt64.toNat_inj.1
  have:=zC ((dS x).toNat:Int)
  unfold lN
  rw[UInt32.toNat_toUInt64]
  omega
 rw[h1,←hx]
 exact MJ x AL
theorem Iu {s:St} (h:s.e=0):(∃m rest,m.length≤65536∧s.l=kC m++rest∧s.bytes=(m,⟨rest,0⟩))∨s.bytes=([],St.broke):=by
 rcases Dz (n:=4) (f:=ny) (z:=0) h with⟨hn,hf,hr⟩ |hr
 ·have hle:(dS (s.l.take 4)).toNat≤65536:=by simpa[ny] using hf
  rw[St.bytes,hr,if_pos rfl]
  have hm:((ny (s.l.take 4)).1).toNat=(dS (s.l.take 4)).toNat:=by simp[ny]
  dsimp only
  rw[hm]
  rcases Dz (s:=⟨s.l.drop 4,0⟩) (n:=(dS (s.l.take 4)).toNat) (f:=fAll) (z:=[]) rfl with⟨hn2,_,hr2⟩ |hr2
  ·left
   dsimp only at hn2 hr2
   have hl:((s.l.drop 4).take (dS (s.l.take 4)).toNat).length=(dS (s.l.take 4)).toNat:=by rw[List.length_take];omega
   refine⟨(s.l.drop 4).take (dS (s.l.take 4)).toNat,(s.l.drop 4).drop (dS (s.l.take 4)).toNat,by rw[hl];exact hle, ?_,hr2⟩
   rw[kC,hl,NW (by rw[List.length_take];omega) hle,List.append_assoc,List.take_append_drop,List.take_append_drop]
  ·exact .inr hr2
 ·right
  rw[St.bytes,hr,if_neg AP]
def Uc (p:Pt):List UInt8:=int8 p.id.1++(int8 p.reg.base.1++(int8 p.reg.size.1++(iK p.keep++kC p.img)))
theorem P6 (x:dL):je x=Uc x.pt:=by simp[je,Uc,dL.pt]
def Pz (K:Bq):List UInt8:=((int8 K.wins.length++K.wins.flatMap iO)++(int8 K.parts.length++K.parts.flatMap Uc))++(int8 K.chans.length++K.chans.flatMap xU)
theorem G6 {α β γ:Type} (f:α→β) (b:β→List γ) (c:α→List γ) (h:∀x,c x=b (f x)):∀l:List α,l.flatMap c=(l.map f).flatMap b
 | []=>rfl
 | x::r=>by rw[List.flatMap_cons,List.map_cons,List.flatMap_cons,h,G6 f b c h r]
theorem Lp (V:aO):rE V=Pz V.cfg:=by
 unfold rE Pz aO.cfg
 simp only[List.length_map]
 rw[G6 dL.pt Uc je P6 V.ps]
theorem Iz {α:Type} {s:St} {n:Nat} {f:List UInt8→α×Bool} {z:α} (h:s.e≠0):(s.read n f z).2.e≠0:=by
 unfold St.read St.next
 rw[if_pos h]
 exact h
open Go Go.RowKit Go.Cit
theorem U7:bT Tryz.prog 40 5 1 1 (.int .u8 0):=bT.ofBytes SG
end Go.Proofs.YtlholdllibghbaaGreat
