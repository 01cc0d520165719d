/- Texts of the proof, one behind the other: Parse, ParPlain, SameC, StrG. No condition but those that each names. -/
import Derived.Test.YtlholdllibghbaaGreatG20
import Derived.Test.YtlholdllibghbaaGreatG16
import Derived.Test.YtlholdllibghbaaGreatProg
import Derived.Test.YtlholdllibghbaaGreatG00
import Derived.Test.YtlholdllibghbaaGreatG05
import Derived.Test.YtlholdllibghbaaGreatG14
import Derived.Test.YtlholdllibghbaaGreatShelf
import Derived.Test.YtlholdllibghbaaGreatG15
import Derived.Test.YtlholdllibghbaaGreatG09
import Derived.Test.YtlholdllibghbaaGreatG01
import Derived.Test.YtlholdllibghbaaGreatKit
set_option maxRecDepth 100000
set_option maxHeartbeats 8000000
namespace Go.Proofs.YtlholdllibghbaaGreat
open Go Go.RowKit Go.Cit
def KX (K:zk):Bool:=((decide (K.wins.length≤12) && decide (K.parts.length≤6)) && decide (K.chans.length≤8)) && !K.parts.any fun p=>decide (512<p.img.length)
theorem ku (V:aN):nP V=KX V.cfg:=by
 unfold nP KX aN.cfg
 simp only[List.length_map,List.any_map]
 rfl
def Io (l:List UInt8):List nU×St:=iV eY 12 (St.new l)
def Qo (l:List UInt8):List Pt×St:=iV jE 6 (Io l).2
def Oe (l:List UInt8):List Ch×St:=iV gK 8 (Qo l).2
def LY (l:List UInt8):zk:=⟨(Io l).1,(Qo l).1,(Oe l).1⟩
def JO (l:List UInt8):Bool:=decide ((Oe l).2.fin=0) && KX (LY l)
def L8 (l:List UInt8):zk:=if JO l then LY l else⟨[],[],[]⟩
def Hw (l:List UInt8):Int:=if JO l then 0 else 110
theorem cu.off {B k:Nat} {w w':World} {V:aN} {C:Array Value} {fr:Nat×Nat} (h:cu B w V) (hs:Save (· ≠k) w w') (hk:w.heap[k]? =some (.cells C 26 fr)):cu B w' V:=by
 have e:∀ {E:TypeId} {g:Nat},(∃cs,w.heap[g]? =some (.cells cs E (0,0)))→(E:Nat)≠26→g≠k:=by
  rintro E g ⟨cs,hg⟩ hE rfl
  rw[hk] at hg;injection hg with hg;injection hg with _ h2;exact hE h2.symm
 have s:∀ {E:TypeId} {g:Nat},(∃cs,w.heap[g]? =some (.cells cs E (0,0)))→(E:Nat)≠26→∃cs,w'.heap[g]? =some (.cells cs E (0,0)):=by
  rintro E g ⟨cs,hg⟩ hE
  exact⟨cs,(hs.block g (Array.getElem?_eq_some_iff.1 hg).1 (e ⟨cs,hg⟩ hE)).trans hg⟩
 exact⟨h.win.save eG hs (fun _ j hj=>e (h.wb j hj).2 JL),h.pts.save dZ hs (fun _ j hj=>e (h.pb j hj).2 PU),h.mW.save gQ hs (fun _ j hj=>e (h.cb j hj).2 MW),
  fun g hg=>⟨(h.wb g hg).1,s (h.wb g hg).2 JL⟩,fun g hg=>⟨(h.pb g hg).1,s (h.pb g hg).2 PU⟩,fun g hg=>⟨(h.cb g hg).1,s (h.cb g hg).2 MW⟩,fun x hx=>(h.img x hx).save hs (fun j hj=>lX (h.img x hx) hk SG j hj)⟩
theorem vX (B:Nat) (w:World):cu B w ⟨none,[],0,none,[],0,none,[],0⟩:=
 ⟨Vec.nil_ _,Vec.nil_ _,Vec.nil_ _,fun g h=>by simp[blk] at h,fun g h=>by simp[blk] at h,fun g h=>by simp[blk] at h,fun x hx=>by simp at hx⟩
theorem FQ (w:World) {a:Option Addr} {l:List UInt8} {c:Nat} (h:Row w a l c):Calls Tryz.prog 59 #[.slice a l.length c] w fun e w'=>∃U:aN,e= .returned (.tuple #[.agg (cU U), .int .i64 (Hw l)])∧U.cfg=L8 l∧cu w.heap.size w' U∧Below w.heap.size w w':=by
 obtain⟨w0,hw0⟩:=AV (w.alloc (.cells #[.slice none 0 0, .slice none 0 0, .slice none 0 0] 26))
 obtain⟨R,hR⟩:=AV (w.heap.size)
 have B0:Below w.heap.size w w0:=by rw[hw0];exact(Below.refl _ w).alloc (Nat.le_refl _) _
 have hxR:w0.heap[R]? =some (.cells #[.slice none 0 0, .slice none 0 0, .slice none 0 0] 26 (0,0)):=by rw[hw0,hR];exact heap_alloc_new _ _
 have HN:=AQ (qc w0 (h.stay B0))
 have H0:=AQ (And.intro hxR B0)
 obtain⟨PE,hPE⟩:=AU (Hw l)
 obtain⟨PK,hPK⟩:=AU (L8 l)
 rw[←hPE.o,←hPK.o]
 have hl9:=h.bF
 clear h hxR B0
 go_enter Tryz.func59,Tryz.ntmps59
 go_upto_region 1 with fail
 rw[←hw0,←hR]
 have HRR:=AQ hR
 clear hw0 hR
 go_wp2_with fail
 refine(HN.o).mono ?_
 rintro e w1 ⟨rfl,hRd,hb1⟩
 obtain⟨b,hb⟩:=AV (w0.heap.size)
 obtain⟨T,hT⟩:=AV (w1.heap.size)
 obtain⟨w2,hw2⟩:=AV (w1.alloc (.cells #[.pointer (some ⟨b,0,none⟩)] 100))
 have hb2:Below w1.heap.size w1 w2:=by rw[hw2];exact(Below.refl _ _).alloc (Nat.le_refl _) _
 have hgv:dB w2 T b:=by rw[hw2,hT];exact heap_alloc_new _ _
 rw[←hb,←hT] at hRd
 have hRd2:=hRd.stay hb2
 have hRb:R<b:=by have:=(Array.getElem?_eq_some_iff.1 H0.o.1).1;omega
 have hwb:w.heap.size≤b:=by have:=HRR.o;omega
 have hTw:T≤w2.heap.size:=by rw[hT];exact hb2.size
 have hB2:Below w0.heap.size w0 w2:=hb1.trans (hb2.mono hb1.size)
 obtain⟨L1,hL1⟩:=AU ((Io l).1)
 obtain⟨s1,hs1⟩:=AU ((Io l).2)
 obtain⟨L3,hL3⟩:=AU ((Oe l).1)
 obtain⟨s2,hs2⟩:=AU ((Qo l).2)
 obtain⟨s3,hs3⟩:=AU ((Oe l).2)
 have HTB:Hid (T≠b):=hgv.ne hRd2
 have HBL:Hid (b<w2.heap.size):=hRd2.lt
 have hk:Calls Tryz.prog 133 _ w2 fun e w'=>∃a c,e= .returned (.slice a (Io l).1.length c)∧bG lQ 2 77 w2.heap.size w' a (Io l).1 c∧dS b T w' b (Io l).2∧Save (· ≠b) w2 w':=Et hRd2 hTw T hgv 12 AP
 rw[←hL1.o,←hs1.o] at hk
 have HK:=AQ hk
 have c0:=hgv.cell
 have H2:=AQ (And.intro hgv hB2)
 clear hRd hb1 hb2 hRd2 hgv hB2 HN hk
 go_upto_region 2 with fail
 rw[←hb,←hw2,←hT]
 have HBB:=AQ hb
 clear hb hw2 hT
 go_wp2_with fail
 refine(HK.o).mono ?_
 rintro e w3 ⟨aw,cw,rfl,hOw,hR3,hS3⟩
 have hTb:T≠b:=HTB.o
 have hg3:dB w3 T b:=H2.o.1.save hS3 hTb
 have hx3:w3.heap[R]? =some (.cells #[.slice none 0 0, .slice none 0 0, .slice none 0 0] 26 (0,0)):=(hS3.block R (by have:=(Array.getElem?_eq_some_iff.1 (aG H0.o.1 H2.o.2)).1;exact this) AL).trans (aG H0.o.1 H2.o.2)
 obtain⟨w4,hw4⟩:=AV (w3.alloc (.cells #[.slice aw L1.length cw, .slice none 0 0, .slice none 0 0] 26))
 obtain⟨C,hC⟩:=AV (w3.heap.size)
 have hb4:Below w3.heap.size w3 w4:=by rw[hw4];exact(Below.refl _ _).alloc (Nat.le_refl _) _
 have hxC:w4.heap[C]? =some (.cells #[.slice aw L1.length cw, .slice none 0 0, .slice none 0 0] 26 (0,0)):=by rw[hw4,hC];exact heap_alloc_new _ _
 have hR4:=hR3.stay hb4
 have hg4:dB w4 T b:=aG hg3 hb4
 have hCw:w2.heap.size≤C:=by rw[hC];exact hS3.size
 have hC4:C<w4.heap.size:=(Array.getElem?_eq_some_iff.1 hxC).1
 have hTC:T≤C:=Nat.le_trans hTw hCw
 have hRC:R≠C:=by have:=(Array.getElem?_eq_some_iff.1 hx3).1;omega
 have hbC:b≠C:=by have:=hR3.lt;omega
 have hTC':T≠C:=by have:=hg3.lt;omega
 obtain⟨N2,hN2⟩:=AV (w2.heap.size)
 have H4:=AQ (And.intro hg4 (And.intro hxC (And.intro (aG hx3 hb4) (And.intro (hOw.stay hb4) (hS3.trans (Save.of hb4))))))
 have hN4:T≤w4.heap.size:=Nat.le_trans hTw (Nat.le_trans hS3.size hb4.size)
 have hk:Calls Tryz.prog 135 _ w4 fun e w'=>∃a c,∃L:List cO,e= .returned (.slice a L.length c)∧L.map cO.pt=(iV jE 6 s1).1∧bG yT 5 46 w4.heap.size w' a L c∧(∀x∈L,Row w' x.a x.img x.c∧(x.img≠ []→∀g,blk x.a=some g→w4.heap.size≤g∧blk a≠some g))∧dS b T w' b (iV jE 6 s1).2∧Save (· ≠b) w4 w':=FI hR4 hN4 T hg4 6 AP
 have e2:iV jE 6 s1=Qo l:=by rw[hs1.o];rfl
 rw[e2,←hs2.o] at hk
 have HK:=AQ hk
 have c0:=hg4.cell
 clear hOw hR3 hS3 hg3 hx3 hb4 hxC hR4 hg4 hk e2
 go_upto_region 3 with fail
 rw[←hw4,←hC]
 have HCC:=AQ hC
 clear hw4 hC
 go_wp2_with fail
 refine(HK.o).mono ?_
 rintro e w5 ⟨ap,cp,L2,rfl,hL2,hOp,hIm,hR5,hS5⟩
 have hg5:dB w5 T b:=H4.o.1.save hS5 hTb
 have hx5:=(hS5.block R (Array.getElem?_eq_some_iff.1 H4.o.2.2.1).1 AL).trans H4.o.2.2.1
 have hc5:=(hS5.block C hC4 AL).trans H4.o.2.1
 have ow5:=H4.o.2.2.2.1.save hS5 (fun g hg=>by have:=(H4.o.2.2.2.1.aJ hg).1;have:=HBL.o;omega)
 have c1:=aA hc5 1 rfl
 have f1:=dM hc5 1
 obtain⟨w6,hw6⟩:=AV (w5.setCell ⟨C,1,none⟩ (.slice ap L2.length cp))
 have hs6:Save (· ≠C) w5 w6:=by rw[hw6];exact Save.set
 have hc6:w6.heap[C]? =some (.cells #[.slice aw L1.length cw, .slice ap L2.length cp, .slice none 0 0] 26 (0,0)):=by rw[hw6];exact dP _ hc5
 have hx6:=(hs6.block R (Array.getElem?_eq_some_iff.1 hx5).1 hRC).trans hx5
 have ow6:=ow5.save hs6 (fun g hg=>bU ow5 hc5 JL g hg)
 have op6:=hOp.save hs6 (fun g hg=>bU hOp hc5 PU g hg)
 have hR6:=hR5.newer hs6 hTC hbC
 have hg6:dB w6 T b:=hg5.newer hs6 hTC'
 have im6:Hid (∀x∈L2,Row w6 x.a x.img x.c∧(x.img≠ []→∀g,blk x.a=some g→w4.heap.size≤g)):=fun x hx=>⟨(hIm x hx).1.save' hs6 (fun h g hg=>by have:=((hIm x hx).2 h g hg).1;omega),fun h g hg=>((hIm x hx).2 h g hg).1⟩
 have H6:=AQ (And.intro hg6 (And.intro hc6 (And.intro hx6 (And.intro ow6 (And.intro op6 ((H4.o.2.2.2.2.trans hS5)))))))
 have H6S:=AQ hs6
 have hN6:T≤w6.heap.size:=Nat.le_trans hN4 (Nat.le_trans hS5.size hs6.size)
 have hk:Calls Tryz.prog 138 _ w6 fun e w'=>∃a c,e= .returned (.slice a (iV gK 8 s2).1.length c)∧bG yG 5 48 w6.heap.size w' a (iV gK 8 s2).1 c∧dS b T w' b (iV gK 8 s2).2∧Save (· ≠b) w6 w':=Fa hR6 hN6 T hg6 8 AP
 have e2:iV gK 8 s2=Oe l:=by rw[hs2.o];rfl
 rw[e2,←hL3.o,←hs3.o] at hk
 have HK:=AQ hk
 have HL2:=AQ hL2
 have HS56:Hid (w4.heap.size≤w5.heap.size):=hS5.size
 clear hL2 hOp hIm hR5 hS5 hg5 hx5 hc5 ow5 hs6 hc6 hx6 ow6 op6 hR6 hg6 hk e2 c0
 go_upto_region 4 with fail
 rw[←hw6]
 clear hw6 c1 f1
 have c0:=H6.o.1.cell
 go_wp2_with fail
 refine(HK.o).mono ?_
 rintro e w7 ⟨ac,cc,rfl,hOc,hR7,hS7⟩
 have hx7:=(hS7.block R (Array.getElem?_eq_some_iff.1 H6.o.2.2.1).1 AL).trans H6.o.2.2.1
 have hg7:dB w7 T b:=H6.o.1.save hS7 hTb
 have hc7:=(hS7.block C (Array.getElem?_eq_some_iff.1 H6.o.2.1).1 AL).trans H6.o.2.1
 have ow7:=H6.o.2.2.2.1.save hS7 (fun g hg=>by have:=(H6.o.2.2.2.1.aJ hg).1;have:=HBL.o;omega)
 have hbig:w2.heap.size≤w4.heap.size:=H4.o.2.2.2.2.size
 have op7:=H6.o.2.2.2.2.1.save hS7 (fun g hg=>by have:=(H6.o.2.2.2.2.1.aJ hg).1;have:=HBL.o;omega)
 have c2:=aA hc7 2 rfl
 have f2:=dM hc7 2
 obtain⟨w8,hw8⟩:=AV (w7.setCell ⟨C,2,none⟩ (.slice ac L3.length cc))
 have hs8:Save (· ≠C) w7 w8:=by rw[hw8];exact Save.set
 have hc8:w8.heap[C]? =some (.cells #[.slice aw L1.length cw, .slice ap L2.length cp, .slice ac L3.length cc] 26 (0,0)):=by rw[hw8];exact dP _ hc7
 have hx8:=(hs8.block R (Array.getElem?_eq_some_iff.1 hx7).1 hRC).trans hx7
 have ow8:=ow7.save hs8 (fun g hg=>bU ow7 hc7 JL g hg)
 have op8:=op7.save hs8 (fun g hg=>bU op7 hc7 PU g hg)
 have oc8:=hOc.save hs8 (fun g hg=>bU hOc hc7 MW g hg)
 have hR8:=hR7.newer hs8 hTC hbC
 have hg8:dB w8 T b:=hg7.newer hs8 hTC'
 have im8:∀x∈L2,Row w8 x.a x.img x.c:=fun x hx=>((im6.o x hx).1.save' hS7 (fun h g hg=>by have:=(im6.o x hx).2 h g hg;have:=HBL.o;omega)).save' hs8 (fun h g hg=>by have:=(im6.o x hx).2 h g hg;omega)
 obtain⟨V,hV⟩:∃V:aN,Hid (V=⟨aw,L1,cw,ap,L2,cp,ac,L3,cc⟩):=⟨_,rfl⟩
 have HVA:Hid (V.At w8):=by rw[hV.o];exact⟨ow8.vec eG,op8.vec dZ,oc8.vec gQ,im8⟩
 have HVC:Hid (V.cfg=LY l):=by rw[hV.o,Hid];unfold aN.cfg LY;rw[hL1.o,HL2.o,hL3.o]
 have HX8:=AQ (And.intro hx8 (And.intro hc8 hg8))
 have hB8:Below w.heap.size w w8:=by
  have h2:Below w.heap.size w w2:=H0.o.2.trans (H2.o.2.mono H0.o.2.size)
  have h4:Below w.heap.size w w4:=h2.trans (H4.o.2.2.2.2.below h2.size (fun k hk=>by omega))
  have h5:Below w.heap.size w w6:=h2.trans (H6.o.2.2.2.2.2.below h2.size (fun k hk=>by omega)) |>.trans (H6S.o.below (Nat.le_trans h4.size HS56.o) (fun k hk=>by have:=h2.size;omega))
  exact(h5.trans (hS7.below h5.size (fun k hk=>by omega))).trans (hs8.below (Nat.le_trans h5.size hS7.size) (fun k hk=>by have:=h2.size;omega))
 have HB8:=AQ hB8
 have HK:=AQ (xK hR8)
 have hk:=wC w8 V HVA.o
 rw[ku,HVC.o] at hk
 obtain⟨q,hq⟩:=AU (KX (LY l))
 obtain⟨f,hf⟩:=AU s3.fin
 rw[←hq.o,hV.o] at hk
 rw[←hf.o] at HK
 have HKC:=AQ hk
 have c0:=hg8.cell
 clear hx7 hg7 hc7 ow7 op7 hs8 hc8 hx8 ow8 op8 oc8 hR8 hg8 im8 hB8 hk hbig hOc hR7 hS7 H6
 go_upto_region 5 with fail
 rw[←hw8]
 clear hw8 c2 f2
 have HOK:Hid (JO l=(decide (f=0) && q)):=by rw[Hid,JO,hf.o,hq.o,hs3.o]
 obtain⟨d0,d1,d2⟩:gJ w8 C ⟨aw,L1,cw,ap,L2,cp,ac,L3,cc⟩:=NG HX8.o.2.1
 by_cases hf0:f=0
 ·subst hf0
  go_wp2_with fail
  refine(HK.o).mono ?_
  rintro e w9 ⟨rfl,rfl⟩
  go_wp2_with fail
  refine(HKC.o).mono ?_
  rintro e w10 ⟨rfl,hb10⟩
  have hx10:=aG HX8.o.1 hb10
  have hc10:=aG HX8.o.2.1 hb10
  have HX10:=AQ (And.intro hx10 hc10)
  have HB10:=AQ (HB8.o.trans (hb10.mono HB8.o.size))
  have HVA10:=AQ (HVA.o.stay hb10)
  clear hx10 hc10 hb10 d0 d1 d2 c0
  cases q with
  |
   true=>
   have e1:Hid (PE=0):=by rw[Hid,hPE.o,Hw,HOK.o];rfl
   have e2:Hid (PK=LY l):=by rw[Hid,hPK.o,L8,HOK.o];rfl
   obtain⟨d0,d1,d2⟩:gJ w10 C ⟨aw,L1,cw,ap,L2,cp,ac,L3,cc⟩:=NG HX10.o.2
   have hsm:bP V:=by
    have hcan:nP V=true:=by rw[ku,HVC.o];exact hq.o.symm
    have hsp:=qZ hcan
    refine⟨by omega,by omega,by omega,fun x hx=> ?_⟩
    have:=List.any_eq_false.1 hsp.2.2.2 x hx
    simp[jV] at this
    omega
   have hk:=xq w10 V HVA10.o hsm
   rw[hV.o] at hk
   have HCP:=AQ hk
   clear hk
   go_wp2_with fail
   refine(HCP.o).mono ?_
   rintro e w11 ⟨U,rfl,hU,hF,hb11⟩
   have HU:=AQ (And.intro hU (And.intro hF hb11))
   have HXR:=AQ (aG HX10.o.1 hb11)
   clear hU hF hb11 d0 d1 d2 HCP
   go_wp2_with ((with_reducible refine ay (o:=⟨none, .store _ (.tmp 2) _,_,_,_,_⟩) lM (.tmp 2) (.tmp 30) AA AA AA AA AA HXR.o AA AA AA ?_);intro w12 hg12 hs12)
   have hB11:=HB10.o.trans (HU.o.2.2.mono HB10.o.size)
   refine bodyPost_ret (mZ lM rfl (by rfl) hg12 rfl) rfl ⟨U, ?_, ?_,(HU.o.2.1.off hs12 HXR.o).low HB10.o.size,hB11.trans (hs12.below hB11.size (fun k hk=>by have:=HRR.o;omega))⟩
   ·rw[e1.o];rfl
   ·rw[HU.o.1,e2.o,←HVC.o,hV.o]
  |
   false=>
   have e1:Hid (PE=110):=by rw[Hid,hPE.o,Hw,HOK.o];rfl
   have e2:Hid (PK=⟨[],[],[]⟩):=by rw[Hid,hPK.o,L8,HOK.o];rfl
   go_wp2_with ((with_reducible refine ay (o:=⟨none, .store _ (.tmp 2) _,_,_,_,_⟩) lM (.tmp 2) (.tmp 28) AA AA AA AA AA HX10.o.1 AA AA AA ?_);intro w12 hg12 hs12)
   refine bodyPost_ret (mZ lM rfl (by rfl) hg12 rfl) rfl ⟨⟨none,[],0,none,[],0,none,[],0⟩, ?_, ?_,vX _ _,HB10.o.trans (hs12.below HB10.o.size (fun k hk=>by have:=HRR.o;omega))⟩
   ·rw[e1.o];rfl
   ·rw[e2.o];rfl
 ·have e1:Hid (PE=110):=by rw[Hid,hPE.o,Hw,HOK.o,decide_eq_false hf0];rfl
  have e2:Hid (PK=⟨[],[],[]⟩):=by rw[Hid,hPK.o,L8,HOK.o,decide_eq_false hf0];rfl
  have t1:((f:Int) !=0)=true:=by simpa using hf0
  clear hf0
  go_wp2_with fail
  refine(HK.o).mono ?_
  rintro e w9 ⟨rfl,rfl⟩
  go_wp2_with ((with_reducible refine ay (o:=⟨none, .store _ (.tmp 2) _,_,_,_,_⟩) lM (.tmp 2) (.tmp 28) AA AA AA AA AA HX8.o.1 AA AA AA ?_);intro w12 hg12 hs12)
  refine bodyPost_ret (mZ lM rfl (by rfl) hg12 rfl) rfl ⟨⟨none,[],0,none,[],0,none,[],0⟩, ?_, ?_,vX _ _,HB8.o.trans (hs12.below HB8.o.size (fun k hk=>by have:=HRR.o;omega))⟩
  ·rw[e1.o];rfl
  ·rw[e2.o];rfl
open Go Go.RowKit Go.Cit
def Ue (p:Pt):List UInt8:=int8 p.id.1++(int8 p.reg.base.1++(int8 p.reg.size.1++(iI p.keep++lu p.img)))
theorem PS (x:cO):iY x=Ue x.pt:=by simp[iY,Ue,cO.pt]
def Nu (K:zk):List UInt8:=((int8 K.wins.length++K.wins.flatMap iO)++(int8 K.parts.length++K.parts.flatMap Ue))++(int8 K.chans.length++K.chans.flatMap xG)
theorem FU {α β γ:Type} (f:α→β) (b:β→List γ) (c:α→List γ) (h:∀x,c x=b (f x)):∀l:List α,l.flatMap c=(l.map f).flatMap b
 | []=>rfl
 | x::r=>by rw[List.flatMap_cons,List.map_cons,List.flatMap_cons,h,FU f b c h r]
theorem Ky (V:aN):qE V=Nu V.cfg:=by
 unfold qE Nu aN.cfg
 simp only[List.length_map]
 rw[FU cO.pt Ue iY PS V.ps]
open Go Go.RowKit Go.Cit
theorem FP {w0 w:World} {a:Option Addr} {l:List nU} {c:Nat} (h:Vec lQ 2 w0 a l c) (hb:Below w0.heap.size w0 w) (k:Nat) (hk:k<l.length):(Instr.loadAt 77 (.pointer (some (ad a (k*2))))).run Tryz.prog w= .ok (.agg #[.int .i64 l[k].len.1, .int .i64 l[k].part.1]) w:=by
 obtain⟨u0,u1⟩:=jo h hb k hk
 have e:ad a (k*2)=⟨(ad a (k*2)).block,(ad a (k*2)).off,none⟩:=by cases a<;>rfl
 rw[e] at u0
 rw[e]
 refine run_loadAt_mid w _ _ 77 [.int .i64 l[k].len.1, .int .i64 l[k].part.1] _ (fun j v hv=> ?_) Tryz.underlying77 rfl AB
 match j,hv with
 | 0,hv=>injection hv with hv;rw[←hv];exact u0
 | 1,hv=>injection hv with hv;rw[←hv];exact u1
def UZ (aa bb:Option Addr) (l m:List nU) (c d k:Nat) (x y:nU) (e:Bool):Nat→Value
 | 16=>(.slice aa l.length c)
 | 17=>(.int .i64 (k:Int))
 | 18=>(.pointer (some (ad aa (k*2))))
 | 19=>(.agg #[.int .i64 x.len.1, .int .i64 x.part.1])
 | 20=>(.slice bb m.length d)
 | 21=>(.int .i64 (k:Int))
 | 22=>(.pointer (some (ad bb (k*2))))
 | 23=>(.agg #[.int .i64 y.len.1, .int .i64 y.part.1])
 | 24=>(.bool (!e))
 | _=>undef
def TL (aa bb:Option Addr) (l m:List nU) (c d k:Nat) (_ _:nU) (_:Bool):Nat→Value
 | 0=>(.slice aa l.length c)
 | 1=>(.slice bb m.length d)
 | 5=>(.int .i64 (k:Int))
 | _=>undef
theorem MP (w:World) (aa bb:Option Addr) (l m:List nU) (c d:Nat) (h:Vec lQ 2 w aa l c) (h':Vec lQ 2 w bb m d):Calls Tryz.prog 168 #[.slice aa l.length c, .slice bb m.length d] w fun e w'=>e= .returned (.bool (decide (l=m)))∧Below w.heap.size w w':=by
 obtain⟨R,HR⟩:=AU (decide (l=m))
 rw[←HR.o]
 have hl1:=h.bF
 have hl2:=h'.bF
 have HV:=AQ h
 have HU:=AQ h'
 clear h h'
 by_cases hg:¬(l.length=m.length)
 ·have HF:Hid (R=false):=by
   rw[Hid,HR.o,decide_eq_false_iff_not]
   intro hh;exact hg (by rw[hh])
  have t1:((l.length:Int) !=(m.length:Int))=true:=by simp;omega
  clear hg
  go_enter Tryz.func168,Tryz.ntmps168
  go_wp2_with fail
  go_ret
  exact⟨aC HF.o.symm,Below.refl _ _⟩
 have hg:=Classical.not_not.1 hg
 have t1:((l.length:Int) !=(m.length:Int))=false:=by rw[hg];simp
 have HG:=AQ hg
 clear hg
 go_enter Tryz.func168,Tryz.ntmps168
 go_wp2_with fail
 go_loopw [13] (fun s wr=>∃k:Nat,s= .int .i64 k∧k≤l.length∧Hid (l.take k=m.take k)∧Below w.heap.size w wr) (fun s _=>l.length-(intOf s).toNat)
 case atStart=>exact⟨0,rfl,Nat.zero_le _,rfl,Below.refl _ _⟩
 case round=>
  obtain⟨k,rfl,hk,HE,B⟩:=hrel
  have HB:=AQ B
  by_cases hlt:k<l.length
  ·have hlt':k<m.length:=by have:=HG.o;omega
   have i0:=HV.o.index JX k hlt
   have i1:=HU.o.index JX k hlt'
   obtain⟨x,hx⟩:∃x:nU,Hid (x=l[k]):=⟨l[k],rfl⟩
   obtain⟨y,hy⟩:∃y:nU,Hid (y=m[k]):=⟨m[k],rfl⟩
   have l1:∀q:After wr,(Instr.loadAt 77 (.pointer (some (ad aa (k*2))))).run Tryz.prog q.to= .ok (.agg #[.int .i64 x.len.1, .int .i64 x.part.1]) q.to:=fun q=>by rw[hx.o];exact FP HV.o (B.trans (q.bel.mono B.size)) k hlt
   have l2:∀q:After wr,(Instr.loadAt 77 (.pointer (some (ad bb (k*2))))).run Tryz.prog q.to= .ok (.agg #[.int .i64 y.len.1, .int .i64 y.part.1]) q.to:=fun q=>by rw[hy.o];exact FP HU.o (B.trans (q.bel.mono B.size)) k hlt'
   obtain⟨e,he⟩:∃e,Hid (decide (x=y)=e):=⟨_,rfl⟩
   have hneq:Hid (∀w:World,(do eqGuard .neq 77 (.tmp 19) (.tmp 23) (.agg #[.int .i64 x.len.1, .int .i64 x.part.1]) (.agg #[.int .i64 y.len.1, .int .i64 y.part.1]);binOp .neq 77 (.agg #[.int .i64 x.len.1, .int .i64 x.part.1]) (.agg #[.int .i64 y.len.1, .int .i64 y.part.1]):Sem Value).run Tryz.prog w= .ok (.bool (!e)) w):=fun w=>by
    have h1:=zJ Vw (.tmp 19) (.tmp 23) (NH x.len.1 x.part.1 y.len.1 y.part.1) w
    rw[h1,←he.o]
    simp only[o7]
   clear B
   go_upto_region 6 with fail
   refine jd (UZ aa bb l m c d k x y e) (TL aa bb l m c d k x y e) [0,1,5] AB AB AB ⟨rfl,rfl,rfl,trivial⟩ ?_ ?_
   ·repeat' (first |exact aO |refine aI ?_ ?_)
    all_goals intro a hk
    ·
     exact .inl ⟨ah rfl,aZ (.tmp 0) rfl (hk.o 0)⟩
    ·
     exact .inl ⟨ah rfl,aZ (.tmp 5) rfl (hk.o 5)⟩
    ·
     exact .inl ⟨ah rfl,yw (.tmp 16) (.tmp 17) rfl (hk.s 16) (hk.s 17) (v:=(.pointer (some (ad aa (k*2))))) (fun w=>i0 w) rfl⟩
    ·
     exact .inl ⟨ah rfl,aX (.tmp 18) rfl (hk.s 18) (v:=(.agg #[.int .i64 x.len.1, .int .i64 x.part.1])) (fun q=>l1 q) rfl⟩
    ·
     exact .inl ⟨ah rfl,aZ (.tmp 1) rfl (hk.o 1)⟩
    ·
     exact .inl ⟨ah rfl,aZ (.tmp 5) rfl (hk.o 5)⟩
    ·
     exact .inl ⟨ah rfl,yw (.tmp 20) (.tmp 21) rfl (hk.s 20) (hk.s 21) (v:=(.pointer (some (ad bb (k*2))))) (fun w=>i1 w) rfl⟩
    ·
     exact .inl ⟨ah rfl,aX (.tmp 22) rfl (hk.s 22) (v:=(.agg #[.int .i64 y.len.1, .int .i64 y.part.1])) (fun q=>l2 q) rfl⟩
    ·
     exact .inl ⟨ah rfl,iq rfl (hk.s 19) (hk.s 23) (v:=(.bool (!e))) (fun w=>hneq.o w) rfl⟩
   intro a ⟨w3,hb3⟩ hsame hall
   have he:=bK hsame [16,17,18,19,20,21,22,23,24] AB
   simp only[List.foldl_cons,List.foldl_nil] at he
   rw[show a.eval (.tmp 24)=(.bool (!e)) from hall 24 AB] at he
   generalize a.eval (.tmp 16)=x16 at he
   generalize a.eval (.tmp 17)=x17 at he
   generalize a.eval (.tmp 18)=x18 at he
   generalize a.eval (.tmp 19)=x19 at he
   generalize a.eval (.tmp 20)=x20 at he
   generalize a.eval (.tmp 21)=x21 at he
   generalize a.eval (.tmp 22)=x22 at he
   generalize a.eval (.tmp 23)=x23 at he
   simp only[dQ] at he
   dsimp only[List.set_cons_zero,List.set_cons_succ] at he
   subst he
   clear hsame hall
   have HB3:=AQ (HB.o.trans (hb3.mono HB.o.size))
   clear l1 l2 i0 i1
   cases e with
   |
    true=>
    have HE2:Hid (l.take (k+1)=m.take (k+1)):=mP l m k hlt hlt' HE.o (by rw[←hx.o,←hy.o];exact of_decide_eq_true he.o)
    go_wp2_with fail
    go_roundw
    case rel=>exact⟨k+1,by go_num,by omega,HE2.o,HB3.o⟩
    case measure=>simp[intOf];omega
   |
    false=>
    have HF:Hid (R=false):=by
     rw[Hid,HR.o,decide_eq_false_iff_not]
     intro hh
     refine of_decide_eq_false he.o ?_
     rw[hx.o,hy.o]
     exact List.getElem_of_eq hh hlt
    go_wp2_with fail
    go_ret
    exact⟨aC HF.o.symm,HB3.o⟩
  ·have hk2:k=l.length:=by omega
   have HF:Hid (R=true):=by
    have h1:=HE.o
    rw[hk2,List.take_length,HG.o,List.take_length] at h1
    rw[Hid,HR.o,decide_eq_true_iff];exact h1
   clear B
   subst hk2
   go_wp2_with fail
   go_ret
   exact⟨aC HF.o.symm,HB.o⟩
def UD (aa bb:Option Addr) (l m:List Ch) (c d k:Nat) (x y:Ch) (e:Bool):Nat→Value
 | 16=>(.slice aa l.length c)
 | 17=>(.int .i64 (k:Int))
 | 18=>(.pointer (some (ad aa (k*5))))
 | 19=>(.agg #[.int .i64 x.id.1, .int .i64 x.src.1, .int .i64 x.dst.1, .int .i64 x.cap.1, .int .i64 x.size.1])
 | 20=>(.slice bb m.length d)
 | 21=>(.int .i64 (k:Int))
 | 22=>(.pointer (some (ad bb (k*5))))
 | 23=>(.agg #[.int .i64 y.id.1, .int .i64 y.src.1, .int .i64 y.dst.1, .int .i64 y.cap.1, .int .i64 y.size.1])
 | 24=>(.bool (!e))
 | _=>undef
def SS (aa bb:Option Addr) (l m:List Ch) (c d k:Nat) (_ _:Ch) (_:Bool):Nat→Value
 | 0=>(.slice aa l.length c)
 | 1=>(.slice bb m.length d)
 | 5=>(.int .i64 (k:Int))
 | _=>undef
theorem Ko (w:World) (aa bb:Option Addr) (l m:List Ch) (c d:Nat) (h:Vec yG 5 w aa l c) (h':Vec yG 5 w bb m d):Calls Tryz.prog 169 #[.slice aa l.length c, .slice bb m.length d] w fun e w'=>e= .returned (.bool (decide (l=m)))∧Below w.heap.size w w':=by
 obtain⟨R,HR⟩:=AU (decide (l=m))
 rw[←HR.o]
 have hl1:=h.bF
 have hl2:=h'.bF
 have HV:=AQ h
 have HU:=AQ h'
 clear h h'
 by_cases hg:¬(l.length=m.length)
 ·have HF:Hid (R=false):=by
   rw[Hid,HR.o,decide_eq_false_iff_not]
   intro hh;exact hg (by rw[hh])
  have t1:((l.length:Int) !=(m.length:Int))=true:=by simp;omega
  clear hg
  go_enter Tryz.func169,Tryz.ntmps169
  go_wp2_with fail
  go_ret
  exact⟨aC HF.o.symm,Below.refl _ _⟩
 have hg:=Classical.not_not.1 hg
 have t1:((l.length:Int) !=(m.length:Int))=false:=by rw[hg];simp
 have HG:=AQ hg
 clear hg
 go_enter Tryz.func169,Tryz.ntmps169
 go_wp2_with fail
 go_loopw [13] (fun s wr=>∃k:Nat,s= .int .i64 k∧k≤l.length∧Hid (l.take k=m.take k)∧Below w.heap.size w wr) (fun s _=>l.length-(intOf s).toNat)
 case atStart=>exact⟨0,rfl,Nat.zero_le _,rfl,Below.refl _ _⟩
 case round=>
  obtain⟨k,rfl,hk,HE,B⟩:=hrel
  have HB:=AQ B
  by_cases hlt:k<l.length
  ·have hlt':k<m.length:=by have:=HG.o;omega
   have i0:=HV.o.index JC k hlt
   have i1:=HU.o.index JC k hlt'
   obtain⟨x,hx⟩:∃x:Ch,Hid (x=l[k]):=⟨l[k],rfl⟩
   obtain⟨y,hy⟩:∃y:Ch,Hid (y=m[k]):=⟨m[k],rfl⟩
   have l1:∀q:After wr,(Instr.loadAt 48 (.pointer (some (ad aa (k*5))))).run Tryz.prog q.to= .ok (.agg #[.int .i64 x.id.1, .int .i64 x.src.1, .int .i64 x.dst.1, .int .i64 x.cap.1, .int .i64 x.size.1]) q.to:=fun q=>by rw[hx.o];exact Jq HV.o (B.trans (q.bel.mono B.size)) k hlt
   have l2:∀q:After wr,(Instr.loadAt 48 (.pointer (some (ad bb (k*5))))).run Tryz.prog q.to= .ok (.agg #[.int .i64 y.id.1, .int .i64 y.src.1, .int .i64 y.dst.1, .int .i64 y.cap.1, .int .i64 y.size.1]) q.to:=fun q=>by rw[hy.o];exact Jq HU.o (B.trans (q.bel.mono B.size)) k hlt'
   obtain⟨e,he⟩:∃e,Hid (decide (x=y)=e):=⟨_,rfl⟩
   have hneq:Hid (∀w:World,(do eqGuard .neq 48 (.tmp 19) (.tmp 23) (.agg #[.int .i64 x.id.1, .int .i64 x.src.1, .int .i64 x.dst.1, .int .i64 x.cap.1, .int .i64 x.size.1]) (.agg #[.int .i64 y.id.1, .int .i64 y.src.1, .int .i64 y.dst.1, .int .i64 y.cap.1, .int .i64 y.size.1]);binOp .neq 48 (.agg #[.int .i64 x.id.1, .int .i64 x.src.1, .int .i64 x.dst.1, .int .i64 x.cap.1, .int .i64 x.size.1]) (.agg #[.int .i64 y.id.1, .int .i64 y.src.1, .int .i64 y.dst.1, .int .i64 y.cap.1, .int .i64 y.size.1]):Sem Value).run Tryz.prog w= .ok (.bool (!e)) w):=fun w=>by
    have h1:=zJ Vq (.tmp 19) (.tmp 23) (PX x.id.1 x.src.1 x.dst.1 x.cap.1 x.size.1 y.id.1 y.src.1 y.dst.1 y.cap.1 y.size.1) w
    rw[h1,←he.o]
    simp only[kM]
   clear B
   go_upto_region 6 with fail
   refine jd (UD aa bb l m c d k x y e) (SS aa bb l m c d k x y e) [0,1,5] AB AB AB ⟨rfl,rfl,rfl,trivial⟩ ?_ ?_
   ·repeat' (first |exact aO |refine aI ?_ ?_)
    all_goals intro a hk
    ·
     exact .inl ⟨ah rfl,aZ (.tmp 0) rfl (hk.o 0)⟩
    ·
     exact .inl ⟨ah rfl,aZ (.tmp 5) rfl (hk.o 5)⟩
    ·
     exact .inl ⟨ah rfl,yw (.tmp 16) (.tmp 17) rfl (hk.s 16) (hk.s 17) (v:=(.pointer (some (ad aa (k*5))))) (fun w=>i0 w) rfl⟩
    ·
     exact .inl ⟨ah rfl,aX (.tmp 18) rfl (hk.s 18) (v:=(.agg #[.int .i64 x.id.1, .int .i64 x.src.1, .int .i64 x.dst.1, .int .i64 x.cap.1, .int .i64 x.size.1])) (fun q=>l1 q) rfl⟩
    ·
     exact .inl ⟨ah rfl,aZ (.tmp 1) rfl (hk.o 1)⟩
    ·
     exact .inl ⟨ah rfl,aZ (.tmp 5) rfl (hk.o 5)⟩
    ·
     exact .inl ⟨ah rfl,yw (.tmp 20) (.tmp 21) rfl (hk.s 20) (hk.s 21) (v:=(.pointer (some (ad bb (k*5))))) (fun w=>i1 w) rfl⟩
    ·
     exact .inl ⟨ah rfl,aX (.tmp 22) rfl (hk.s 22) (v:=(.agg #[.int .i64 y.id.1, .int .i64 y.src.1, .int .i64 y.dst.1, .int .i64 y.cap.1, .int .i64 y.size.1])) (fun q=>l2 q) rfl⟩
    ·
     exact .inl ⟨ah rfl,iq rfl (hk.s 19) (hk.s 23) (v:=(.bool (!e))) (fun w=>hneq.o w) rfl⟩
   intro a ⟨w3,hb3⟩ hsame hall
   have he:=bK hsame [16,17,18,19,20,21,22,23,24] AB
   simp only[List.foldl_cons,List.foldl_nil] at he
   rw[show a.eval (.tmp 24)=(.bool (!e)) from hall 24 AB] at he
   generalize a.eval (.tmp 16)=x16 at he
   generalize a.eval (.tmp 17)=x17 at he
   generalize a.eval (.tmp 18)=x18 at he
   generalize a.eval (.tmp 19)=x19 at he
   generalize a.eval (.tmp 20)=x20 at he
   generalize a.eval (.tmp 21)=x21 at he
   generalize a.eval (.tmp 22)=x22 at he
   generalize a.eval (.tmp 23)=x23 at he
   simp only[dQ] at he
   dsimp only[List.set_cons_zero,List.set_cons_succ] at he
   subst he
   clear hsame hall
   have HB3:=AQ (HB.o.trans (hb3.mono HB.o.size))
   clear l1 l2 i0 i1
   cases e with
   |
    true=>
    have HE2:Hid (l.take (k+1)=m.take (k+1)):=mP l m k hlt hlt' HE.o (by rw[←hx.o,←hy.o];exact of_decide_eq_true he.o)
    go_wp2_with fail
    go_roundw
    case rel=>exact⟨k+1,by go_num,by omega,HE2.o,HB3.o⟩
    case measure=>simp[intOf];omega
   |
    false=>
    have HF:Hid (R=false):=by
     rw[Hid,HR.o,decide_eq_false_iff_not]
     intro hh
     refine of_decide_eq_false he.o ?_
     rw[hx.o,hy.o]
     exact List.getElem_of_eq hh hlt
    go_wp2_with fail
    go_ret
    exact⟨aC HF.o.symm,HB3.o⟩
  ·have hk2:k=l.length:=by omega
   have HF:Hid (R=true):=by
    have h1:=HE.o
    rw[hk2,List.take_length,HG.o,List.take_length] at h1
    rw[Hid,HR.o,decide_eq_true_iff];exact h1
   clear B
   subst hk2
   go_wp2_with fail
   go_ret
   exact⟨aC HF.o.symm,HB.o⟩
theorem FW (w:World) (x y:cO) (hx:Row w x.a x.img x.c) (hy:Row w y.a y.img y.c):Calls Tryz.prog 167 #[.agg #[.int .i64 x.id.1, .int .i64 x.reg.base.1, .int .i64 x.reg.size.1, .bool x.keep, .slice x.a x.img.length x.c], .agg #[.int .i64 y.id.1, .int .i64 y.reg.base.1, .int .i64 y.reg.size.1, .bool y.keep, .slice y.a y.img.length y.c]] w fun e w'=>e= .returned (.bool (decide (x.pt=y.pt)))∧Below w.heap.size w w':=by
 obtain⟨R,HR⟩:=AU (decide (x.pt=y.pt))
 have HI:=AQ (BJ x y)
 rw[←HR.o]
 have B1:∀C D,Below w.heap.size w ((w.alloc (.cells C 46)).alloc (.cells D 46)):=fun C D=>((Below.refl _ w).alloc (Nat.le_refl _) _).alloc AO _
 have HB1:=AQ B1
 obtain⟨S,hS⟩:∃S:ByteArray,Hid (S=⟨x.img.toArray⟩):=⟨_,rfl⟩
 obtain⟨T,hT⟩:∃T:ByteArray,Hid (T=⟨y.img.toArray⟩):=⟨_,rfl⟩
 have HST:Hid (S.toList=T.toList↔x.img=y.img):=by
  rw[Hid,hS.o,hT.o,ByteArray.toList_eq,ByteArray.toList_eq]
 have HK:Hid (∀ {wx:World},Below w.heap.size w wx→Calls Tryz.prog 103 #[.slice x.a x.img.length x.c, .slice y.a y.img.length y.c] wx fun e w'=>e= .returned (.bool (S.toList==T.toList))∧w'=wx):=fun {wx} hb=>by
  rw[hS.o,hT.o]
  exact Tryz.bytes_Equal_strs _ _ _ _ wx (yu (hx.stay hb)) (yu (hy.stay hb))
 have hq:=jh U6 (.tmp 12) (.tmp 14) (Fq x.reg.base.1 x.reg.size.1 y.reg.base.1 y.reg.size.1)
 clear hx hy B1
 go_enter Tryz.func167,Tryz.ntmps167
 go_wp2_with fail
 all_goals first
  | (
   go_ret
   refine⟨aC ?_,HB1.o _ _⟩
   rw[HR.o]
   have hi:=HI.o
   have hst:=HST.o
   first
    | (refine(decide_eq_false ?_).symm;intro hh;have:=hi.1 hh;simp_all;done)
    | (rw[Bool.eq_iff_iff,decide_eq_true_iff,hi];simp_all;done))
  | (
   refine(HK.o (HB1.o _ _)).mono ?_
   rintro e w2 ⟨rfl,rfl⟩
   go_wp2_with fail
   go_ret
   refine⟨aC ?_,HB1.o _ _⟩
   rw[HR.o]
   have hi:=HI.o
   have hst:=HST.o
   first
    | (refine(decide_eq_false ?_).symm;intro hh;have:=hi.1 hh;simp_all;done)
    | (rw[Bool.eq_iff_iff,decide_eq_true_iff,hi];simp_all;done))
theorem MH (w:World) (a b:Option Addr) (l m:List cO) (c d:Nat) (h:Vec yT 5 w a l c) (h':Vec yT 5 w b m d) (hi:∀x∈l,Row w x.a x.img x.c) (hi':∀x∈m,Row w x.a x.img x.c):Calls Tryz.prog 166 #[.slice a l.length c, .slice b m.length d, .func (.func 167) #[] #[]] w fun e w'=>e= .returned (.bool (decide (l.map cO.pt=m.map cO.pt)))∧Below w.heap.size w w':=by
 obtain⟨R,HR⟩:=AU (decide (l.map cO.pt=m.map cO.pt))
 rw[←HR.o]
 have hl1:=h.bF
 have hl2:=h'.bF
 have HV:=AQ (And.intro h hi)
 have HU:=AQ (And.intro h' hi')
 clear h h' hi hi'
 by_cases hg:¬(l.length=m.length)
 ·have HF:Hid (R=false):=by
   rw[Hid,HR.o,decide_eq_false_iff_not]
   intro hh;have:=congrArg List.length hh;rw[List.length_map,List.length_map] at this;exact hg this
  have t1:((l.length:Int) !=(m.length:Int))=true:=by simp;omega
  clear hg
  go_enter Tryz.func166,Tryz.ntmps166
  go_wp2_with fail
  go_ret
  exact⟨aC HF.o.symm,Below.refl _ _⟩
 have hg:=Classical.not_not.1 hg
 have t1:((l.length:Int) !=(m.length:Int))=false:=by rw[hg];simp
 have HG:=AQ hg
 clear hg
 go_enter Tryz.func166,Tryz.ntmps166
 go_wp2_with fail
 go_loopw [17] (fun s wr=>∃k:Nat,s= .int .i64 k∧k≤l.length∧Hid ((l.map cO.pt).take k=(m.map cO.pt).take k)∧Below w.heap.size w wr) (fun s _=>l.length-(intOf s).toNat)
 case atStart=>exact⟨0,rfl,Nat.zero_le _,rfl,Below.refl _ _⟩
 case round=>
  obtain⟨k,rfl,hk,HE,B⟩:=hrel
  have HB:=AQ B
  by_cases hlt:k<l.length
  ·have hlt':k<m.length:=by have:=HG.o;omega
   have i0:=HV.o.1.index Cm k hlt
   have i1:=HU.o.1.index Cm k hlt'
   obtain⟨u0,u1,u2,u3,u4⟩:=bQ HV.o.1 B k hlt
   have HRX:=AQ (HV.o.2 l[k] (List.getElem_mem hlt))
   have HRY:=AQ (HU.o.2 m[k] (List.getElem_mem hlt'))
   obtain⟨x,hx⟩:∃x:cO,Hid (x=l[k]):=⟨l[k],rfl⟩
   obtain⟨y,hy⟩:∃y:cO,Hid (y=m[k]):=⟨m[k],rfl⟩
   rw[←hx.o] at u0 u1 u2 u3 u4 HRX
   obtain⟨wb,hwb⟩:=AV (wr.alloc (.cells #[.int .i64 x.id.1, .int .i64 x.reg.base.1, .int .i64 x.reg.size.1, .bool x.keep, .slice x.a x.img.length x.c] 46))
   have hbb:Below wr.heap.size wr wb:=by rw[hwb];exact(Below.refl _ _).alloc (Nat.le_refl _) _
   have hB1:=B.trans (hbb.mono B.size)
   obtain⟨v0,v1,v2,v3,v4⟩:=bQ HU.o.1 hB1 k hlt'
   rw[←hy.o] at v0 v1 v2 v3 v4 HRY
   obtain⟨wc,hwc⟩:=AV (wb.alloc (.cells #[.int .i64 y.id.1, .int .i64 y.reg.base.1, .int .i64 y.reg.size.1, .bool y.keep, .slice y.a y.img.length y.c] 46))
   have hbc:Below wb.heap.size wb wc:=by rw[hwc];exact(Below.refl _ _).alloc (Nat.le_refl _) _
   have hB2:=hB1.trans (hbc.mono hB1.size)
   have HB2:=AQ hB2
   have hk1:=FW wc x y (HRX.o.stay hB2) (HRY.o.stay hB2)
   obtain⟨e,he⟩:=AU (decide (x.pt=y.pt))
   rw[←he.o] at hk1
   have HK:=AQ hk1
   rw[hwb] at v0 v1 v2 v3 v4
   clear B hbb hB1 hbc hB2 hk1
   go_wp2_with fail
   rw[←hwb,←hwc]
   clear hwb hwc
   refine(HK.o).mono ?_
   rintro e1 w5 ⟨rfl,hb5⟩
   have HB3:=AQ (HB2.o.trans (hb5.mono HB2.o.size))
   clear hb5 u0 u1 u2 u3 u4 v0 v1 v2 v3 v4 i0 i1 HK
   cases e with
   |
    true=>
    have HE2:Hid ((l.map cO.pt).take (k+1)=(m.map cO.pt).take (k+1)):=mP _ _ k (by rw[List.length_map];exact hlt) (by rw[List.length_map];exact hlt') HE.o (by rw[List.getElem_map,List.getElem_map,←hx.o,←hy.o];exact of_decide_eq_true he.o.symm)
    go_wp2_with fail
    go_roundw
    case rel=>exact⟨k+1,by go_num,by omega,HE2.o,HB3.o⟩
    case measure=>simp[intOf];omega
   |
    false=>
    have HF:Hid (R=false):=by
     rw[Hid,HR.o,decide_eq_false_iff_not]
     intro hh
     refine of_decide_eq_false he.o.symm ?_
     have:=List.getElem_of_eq hh (i:=k) (by rw[List.length_map];exact hlt)
     rw[List.getElem_map,List.getElem_map] at this
     rw[hx.o,hy.o];exact this
    go_wp2_with fail
    go_ret
    exact⟨aC HF.o.symm,HB3.o⟩
  ·have hk2:k=l.length:=by omega
   have HF:Hid (R=true):=by
    have h1:=HE.o
    rw[hk2,List.take_of_length_le (by rw[List.length_map];exact Nat.le_refl _),List.take_of_length_le (by rw[List.length_map,HG.o];exact Nat.le_refl _)] at h1
    rw[Hid,HR.o,decide_eq_true_iff];exact h1
   clear B
   subst hk2
   go_wp2_with fail
   go_ret
   exact⟨aC HF.o.symm,HB.o⟩
theorem Fb (w:World) (V U:aN) (h:V.At w) (h':U.At w):Calls Tryz.prog 82 #[.agg #[.slice V.wa V.ws.length V.wc, .slice V.pa V.ps.length V.pc, .slice V.ca V.cs.length V.cc], .agg #[.slice U.wa U.ws.length U.wc, .slice U.pa U.ps.length U.pc, .slice U.ca U.cs.length U.cc]] w fun e w'=>e= .returned (.bool (decide (V.cfg=U.cfg)))∧Below w.heap.size w w':=by
 obtain⟨w0,hw0⟩:=AV ((w.alloc (.cells #[.slice V.wa V.ws.length V.wc, .slice V.pa V.ps.length V.pc, .slice V.ca V.cs.length V.cc] 26)).alloc (.cells #[.slice U.wa U.ws.length U.wc, .slice U.pa U.ps.length U.pc, .slice U.ca U.cs.length U.cc] 26))
 have B0:Below w.heap.size w w0:=by rw[hw0];exact((Below.refl _ w).alloc (Nat.le_refl _) _).alloc AO _
 have hI:=Qg w V U
 rw[←hw0] at hI
 have HI:=AQ hI
 have HV:=AQ (And.intro (h.stay B0) (h'.stay B0))
 have HB0:=AQ B0
 obtain⟨R,HR⟩:=AU (decide (V.cfg=U.cfg))
 rw[←HR.o]
 obtain⟨e1,he1⟩:=AU (decide (V.ps.map cO.pt=U.ps.map cO.pt))
 obtain⟨e2,he2⟩:=AU (decide (V.ws=U.ws))
 obtain⟨e3,he3⟩:=AU (decide (V.cs=U.cs))
 have HRE:Hid (R=((e1 && e2) && e3)):=by
  rw[Hid,HR.o,he1.o,he2.o,he3.o,Bool.eq_iff_iff]
  simp only[Bool.and_eq_true,decide_eq_true_eq,fG]
  exact⟨fun h=>⟨⟨h.2.1,h.1⟩,h.2.2⟩,fun h=>⟨h.1.2,h.1.1,h.2⟩⟩
 have hk:=MH w0 V.pa U.pa V.ps U.ps V.pc U.pc HV.o.1.pts HV.o.2.pts HV.o.1.img HV.o.2.img
 rw[←he1.o] at hk
 have HK:=AQ hk
 obtain⟨⟨c0,c1,c2⟩,⟨d0,d1,d2⟩⟩:=hI
 clear h h' B0 hk
 go_enter Tryz.func82,Tryz.ntmps82
 go_wp2_with fail
 rw[←hw0]
 clear hw0
 refine(HK.o).mono ?_
 rintro e w1 ⟨rfl,hb1⟩
 have HB1:=AQ hb1
 clear c0 c1 c2 d0 d1 d2 HK hb1
 cases e1 with
 |
  false=>
  go_wp2_with fail
  go_ret
  exact⟨aC (by rw[HRE.o];rfl),HB0.o.trans (HB1.o.mono HB0.o.size)⟩
 |
  true=>
  obtain⟨c0,c1,c2⟩:=HI.o.1.keep HB1.o
  obtain⟨d0,d1,d2⟩:=HI.o.2.keep HB1.o
  have hk:=MP w1 V.wa U.wa V.ws U.ws V.wc U.wc (HV.o.1.stay HB1.o).win (HV.o.2.stay HB1.o).win
  rw[←he2.o] at hk
  have HK:=AQ hk
  clear hk
  go_wp2_with fail
  refine(HK.o).mono ?_
  rintro e w2 ⟨rfl,hb2⟩
  have HB2:=AQ (HB1.o.trans (hb2.mono HB1.o.size))
  clear c0 c1 c2 d0 d1 d2 HK hb2
  cases e2 with
  |
   false=>
   go_wp2_with fail
   go_ret
   exact⟨aC (by rw[HRE.o];rfl),HB0.o.trans (HB2.o.mono HB0.o.size)⟩
  |
   true=>
   obtain⟨c0,c1,c2⟩:=HI.o.1.keep HB2.o
   obtain⟨d0,d1,d2⟩:=HI.o.2.keep HB2.o
   have hk:=Ko w2 V.ca U.ca V.cs U.cs V.cc U.cc (HV.o.1.stay HB2.o).mW (HV.o.2.stay HB2.o).mW
   rw[←he3.o] at hk
   have HK:=AQ hk
   clear hk
   go_wp2_with fail
   refine(HK.o).mono ?_
   rintro e w3 ⟨rfl,hb3⟩
   have HB3:=AQ (HB2.o.trans (hb3.mono HB2.o.size))
   clear c0 c1 c2 d0 d1 d2 HK hb3
   go_wp2_with fail
   go_ret
   exact⟨aC (by rw[HRE.o];rfl),HB0.o.trans (HB3.o.mono HB0.o.size)⟩
open Go Go.RowKit Go.Cit
def tR (L:List UInt8) (v:Value) (w:World):Prop:=∃a c,v= .slice a L.length c∧Row w a L c
theorem PV {L:List UInt8} {v:Value} {w1 w2:World} (hb:Below w1.heap.size w1 w2) (h:tR L v w1):tR L v w2:=by
 obtain⟨a,c,e,hr⟩:=h
 exact⟨a,c,e,hr.stay hb⟩
theorem MR {w:World} {d:uK.D} (h:uK.ok w d):∀x∈(EN d).ps,x.img.length≤140737488351232:=by
 obtain⟨_,h2,_,_⟩:=h
 intro x hx
 obtain⟨y,hy,rfl⟩:=List.mem_map.1 hx
 obtain⟨i,hi,rfl⟩:=List.mem_iff_getElem.1 hy
 have h3:=(h2.2.2.2.2 i hi).2
 generalize d.2.1.l[i]=z at h3
 obtain⟨x1,⟨x2,x3,⟨⟩⟩,x4,⟨a,c,l⟩,⟨⟩⟩:=z
 obtain⟨_,_,_,h5,_⟩:=h3
 exact Nat.le_trans h5.1.le h5.2
end Go.Proofs.YtlholdllibghbaaGreat
