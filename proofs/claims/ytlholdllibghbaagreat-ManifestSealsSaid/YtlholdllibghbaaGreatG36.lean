/- Texts of the proof, one behind the other: ManRefH, ManRefI, ManRefJ, Kept. No condition but those that each names. -/
import Derived.Test.YtlholdllibghbaaGreatG35
import Derived.Test.YtlholdllibghbaaGreatG31
import Derived.Test.YtlholdllibghbaaGreatG15
import Derived.Test.YtlholdllibghbaaGreatG13
import Derived.Test.YtlholdllibghbaaGreatG16
import Derived.Test.YtlholdllibghbaaGreatG10
import Derived.Deep.CutBlock
import Derived.Deep.DeepCutAuto
import Derived.Test.YtlholdllibghbaaGreatKit
set_option maxRecDepth 100000
set_option maxHeartbeats 8000000
namespace Go.Proofs.YtlholdllibghbaaGreat
open Go Go.RowKit Go.Cit
theorem Bf (w:World) (M:aW) (h:M.At w) (hcan:jO M=true):Calls Tryz.prog 54 #[.agg (cM M)] w fun e w'=>∃a X c,Hid (X=headB M)∧e= .returned (.slice a X.length c)∧Cit.Own 5 w.heap.size w' a X c∧Below w.heap.size w w':=by
 obtain⟨C,hC⟩:=AU (cM M)
 obtain⟨w0,hw0⟩:=AV (w.alloc (.cells C 55))
 have B0:Below w.heap.size w w0:=by rw[hw0];exact(Below.refl _ w).alloc (Nat.le_refl _) _
 have hI:dR w0 w.heap.size M:=by rw[hw0,hC.o];exact dR.new w h
 have HI0:=AQ hI
 have HB0:=AQ B0
 have HM:=AQ (h.stay B0)
 have HP:=AQ (oG h.p32 (jQ hcan))
 have HCN:=AQ (jQ hcan)
 obtain⟨w1,hw1⟩:=AV (w0.alloc (.cells #[] 5))
 obtain⟨z,hz⟩:=AV (w0.heap.size)
 have B1:Below w0.heap.size w0 w1:=by rw[hw1];exact(Below.refl _ w0).alloc (Nat.le_refl _) _
 have HO0:Hid (Cit.Own 5 w0.heap.size w1 (some ⟨z,0,none⟩) [] 0):=by rw[Hid,hw1,hz];exact nV w0 #[] 5 [] rfl AP
 have HB1:=AQ B1
 have c0:=(hI.keep B1).ver
 rw[hw1] at c0
 have HK:=AQ (dW w1 M.ver.1)
 have f0:=RN w.heap.size
 have f1:=mf1 w.heap.size
 have f2:=mf2 w.heap.size
 have f3:=Po w.heap.size
 rw[←hC.o]
 clear hI h B0 B1 hcan
 go_enter Tryz.func54,Tryz.ntmps54
 go_upto_region 1 with fail
 rw[←hw0]
 clear hw0
 go_wp2_with fail
 rw[←hw1,←hz]
 clear hw1 hz
 refine(HK.o).mono ?_
 rintro e w2 ⟨aY,Y,cY,HY,rfl,hY,hYn,hb⟩
 have HYO:=AQ hY.isRow
 have HYN:=AQ hYn
 have HYL:Hid (Y.length≤8):=by rw[Hid,HY.o];exact Nat.le_of_eq (aB _ _)
 have HO0b:=AQ (HO0.o.stay hb)
 have HB2:=AQ (HB1.o.trans (hb.mono HB1.o.size))
 clear hY hYn hb HK c0 HO0 HB1
 go_upto_region 2 with ((with_reducible refine bY (o:=⟨some 8, .call _,_,_,_,_⟩) bt (.tmp 4) (.tmp 7) AA AA HO0b.o HYO.o HYN.o (by have:=HYL.o;rw[List.length_nil];omega) HB2.o.size AA AA ?_);intro a3 c3 w3 hO3 hg3 hn3;obtain⟨X3,hX3⟩:∃Z,Hid (Z=([]:List UInt8)++Y):=⟨_,rfl⟩;rw[←hX3.o] at hO3 ⊢;have HO3:=AQ hO3;have HG3:=AQ hg3;clear hO3 hg3 hn3)
 have HB3:=AQ (HB2.o.trans (grown_below HG3.o HB2.o.size (fun k hk=>(HO0b.o.aJ hk).1)))
 have HX3:Hid (X3=int8 M.ver.1):=by rw[Hid,hX3.o,HY.o];rfl
 have HI3:=AQ (HI0.o.keep HB3.o)
 have HL3:Hid (X3.length=8):=by rw[Hid,HX3.o,eF]
 clear HY HYO HYN HYL HO0b HB2 HG3 hX3
 obtain⟨T,hT⟩:=AU ((M.prev.map vb).toArray)
 have hl:=HI3.o.prev
 rw[←hT.o] at hl
 have HLD:=AQ hl
 have hk:=Dw w3 M.prev HI0.o.p32
 rw[←hT.o] at hk
 have HK:=AQ hk
 clear hl hk
 go_wp2_with ((with_reducible refine aK (o:=⟨some 11, .load 53 (.tmp 10),_,_,_,_⟩) AA AA AA HLD.o ?_))
 refine(HK.o).mono ?_
 rintro e w4 ⟨aY,Y,cY,HY,rfl,hY,hYn,hb⟩
 have HYO:=AQ hY.isRow
 have HYN:=AQ hYn
 have HYL:Hid (Y.length≤32):=by rw[Hid,HY.o];exact Nat.le_of_eq HI0.o.p32
 have HO3b:=AQ (HO3.o.stay hb)
 have HB4:=AQ (HB3.o.trans (hb.mono HB3.o.size))
 clear hY hYn hb HK HLD HO3 HB3 HI3
 go_upto_region 3 with ((with_reducible refine bY (o:=⟨some 13, .call _,_,_,_,_⟩) bt (.tmp 9) (.tmp 12) AA AA HO3b.o HYO.o HYN.o (by have:=HYL.o;have:=HL3.o;omega) HB4.o.size AA AA ?_);intro a5 c5 w5 hO5 hg5 hn5;obtain⟨X5,hX5⟩:∃Z,Hid (Z=X3++Y):=⟨_,rfl⟩;rw[←hX5.o] at hO5 ⊢;have HO5:=AQ hO5;have HG5:=AQ hg5;clear hO5 hg5 hn5)
 have HB5:=AQ (HB4.o.trans (grown_below HG5.o HB4.o.size (fun k hk=>(HO3b.o.aJ hk).1)))
 have HX5:Hid (X5=int8 M.ver.1++M.prev):=by rw[Hid,hX5.o,HX3.o,HY.o]
 have HI5:=AQ (HI0.o.keep HB5.o)
 have HL5:Hid (X5.length=40):=by rw[Hid,HX5.o,List.length_append,eF,HI0.o.p32]
 clear HY HYO HYN HYL HO3b HB4 HG5 hX5 HX3 HL3
 have c2:=HI5.o.trial
 have HK:=AQ (dW w5 M.trial.1)
 go_wp2_with fail
 refine(HK.o).mono ?_
 rintro e w6 ⟨aY,Y,cY,HY,rfl,hY,hYn,hb⟩
 have HYO:=AQ hY.isRow
 have HYN:=AQ hYn
 have HYL:Hid (Y.length≤8):=by rw[Hid,HY.o];exact Nat.le_of_eq (aB _ _)
 have HO5b:=AQ (HO5.o.stay hb)
 have HB6:=AQ (HB5.o.trans (hb.mono HB5.o.size))
 clear hY hYn hb HK c2 HO5 HB5 HI5
 go_upto_region 4 with ((with_reducible refine bY (o:=⟨some 18, .call _,_,_,_,_⟩) bt (.tmp 14) (.tmp 17) AA AA HO5b.o HYO.o HYN.o (by have:=HYL.o;have:=HL5.o;omega) HB6.o.size AA AA ?_);intro a7 c7 w7 hO7 hg7 hn7;obtain⟨X7,hX7⟩:∃Z,Hid (Z=X5++Y):=⟨_,rfl⟩;rw[←hX7.o] at hO7 ⊢;have HO7:=AQ hO7;have HG7:=AQ hg7;clear hO7 hg7 hn7)
 have HB7:=AQ (HB6.o.trans (grown_below HG7.o HB6.o.size (fun k hk=>(HO5b.o.aJ hk).1)))
 have HX7:Hid (X7=int8 M.ver.1++M.prev++int8 M.trial.1):=by rw[Hid,hX7.o,HX5.o,HY.o];rfl
 have HI7:=AQ (HI0.o.keep HB7.o)
 have HL7:Hid (X7.length=48):=by rw[Hid,HX7.o,List.length_append,List.length_append,eF,eF,HI0.o.p32]
 clear HY HYO HYN HYL HO5b HB6 HG7 hX7 HX5 HL5
 have d0:=HI7.o.d0
 have d1:=HI7.o.d1
 have d2:=HI7.o.d2
 obtain⟨F,hF⟩:=AU (jB M.cfg)
 have HFF:Hid (F=qE M.cfg):=by rw[Hid,hF.o];unfold jB;rw[if_pos HCN.o]
 have hk:=Bo w7 M.cfg (HM.o.stay HB7.o).cfg HCN.o
 rw[←HFF.o] at hk
 have HK:=AQ hk
 clear hk
 go_wp2_with fail
 refine(HK.o).mono ?_
 rintro e w8 ⟨aF,cF,rfl,hOF,hb8⟩
 have HFL:Hid (F.length≤3782):=by rw[Hid,hF.o];exact HP.o.2
 have hk:=qX w8 hOF.isRow (by have:=HFL.o;omega)
 have HK2:=AQ hk
 have HO7b:=AQ (HO7.o.stay hb8)
 have HB8:=AQ (HB7.o.trans (hb8.mono HB7.o.size))
 clear hk hOF hb8 HK d0 d1 d2 HO7 HB7 HI7
 go_wp2_with fail
 refine(HK2.o).mono ?_
 rintro e w9 ⟨aY,Y,cY,HY,rfl,hY,hYn,hb⟩
 have HYO:=AQ hY.isRow
 have HYN:=AQ hYn
 have HYL:Hid (Y.length≤4000):=by rw[Hid,HY.o];have:=HFL.o;have:=bD F;omega
 have HO9:=AQ (HO7b.o.stay hb)
 have HB9:=AQ (HB8.o.trans (hb.mono HB8.o.size))
 clear hY hYn hb HK2 HO7b HB8
 go_wp2_with ((with_reducible refine bY (o:=⟨some 24, .call _,_,_,_,_⟩) bt (.tmp 19) (.tmp 23) AA AA HO9.o HYO.o HYN.o (by have:=HYL.o;have:=HL7.o;omega) HB9.o.size AA AA ?_);intro aa ca wA hOa hga hna;obtain⟨Xa,hXa⟩:∃Z,Hid (Z=X7++Y):=⟨_,rfl⟩;rw[←hXa.o] at hOa ⊢;have HOa:=AQ hOa;have HGa:=AQ hga;clear hOa hga hna)
 have HBA:=AQ (HB9.o.trans (grown_below HGa.o HB9.o.size (fun k hk=>(HO9.o.aJ hk).1)))
 go_ret
 refine⟨aa,Xa,ca, ?_,rfl,HOa.o.low HB0.o.size,HB0.o.trans (HBA.o.mono HB0.o.size)⟩
 rw[Hid,hXa.o,HX7.o,HY.o,headB,EZ,←hF.o]
 simp[lu]
open Go Go.RowKit Go.Cit
def Ub (g:Nat) (C T:Array Value) (a:Option Addr) (n c:Nat) (K L:List UInt8):Nat→Value→World→Prop
 | 7=>fun v _=>v=(.slice a n c)
 | 8=>tR (K)
 | 9=>fun v _=>v=(.agg C)
 | 10=>tR (L)
 | 11=>fun v _=>v=(.agg T)
 | 12=>fun v _=>v=(.pointer (some ⟨g,37,none⟩))
 | _=>fun _ _=>True
theorem OB (g:Nat) (C T:Array Value) (a:Option Addr) (n c:Nat) (K L:List UInt8):∀d v w1 w2,Below w1.heap.size w1 w2→Ub g C T a n c K L d v w1→Ub g C T a n c K L d v w2:=by
 intro d v w1 w2 hb h
 unfold Ub at h ⊢
 split at h<;>first |exact h |exact PV hb h |trivial
def ng (key:List UInt8) (M:aW):aW:= {M with tag:=if jO M then nR key M else M.tag}
theorem CV (key:List UInt8) (M:aW):(ng key M).man=jY key M.man:=by
 unfold ng jY aW.man
 rw[jg,rM];rfl
theorem nI {w:World} {key:List UInt8} {M:aW} (h:M.At w):(ng key M).At w:=⟨h.p32,by unfold ng;dsimp only;split;exact kJ _ _;exact h.t32,h.cfg⟩
theorem qU (w:World) (a:Option Addr) (key:List UInt8) (c:Nat) (hk:Row w a key c) (hkl:key.length≤100000) (M:aW) (h:M.At w):Calls Tryz.prog 25 #[.slice a key.length c, .agg (cM M)] w fun e w'=>e= .returned (.agg (cM (ng key M)))∧Below w.heap.size w w':=by
 have HAM:=AQ (fun ρ d ty ps af w=>eP ρ d ty ps (af:=af) w)
 obtain⟨Z,hZ⟩:=AU (cM zM)
 rw[←hZ.o] at HAM
 have HZS:Hid (Z.size=69):=by rw[Hid,hZ.o];rfl
 obtain⟨C,hC⟩:=AU (cM M)
 obtain⟨w0,hw0⟩:=AV ((w.alloc (.cells C 55)).alloc (.cells Z 55))
 have B1:Below (w.alloc (.cells C 55)).heap.size (w.alloc (.cells C 55)) w0:=by rw[hw0];exact(Below.refl _ _).alloc (Nat.le_refl _) _
 have B0:Below w.heap.size w w0:=((Below.refl _ w).alloc (Nat.le_refl _) _).trans (B1.mono AO)
 have hI:dR w0 w.heap.size M:=by rw[hC.o] at B1;exact(dR.new w h).keep B1
 obtain⟨g,hg⟩:=AV (w.heap.size+1)
 have hgb:w0.heap[g]? =some (.cells Z 55 (0,0)):=by
  rw[hw0,hg];have:=heap_alloc_new (w.alloc (.cells C 55)) (.cells Z 55);simpa using this
 have HGW:Hid (g=w.heap.size+1):=hg
 have HG:=AQ hgb
 have HI0:=AQ hI
 have HB0:=AQ B0
 have HK:=AQ hk
 have HMV:=AQ (h.stay B0)
 have hw:=hI.whole
 rw[←hC.o] at hw
 have HL:=AQ hw
 obtain⟨k,hkk⟩:=AU (jO M)
 have hcn:=sV w0 M (h.stay B0)
 rw[←hkk.o,←hC.o] at hcn
 have HCN:=AQ hcn
 obtain⟨S,hS⟩:=AU (ng key M)
 have f4:=UG w.heap.size
 obtain⟨n,hn⟩:=AU key.length
 rw[←hC.o,←hn.o,←hS.o]
 clear hgb hI h B0 B1 hk hw hcn
 go_enter Tryz.func25,Tryz.ntmps25
 go_upto_region 1 with ((with_reducible refine aj (o:=⟨some 4, .alloc _,_,_,_,_⟩) AA (HAM.o _ _ _ _ _ _) ?_))
 rw[←hw0,show(w.alloc (.cells C 55)).heap.size=g by rw[hg];simp]
 clear hw0 hg
 go_wp2_with ((with_reducible refine aK (o:=⟨some 5, .load 55 (.tmp 3),_,_,_,_⟩) AA AA AA HL.o ?_))
 refine(HCN.o).mono ?_
 rintro e w3 ⟨rfl,hb3⟩
 have HI3:=AQ (HI0.o.keep hb3)
 have HG3:=AQ (aG HG.o hb3)
 have HB3:=AQ (HB0.o.trans (hb3.mono HB0.o.size))
 have HM3:=AQ (HMV.o.stay hb3)
 have HC2:Hid (C.size=69∧C.all (·.oneCell')=true):=by rw[hC.o];exact⟨HI3.o.size,fJ _⟩
 clear hb3 HL HCN HG HI0 HMV
 cases k with
 |
  false=>
  have hw:=HI3.o.whole
  rw[←hC.o] at hw
  have HL3:=AQ hw
  have HSC:Hid (cM S=C):=by rw[Hid,hS.o,hC.o,ng,←hkk.o];rfl
  clear hw
  go_wp2_with (first |(with_reducible refine aK (o:=⟨some 13, .load 55 (.tmp 3),_,_,_,_⟩) AA AA AA HL3.o ?_) |((with_reducible refine ay (o:=⟨none, .store _ (.tmp 4) (.tmp 13),_,_,_,_⟩) iE (.tmp 4) (.tmp 13) AA AA AA AA AA HG3.o HZS.o HC2.o.1 HC2.o.2 ?_);intro w4 hbw4 hSw4;have HBw4:=AQ hbw4;have HSw4:=AQ hSw4;clear hbw4 hSw4))
  refine bodyPost_ret (gV iE rfl rfl HBw4.o HC2.o.1) rfl ⟨by rw[HSC.o], ?_⟩
  exact HB3.o.trans (HSw4.o.below HB3.o.size (fun k hk=>by have:=HGW.o;omega))
 |
  true=>
  have HCT:Hid (jO M=true):=hkk.o.symm
  obtain⟨R,hR⟩:=AU (nR key M)
  have HR32:Hid (R.length=32):=by rw[Hid,hR.o];exact kJ _ _
  obtain⟨T,hT⟩:=AU ((R.map vb).toArray)
  have HTC:Hid (T.size=32∧T.all (·.oneCell')=true):=by rw[hT.o];exact dG R HR32.o
  obtain⟨K,hK⟩:=AU (rD key yQ [])
  obtain⟨L,hL⟩:=AU (headB M)
  have HDV:Hid (∀q:After w3,Calls Tryz.prog 72 #[.slice a n c,Value.string {data:= #[109,97,110,105,102,101,115,116]},Value.slice none 0 0] q.to fun e w'=>∃a' c',e= .returned (.slice a' K.length c')∧Row w' a' K c'∧Below q.to.heap.size q.to w'):=fun q=>by
   have:=xP q.to a key c (HK.o.stay (HB3.o.trans (q.bel.mono HB3.o.size))) AL yQ AP none [] 0 (Fe q.to) AP
   rw[hn.o,hK.o,kY]
   exact this
  have HH:Hid (∀q:After w3,Calls Tryz.prog 54 #[.agg C] q.to fun e w'=>∃a c,e= .returned (.slice a L.length c)∧Row w' a L c∧Below q.to.heap.size q.to w'):=fun q=>by
   rw[hC.o]
   refine(Bf q.to M (HM3.o.stay q.bel) HCT.o).mono ?_
   rintro e w' ⟨a,X,c,hX,he,ho,hb⟩
   obtain rfl:X=L:=hX.o.trans hL.o.symm
   exact⟨a,c,he,ho.isRow,hb⟩
  have HSM:Hid (∀(q:After w3) b1 k1 b2 k2,Row q.to b1 K k1→Row q.to b2 L k2→Calls Tryz.prog 71 #[.slice b1 K.length k1, .slice b2 L.length k2] q.to fun e w'=>e= .returned (.agg T)∧Below q.to.heap.size q.to w'):=fun q b1 k1 b2 k2 r1 r2=>by
   have h1:K.length≤1000000:=by rw[hK.o,kY];decide
   have h2:L.length≤1000000:=by rw[hL.o];have:=oG HM3.o.p32 (jQ HCT.o);omega
   have:=sQ q.to b1 K k1 r1 h1 b2 L k2 r2 h2
   rw[hT.o,hR.o,nR,←hK.o,←hL.o]
   exact this
  have C5:∀q:After w3,(Instr.loadAt 55 (.pointer (some ⟨w.heap.size,0,none⟩))).run Tryz.prog q.to= .ok (.agg C) q.to:=fun q=>by rw[hC.o];exact(HI3.o.keep q.bel).whole
  go_upto_region 2 with fail
  refine qC 6 (Ub w.heap.size C T a n c K L) AB AB AB AB (OB w.heap.size C T a n c K L) ?_ ?_
  ·simp only[List.take_succ_cons,List.take_zero]
   repeat' (first |exact aO |refine aI ?_ ?_)
   all_goals intro av wx hk
   ·exact .inl ⟨ah rfl,dJ (.tmp 0) rfl ⟨Below.refl _ _,(hk.o 0).trans rfl⟩⟩
   ·exact .inl ⟨ah rfl,aT rfl (hk.fn _) #[.slice a n c,Value.string {data:= #[109,97,110,105,102,101,115,116]},Value.slice none 0 0] (fun w=>AB) (by simp only[List.map_toArray,List.map_cons,List.map_nil,show ∀v,av.eval (.const v)=v from hk.lit,(show av.eval (.tmp 7)=(.slice a n c) from hk.s 7)]) ((HDV.o ⟨wx,hk.below⟩).mono fun e w' ⟨b,c,he,hv,hb⟩=>⟨_,he,hb,b,c,rfl,hv⟩)⟩
   ·exact .inl ⟨ah rfl,aS (.tmp 3) rfl (show av.eval (.tmp 3)=(.pointer (some ⟨w.heap.size,0,none⟩)) from((hk.o 3).trans rfl)) (C5 ⟨wx,hk.below⟩) ⟨Below.refl _ _,rfl⟩⟩
   ·exact .inl ⟨ah rfl,aT rfl (hk.fn _) #[.agg C] (fun w=>AB) (by simp only[List.map_toArray,List.map_cons,List.map_nil,(show av.eval (.tmp 9)=(.agg C) from hk.s 9)]) ((HH.o ⟨wx,hk.below⟩).mono fun e w' ⟨b,c,he,hv,hb⟩=>⟨_,he,hb,b,c,rfl,hv⟩)⟩
   ·obtain⟨b1_,k1_,e1_,q1_⟩:=hk.s 8
    obtain⟨b2_,k2_,e2_,q2_⟩:=hk.s 10
    exact .inl ⟨ah rfl,aT rfl (hk.fn _) #[.slice b1_ (K).length k1_, .slice b2_ (L).length k2_] (fun w=>AB) (by simp only[List.map_toArray,List.map_cons,List.map_nil,show av.eval (.tmp 8)=_ from e1_,show av.eval (.tmp 10)=_ from e2_]) ((HSM.o ⟨wx,hk.below⟩ b1_ k1_ b2_ k2_ q1_ q2_).mono fun e w' ⟨he,hb⟩=>⟨_,he,hb,rfl⟩)⟩
   ·exact .inl ⟨ah rfl,bJ (.tmp 3) rfl (show av.eval (.tmp 3)=(.pointer (some ⟨w.heap.size,0,none⟩)) from((hk.o 3).trans rfl)) (v:= .pointer (some ⟨w.heap.size,37,none⟩)) (fun w=>AB) ⟨Below.refl _ _,rfl⟩⟩
  intro av wz hbz hsame hall
  have he:=bK hsame [7,8,9,10,11,12] AB
  simp only[List.foldl_cons,List.foldl_nil] at he
  rw[show av.eval (.tmp 11)=(.agg T) from hall 11 AB,show av.eval (.tmp 12)=(.pointer (some ⟨w.heap.size,37,none⟩)) from hall 12 AB] at he
  generalize av.eval (.tmp 7)=y7 at he
  generalize av.eval (.tmp 8)=y8 at he
  generalize av.eval (.tmp 9)=y9 at he
  generalize av.eval (.tmp 10)=y10 at he
  simp only[dQ] at he
  dsimp only[List.set_cons_zero,List.set_cons_succ] at he
  subst he
  clear hsame hall
  simp only[List.drop_succ_cons,List.drop_zero]
  have HIz:=AQ (HI3.o.keep hbz)
  have HGz:=AQ (aG HG3.o hbz)
  have HBz:=AQ (HB3.o.trans (hbz.mono HB3.o.size))
  clear hbz HDV HH HSM C5 HI3 HG3 HB3 HM3
  go_upto_region 3 with ((with_reducible refine eU (o:=⟨none, .store _ (.tmp 12) (.tmp 11),_,_,_,_⟩) (C:=cM M) fV.info (.tmp 12) (.tmp 11) AA AA AA AA AA HTC.o.1 HIz.o.blk (by rw[HIz.o.size];decide) HTC.o.2 ?_);intro w5 hbw5 hSw5;have HBw5:=AQ hbw5;have HSw5:=AQ hSw5;clear hbw5 hSw5)
  have HI5:Hid (dR w5 w.heap.size S):=by
   rw[Hid,hS.o,ng,←hkk.o]
   refine⟨HBw5.o.trans ?_,HIz.o.p32,by show(nR key M).length=32;exact kJ _ _⟩
   rw[hT.o,hR.o,show nM (cM M) 37 _=cM {M with tag:=nR key M} from En HIz.o.p32 HIz.o.t32 (kJ _ _)];rfl
  have hg9:g<wz.heap.size:=(Array.getElem?_eq_some_iff.1 HGz.o).1
  have HG5:Hid (w5.heap[g]? =some (.cells Z 55 (0,0))):=(HSw5.o.block g hg9 (by have:=HGW.o;omega)).trans HGz.o
  have HB5:Hid (Below w.heap.size w w5):=HBz.o.trans (HSw5.o.below HBz.o.size (fun k hk=>by omega))
  obtain⟨C3,hC3⟩:=AU (cM S)
  have hw:=HI5.o.whole
  rw[←hC3.o] at hw
  have HL5:=AQ hw
  have HC3:Hid (C3.size=69∧C3.all (·.oneCell')=true):=by rw[hC3.o];exact⟨HI5.o.size,fJ _⟩
  clear hw hg9 HIz HGz HBz
  go_wp2_with (first |(with_reducible refine aK (o:=⟨some 13, .load 55 (.tmp 3),_,_,_,_⟩) AA AA AA HL5.o ?_) |((with_reducible refine ay (o:=⟨none, .store _ (.tmp 4) (.tmp 13),_,_,_,_⟩) iE (.tmp 4) (.tmp 13) AA AA AA AA AA HG5.o HZS.o HC3.o.1 HC3.o.2 ?_);intro w6 hbw6 hSw6;have HBw6:=AQ hbw6;have HSw6:=AQ hSw6;clear hbw6 hSw6))
  refine bodyPost_ret (gV iE rfl rfl HBw6.o HC3.o.1) rfl ⟨by rw[hC3.o], ?_⟩
  exact HB5.o.trans (HSw6.o.below HB5.o.size (fun k hk=>by have:=HGW.o;omega))
open Go Go.RowKit Go.Cit
def Vo (B p:Nat) (C T1 T2:Array Value) (k s:Bool):Nat→Value
 | 9=>(.agg C)
 | 10=>(.bool k)
 | 11=>(.bool k)
 | 12=>(bif k then (.pointer (some ⟨p,37,none⟩)) else undef)
 | 13=>(bif k then (.agg T1) else undef)
 | 14=>(bif k then (.pointer (some ⟨B,37,none⟩)) else undef)
 | 15=>(bif k then (.agg T2) else undef)
 | 16=>(bif k then (.bool s) else undef)
 | 17=>(.bool (k && s))
 | 4=>(.bool (k && s))
 | _=>undef
def Ut (B p:Nat) (_ _ _:Array Value) (_ _:Bool):Nat→Value
 | 3=>(.pointer (some ⟨B,0,none⟩))
 | 5=>(.pointer (some ⟨p,0,none⟩))
 | _=>undef
theorem pX (w:World) (ak:Option Addr) (key:List UInt8) (c:Nat) (hk:Row w ak key c) (hkl:key.length≤100000) (M:aW) (h:M.At w):Calls Tryz.prog 30 #[.slice ak key.length c, .agg (cM M)] w fun e w'=>e= .returned (.bool (nH key M.man))∧Below w.heap.size w w':=by
 have HAM:=AQ (fun ρ d ty ps af w=>eP ρ d ty ps (af:=af) w)
 obtain⟨Z,hZ⟩:=AU (cM zM)
 rw[←hZ.o] at HAM
 have HZS:Hid (Z.size=69):=by rw[Hid,hZ.o];rfl
 obtain⟨C,hC⟩:=AU (cM M)
 obtain⟨w0,hw0⟩:=AV (w.alloc (.cells C 55))
 have B0:Below w.heap.size w w0:=by rw[hw0];exact(Below.refl _ w).alloc (Nat.le_refl _) _
 have hI:dR w0 w.heap.size M:=by rw[hw0,hC.o];exact dR.new w h
 have HI0:=AQ hI
 have HB0:=AQ B0
 have HM:=AQ (h.stay B0)
 obtain⟨k,hkk⟩:=AU (jO M)
 obtain⟨R,hR⟩:=AU (nH key M.man)
 obtain⟨S,hS⟩:=AU (ng key M)
 obtain⟨s,hss⟩:=AU (decide (S.tag=M.tag))
 have HR:Hid (R=(k && s)):=by
  rw[Hid,hR.o,nH,←jg,←rM,hkk.o,hss.o,hS.o,ng]
  cases jO M<;>rfl
 obtain⟨n,hn⟩:=AU key.length
 have hks:=qU w0 ak key c (hk.stay B0) hkl M (h.stay B0)
 obtain⟨CS,hCS⟩:=AU (cM S)
 rw[←hC.o,←hn.o,←hS.o,←hCS.o] at hks
 have HKS:=AQ hks
 have HAS:Hid (S.At w0):=by rw[hS.o];exact nI (h.stay B0)
 have HCS:Hid (CS.size=69∧CS.all (·.oneCell')=true):=by rw[hCS.o];exact⟨fO HAS.o.p32 HAS.o.t32,fJ _⟩
 have hw:=hI.whole
 rw[←hC.o] at hw
 have HL:=AQ hw
 rw[←hC.o,←hR.o,←hn.o]
 clear hI h B0 hk hks hw
 go_enter Tryz.func30,Tryz.ntmps30
 go_upto_region 1 with fail
 rw[←hw0]
 clear hw0
 go_upto_region 1 with fail
 go_wp2_with ((with_reducible refine aK (o:=⟨some 7, .load 55 (.tmp 3),_,_,_,_⟩) AA AA AA HL.o ?_))
 refine(HKS.o).mono ?_
 rintro e w1 ⟨rfl,hb1⟩
 have HB1:=AQ (HB0.o.trans (hb1.mono HB0.o.size))
 have HI1:=AQ (HI0.o.keep hb1)
 have HM1:=AQ (HM.o.stay hb1)
 have HAS1:=AQ (HAS.o.stay hb1)
 obtain⟨p,hp⟩:=AV (w1.heap.size)
 have HNW:=AQ (heap_alloc_new w1 (.cells Z 55))
 clear hb1 HL HKS HI0 HM HAS HB0
 go_upto_region 2 with (first |((with_reducible refine aj (o:=⟨some 5, .alloc _,_,_,_,_⟩) AA (HAM.o _ _ _ _ _ _) ?_)) |((with_reducible refine ay (o:=⟨none, .store _ (.tmp 5) (.tmp 8),_,_,_,_⟩) iE (.tmp 5) (.tmp 8) AA AA AA AA AA HNW.o HZS.o HCS.o.1 HCS.o.2 ?_);intro w3 hbw3 hSw3;have HBw3:=AQ hbw3;have HSw3:=AQ hSw3;clear hbw3 hSw3))
 have HS3:Hid (Below w1.heap.size w1 w3):=by
  have h1:Below w1.heap.size w1 (w1.alloc (.cells Z 55)):=(Below.refl _ _).alloc (Nat.le_refl _) _
  exact h1.trans (HSw3.o.below AO (fun k hk=>by omega))
 have HI3:=AQ (HI1.o.keep HS3.o)
 have HP3:Hid (dR w3 p S):=by rw[Hid,hp];exact⟨by rw[←hCS.o];exact HBw3.o,HAS1.o.p32,HAS1.o.t32⟩
 have HM3:=AQ (HM1.o.stay HS3.o)
 have HB3:=AQ (HB1.o.trans (HS3.o.mono HB1.o.size))
 rw[←hp]
 clear HBw3 HSw3 HNW HS3 HI1 HM1 HAS1 HB1 hp
 obtain⟨T1,hT1⟩:=AU ((S.tag.map vb).toArray)
 obtain⟨T2,hT2⟩:=AU ((M.tag.map vb).toArray)
 have C1:∀q:After w3,(Instr.loadAt 53 (.pointer (some ⟨w.heap.size,37,none⟩))).run Tryz.prog q.to= .ok (.agg T2) q.to:=fun q=>by rw[hT2.o];exact(HI3.o.keep q.bel).tag
 have C2:∀q:After w3,(Instr.loadAt 53 (.pointer (some ⟨p,37,none⟩))).run Tryz.prog q.to= .ok (.agg T1) q.to:=fun q=>by rw[hT1.o];exact(HP3.o.keep q.bel).tag
 have C5:∀q:After w3,(Instr.loadAt 55 (.pointer (some ⟨w.heap.size,0,none⟩))).run Tryz.prog q.to= .ok (.agg C) q.to:=fun q=>by rw[hC.o];exact(HI3.o.keep q.bel).whole
 have HC:Hid (∀q:After w3,Calls Tryz.prog 16 #[.agg C] q.to fun e w'=>e= .returned (.bool k)∧Below q.to.heap.size q.to w'):=fun q=>by rw[hC.o,hkk.o];exact sV q.to M (HM3.o.stay q.bel)
 have HX:Hid (∀w:World,(do eqGuard .eql 53 (.tmp 13) (.tmp 15) (.agg T1) (.agg T2);binOp .eql 53 (.agg T1) (.agg T2):Sem Value).run Tryz.prog w= .ok (.bool s) w):=fun w=>by
  rw[hT1.o,hT2.o,hss.o];exact jh xY.guard _ _ (jy xY _ _ HP3.o.t32 HI3.o.t32) w
 refine dY (Vo w.heap.size p C T1 T2 k s) (Ut w.heap.size p C T1 T2 k s) [3,5] AB ⟨rfl,rfl,trivial⟩ ?_ ?_
 ·repeat' (first |exact aO |refine aI ?_ ?_)
  all_goals intro a hk
  ·
   exact .inl ⟨ah rfl,aX (.tmp 3) rfl (hk.o 3) (v:=(.agg C)) (fun q=>C5 q) rfl⟩
  ·
   exact .inl ⟨ah rfl,gu rfl rfl #[(.agg C)] (fun w=>AB) (by simp only[List.map_toArray,List.map_cons,List.map_nil,(show a.eval (.tmp 9)=(.agg C) from hk.s 9)]) (v:=(.bool k)) (fun q=>HC.o q) rfl⟩
  ·
   exact .inl ⟨ah rfl,aZ (.tmp 10) rfl (hk.s 10)⟩
  ·
   cases k<;>first |exact hk.no 11 true |skip
   exact .inl ⟨hk.yes 11 true,bM (.tmp 5) rfl (hk.o 5) (v:=(.pointer (some ⟨p,37,none⟩))) (fun w=>AB) rfl⟩
  ·
   cases k<;>first |exact hk.no 11 true |skip
   exact .inl ⟨hk.yes 11 true,aX (.tmp 12) rfl (hk.s 12) (v:=(.agg T1)) (fun q=>C2 q) rfl⟩
  ·
   cases k<;>first |exact hk.no 11 true |skip
   exact .inl ⟨hk.yes 11 true,bM (.tmp 3) rfl (hk.o 3) (v:=(.pointer (some ⟨w.heap.size,37,none⟩))) (fun w=>AB) rfl⟩
  ·
   cases k<;>first |exact hk.no 11 true |skip
   exact .inl ⟨hk.yes 11 true,aX (.tmp 14) rfl (hk.s 14) (v:=(.agg T2)) (fun q=>C1 q) rfl⟩
  ·
   cases k<;>first |exact hk.no 11 true |skip
   exact .inl ⟨hk.yes 11 true,iq rfl (hk.s 13) (hk.s 15) (v:=(.bool s)) (fun w=>HX.o w) rfl⟩
  ·
   cases k with
   |
    true=>
    exact .inl ⟨ah rfl,aH rfl true (hk.s 11) (hk.s 16)⟩
   |
    false=>
    exact .inl ⟨ah rfl,aH rfl false (hk.s 11) rfl⟩
  ·
   exact .inl ⟨ah rfl,jS (.tmp 17) rfl (hk.s 17)⟩
 intro a ⟨w9,hb9⟩ hsame hall
 have he:=bK hsame [9,10,11,12,13,14,15,16,17,4] AB
 simp only[List.foldl_cons,List.foldl_nil] at he
 rw[show a.eval (.tmp 4)=(.bool R) from(hall 4 AB).trans (congrArg Value.bool HR.o.symm)] at he
 generalize a.eval (.tmp 9)=x9 at he
 generalize a.eval (.tmp 10)=x10 at he
 generalize a.eval (.tmp 11)=x11 at he
 generalize a.eval (.tmp 12)=x12 at he
 generalize a.eval (.tmp 13)=x13 at he
 generalize a.eval (.tmp 14)=x14 at he
 generalize a.eval (.tmp 15)=x15 at he
 generalize a.eval (.tmp 16)=x16 at he
 generalize a.eval (.tmp 17)=x17 at he
 simp only[dQ] at he
 dsimp only[List.set_cons_zero,List.set_cons_succ] at he
 subst he
 clear hsame hall
 go_wp2_with fail
 go_ret
 exact⟨rfl,HB3.o.trans (hb9.mono HB3.o.size)⟩
open Go Go.RowKit Go.Cit
def Vt (p1 p2:Nat) (h1 h2 k1 k2:Bool):Nat→Value
 | 24=>(.bool h1)
 | 25=>(.bool h1)
 | 26=>(bif h1 then (.bool h2) else undef)
 | 27=>(.bool (h1 && h2))
 | 28=>(.bool (h1 && h2))
 | 29=>(bif (h1 && h2) then (.pointer (some ⟨p1,3,none⟩)) else undef)
 | 30=>(bif (h1 && h2) then (.bool k1) else undef)
 | 31=>(.bool ((h1 && h2) && k1))
 | 32=>(.bool ((h1 && h2) && k1))
 | 33=>(bif ((h1 && h2) && k1) then (.pointer (some ⟨p2,3,none⟩)) else undef)
 | 34=>(bif ((h1 && h2) && k1) then (.bool k2) else undef)
 | 35=>(.bool (((h1 && h2) && k1) && k2))
 | 6=>(.bool (((h1 && h2) && k1) && k2))
 | _=>undef
def UQ (p1 p2:Nat) (h1 h2 _ _:Bool):Nat→Value
 | 8=>(.pointer (some ⟨p1,0,none⟩))
 | 9=>(.bool h1)
 | 10=>(.pointer (some ⟨p2,0,none⟩))
 | 11=>(.bool h2)
 | _=>undef
def Vk (p1 p2:Nat) (s1 s2:Int) (b g:Bool):Nat→Value
 | 36=>(.bool b)
 | 37=>(.bool b)
 | 38=>(.bool b)
 | 39=>(bif b then (.pointer (some ⟨p1,1,none⟩)) else undef)
 | 40=>(bif b then (.pointer (some ⟨p1,2,none⟩)) else undef)
 | 41=>(bif b then (.int .i64 s1) else undef)
 | 42=>(bif b then (.pointer (some ⟨p2,1,none⟩)) else undef)
 | 43=>(bif b then (.pointer (some ⟨p2,2,none⟩)) else undef)
 | 44=>(bif b then (.int .i64 s2) else undef)
 | 45=>(bif b then (.bool g) else undef)
 | 46=>(.bool (b && g))
 | 6=>(.bool b)
 | 7=>(.bool (b && g))
 | _=>undef
def UM (p1 p2:Nat) (_ _:Int) (b _:Bool):Nat→Value
 | 6=>(.bool b)
 | 8=>(.pointer (some ⟨p1,0,none⟩))
 | 10=>(.pointer (some ⟨p2,0,none⟩))
 | _=>undef
def mV (ps qs:List cO) (id:Int):Bool:=((iW ps id && iW qs id) && (qW ps id).keep) && (qW qs id).keep
def sH (ps qs:List cO) (id:Int):Bool:=mV ps qs id && decide ((qW ps id).reg.size.1=(qW qs id).reg.size.1)
def Ak (V W:aN):Bool:=fitsV V && fitsV W
theorem yS (w:World) (V W:aN):gJ ((w.alloc (.cells #[.slice V.wa V.ws.length V.wc, .slice V.pa V.ps.length V.pc, .slice V.ca V.cs.length V.cc] 26)).alloc (.cells #[.slice W.wa W.ws.length W.wc, .slice W.pa W.ps.length W.pc, .slice W.ca W.cs.length W.cc] 26)) w.heap.size V∧gJ ((w.alloc (.cells #[.slice V.wa V.ws.length V.wc, .slice V.pa V.ps.length V.pc, .slice V.ca V.cs.length V.cc] 26)).alloc (.cells #[.slice W.wa W.ws.length W.wc, .slice W.pa W.ps.length W.pc, .slice W.ca W.cs.length W.cc] 26)) (w.heap.size+1) W:=by
 refine⟨(dn w V _).keep ((Below.refl _ _).alloc (Nat.le_refl _) _), ?_⟩
 have:=dn (w.alloc (.cells #[.slice V.wa V.ws.length V.wc, .slice V.pa V.ps.length V.pc, .slice V.ca V.cs.length V.cc] 26)) W 26
 simpa using this
theorem IX (w:World) (V W:aN) (h:V.At w) (k:W.At w) (hs:bP V) (ks:bP W):Calls Tryz.prog 155 #[.agg #[.slice V.wa V.ws.length V.wc, .slice V.pa V.ps.length V.pc, .slice V.ca V.cs.length V.cc], .agg #[.slice W.wa W.ws.length W.wc, .slice W.pa W.ps.length W.pc, .slice W.ca W.cs.length W.cc]] w fun e w'=>e= .returned (.bool (Ak V W))∧Below w.heap.size w w':=by
 obtain⟨w0,hw0⟩:=AV ((w.alloc (.cells #[.slice V.wa V.ws.length V.wc, .slice V.pa V.ps.length V.pc, .slice V.ca V.cs.length V.cc] 26)).alloc (.cells #[.slice W.wa W.ws.length W.wc, .slice W.pa W.ps.length W.pc, .slice W.ca W.cs.length W.cc] 26))
 have B0:Below w.heap.size w w0:=by rw[hw0];exact((Below.refl _ w).alloc (Nat.le_refl _) _).alloc AO _
 have hI:=yS w V W
 rw[←hw0] at hI
 have HI:=AQ hI
 have HK:=AQ (k.stay B0)
 have hf:=zh w0 V (h.stay B0) hs
 obtain⟨f,hf0⟩:=AU (fitsV V)
 obtain⟨f2,hf2⟩:=AU (fitsV W)
 have HR:Hid (Ak V W=(f && f2)):=by rw[Hid,hf0.o,hf2.o];rfl
 rw[←hf0.o] at hf
 have HF:=AQ hf
 have HB0:=AQ B0
 obtain⟨R,hR⟩:=AU (Ak V W)
 rw[←hR.o] at HR ⊢
 clear h k B0 hI hf
 obtain⟨⟨c0,c1,c2⟩,⟨d0,d1,d2⟩⟩:=HI.o
 cases f with
 |
  false=>
  have HRF:Hid (R=false):=HR.o
  go_enter Tryz.func155,Tryz.ntmps155
  go_wp2_with fail
  rw[←hw0]
  clear hw0
  refine(HF.o).mono ?_
  rintro e w1 ⟨rfl,hb1⟩
  have HB1:=AQ (HB0.o.trans (hb1.mono HB0.o.size))
  clear hb1 c0 c1 c2 d0 d1 d2
  go_wp2_with fail
  go_ret
  exact⟨aC HRF.o.symm,HB1.o⟩
 |
  true=>
  have HRF:Hid (R=f2):=HR.o
  go_enter Tryz.func155,Tryz.ntmps155
  go_wp2_with fail
  rw[←hw0]
  clear hw0
  refine(HF.o).mono ?_
  rintro e w1 ⟨rfl,hb1⟩
  have hf:=zh w1 W (HK.o.stay hb1) ks
  rw[←hf2.o] at hf
  have HF2:=AQ hf
  have HB1:=AQ (HB0.o.trans (hb1.mono HB0.o.size))
  clear c0 c1 c2 d0 d1 d2
  obtain⟨d0,d1,d2⟩:=HI.o.2.keep hb1
  clear hb1 hf
  go_wp2_with fail
  refine(HF2.o).mono ?_
  rintro e w2 ⟨rfl,hb2⟩
  have HB2:=AQ (HB1.o.trans (hb2.mono HB1.o.size))
  clear hb2 d0 d1 d2
  go_wp2_with fail
  go_ret
  exact⟨aC HRF.o.symm,HB2.o⟩
theorem Jj (w:World) (V W:aN) (h:V.At w) (k:W.At w) (hs:bP V) (ks:bP W) (id:Int):Calls Tryz.prog 156 #[.agg #[.slice V.wa V.ws.length V.wc, .slice V.pa V.ps.length V.pc, .slice V.ca V.cs.length V.cc], .agg #[.slice W.wa W.ws.length W.wc, .slice W.pa W.ps.length W.pc, .slice W.ca W.cs.length W.cc], .int .i64 id] w fun e w'=>e= .returned (.tuple #[.bool (mV V.ps W.ps id), .bool (sH V.ps W.ps id)])∧Below w.heap.size w w':=by
 obtain⟨w0,hw0⟩:=AV ((w.alloc (.cells #[.slice V.wa V.ws.length V.wc, .slice V.pa V.ps.length V.pc, .slice V.ca V.cs.length V.cc] 26)).alloc (.cells #[.slice W.wa W.ws.length W.wc, .slice W.pa W.ps.length W.pc, .slice W.ca W.cs.length W.cc] 26))
 have B0:Below w.heap.size w w0:=by rw[hw0];exact((Below.refl _ w).alloc (Nat.le_refl _) _).alloc AO _
 have hI:=yS w V W
 rw[←hw0] at hI
 have HI:=AQ hI
 have HK:=AQ (k.stay B0)
 have HB0:=AQ B0
 have HP:=AQ (yU w0 V (h.stay B0) hs id)
 obtain⟨h1,hh1⟩:=AU (iW V.ps id)
 obtain⟨h2,hh2⟩:=AU (iW W.ps id)
 rw[←hh1.o] at HP
 obtain⟨RB,hRB⟩:=AU (mV V.ps W.ps id)
 obtain⟨RC,hRC⟩:=AU (sH V.ps W.ps id)
 rw[←hRB.o,←hRC.o]
 clear h k B0 hI
 obtain⟨⟨c0,c1,c2⟩,⟨d0,d1,d2⟩⟩:=HI.o
 go_enter Tryz.func156,Tryz.ntmps156
 go_wp2_with fail
 rw[←hw0]
 clear hw0
 refine(HP.o).mono ?_
 rintro e w1 ⟨x,rfl,hx,hO,hb1⟩
 obtain⟨wa,hwa⟩:=AV (w1.alloc (.cells (cA x) 46))
 obtain⟨p1,hp1⟩:=AV (w1.heap.size)
 have hba:Below w1.heap.size w1 wa:=by rw[hwa];exact(Below.refl _ w1).alloc (Nat.le_refl _) _
 have hX:wa.heap[p1]? =some (.cells (cA x) 46 (0,0)):=by rw[hwa,hp1];exact heap_alloc_new _ _
 have hb01:=hb1.trans (hba.mono hb1.size)
 have HX:=AQ (And.intro hX hx)
 have hpg:=yU wa W (HK.o.stay hb01) ks id
 rw[←hh2.o] at hpg
 have HP2:=AQ hpg
 have HB1:=AQ (HB0.o.trans (hb01.mono HB0.o.size))
 clear c0 c1 c2 d0 d1 d2
 have hI2:=HI.o.2.keep hb01
 rw[hwa] at hI2
 obtain⟨d0,d1,d2⟩:=hI2
 clear hx hO hb1 hba hX hb01 hpg HP
 go_wp2_with fail
 rw[←hwa,←hp1]
 clear hwa hp1 d0 d1 d2
 refine(HP2.o).mono ?_
 rintro e w2 ⟨y,rfl,hy,hO,hb2⟩
 obtain⟨wb,hwb⟩:=AV (w2.alloc (.cells (cA y) 46))
 obtain⟨p2,hp2⟩:=AV (w2.heap.size)
 have hbb:Below w2.heap.size w2 wb:=by rw[hwb];exact(Below.refl _ w2).alloc (Nat.le_refl _) _
 have hY:wb.heap[p2]? =some (.cells (cA y) 46 (0,0)):=by rw[hwb,hp2];exact heap_alloc_new _ _
 have hb12:=hb2.trans (hbb.mono hb2.size)
 have hX2:=aG HX.o.1 hb12
 have HXY:=AQ (And.intro hX2 hY)
 have HB2:=AQ (HB1.o.trans (hb12.mono HB1.o.size))
 obtain⟨k1,hk1⟩:=AU x.keep
 obtain⟨k2,hk2⟩:=AU y.keep
 obtain⟨s1,hs1⟩:=AU x.reg.size.1
 obtain⟨s2,hs2⟩:=AU y.reg.size.1
 obtain⟨b,hbb0⟩:=AU ((((h1 && h2) && k1) && k2))
 have hbb:=hbb0
 obtain⟨g,hgg⟩:∃g,Hid (((s1:Int)==s2)=g):=⟨_,rfl⟩
 obtain⟨c,hcc⟩:=AU ((b && g))
 have e1:(qW V.ps id).keep=k1∧(qW V.ps id).reg.size.1=s1:=by rw[←HX.o.2,hk1.o,hs1.o];exact⟨rfl,rfl⟩
 have e2:(qW W.ps id).keep=k2∧(qW W.ps id).reg.size.1=s2:=by rw[←hy,hk2.o,hs2.o];exact⟨rfl,rfl⟩
 have HRB:Hid (mV V.ps W.ps id=b):=by rw[Hid,hbb0.o,mV,e1.1,e2.1,hh1.o,hh2.o]
 have HRC:Hid (sH V.ps W.ps id=c):=by rw[Hid,hcc.o,sH,HRB.o,e1.2,e2.2,←hgg.o];congr 1
 have d1:∀q:After wb,q.to.cell? ⟨p1,3,none⟩=some (.bool k1):=fun q=>After.cell (by rw[World.cell?,hX2,hk1.o];rfl) q
 have d2:∀q:After wb,q.to.cell? ⟨p2,3,none⟩=some (.bool k2):=fun q=>After.cell (by rw[World.cell?,hY,hk2.o];rfl) q
 clear hy hO hb2 hX2 hY hb12 e1 e2
 go_upto_region 3 with fail
 rw[←hwb,←hp2]
 clear hwb hp2
 refine dY (Vt p1 p2 h1 h2 k1 k2) (UQ p1 p2 h1 h2 k1 k2) [8,9,10,11] AB ⟨rfl,rfl,rfl,rfl,trivial⟩ ?_ ?_
 ·repeat' (first |exact aO |refine aI ?_ ?_)
  all_goals intro a hk
  ·
   exact .inl ⟨ah rfl,aZ (.tmp 9) rfl (hk.o 9)⟩
  ·
   exact .inl ⟨ah rfl,aZ (.tmp 24) rfl (hk.s 24)⟩
  ·
   cases h1<;>first |exact hk.no 25 true |skip
   exact .inl ⟨hk.yes 25 true,aZ (.tmp 11) rfl (hk.o 11)⟩
  ·
   cases h1 with
   |
    true=>
    exact .inl ⟨ah rfl,aH rfl true (hk.s 25) (hk.s 26)⟩
   |
    false=>
    exact .inl ⟨ah rfl,aH rfl false (hk.s 25) rfl⟩
  ·
   exact .inl ⟨ah rfl,aZ (.tmp 27) rfl (hk.s 27)⟩
  ·
   cases h1<;>cases h2<;>first |exact hk.no 28 true |skip
   exact .inl ⟨hk.yes 28 true,bM (.tmp 8) rfl (hk.o 8) (v:=(.pointer (some ⟨p1,3,none⟩))) (fun w=>AB) rfl⟩
  ·
   cases h1<;>cases h2<;>first |exact hk.no 28 true |skip
   exact .inl ⟨hk.yes 28 true,aX (.tmp 29) rfl (hk.s 29) (v:=(.bool k1)) (fun q=>bH (fun w=>AB) (d1 q)) rfl⟩
  ·
   cases h1 with
   |
    true=>
    cases h2 with
    |
     true=>
     exact .inl ⟨ah rfl,aH rfl true (hk.s 28) (hk.s 30)⟩
    |
     false=>
     exact .inl ⟨ah rfl,aH rfl false (hk.s 28) rfl⟩
   |
    false=>
    exact .inl ⟨ah rfl,aH rfl false (hk.s 28) rfl⟩
  ·
   exact .inl ⟨ah rfl,aZ (.tmp 31) rfl (hk.s 31)⟩
  ·
   cases h1<;>cases h2<;>cases k1<;>first |exact hk.no 32 true |skip
   exact .inl ⟨hk.yes 32 true,bM (.tmp 10) rfl (hk.o 10) (v:=(.pointer (some ⟨p2,3,none⟩))) (fun w=>AB) rfl⟩
  ·
   cases h1<;>cases h2<;>cases k1<;>first |exact hk.no 32 true |skip
   exact .inl ⟨hk.yes 32 true,aX (.tmp 33) rfl (hk.s 33) (v:=(.bool k2)) (fun q=>bH (fun w=>AB) (d2 q)) rfl⟩
  ·
   cases h1 with
   |
    true=>
    cases h2 with
    |
     true=>
     cases k1 with
     |
      true=>
      exact .inl ⟨ah rfl,aH rfl true (hk.s 32) (hk.s 34)⟩
     |
      false=>
      exact .inl ⟨ah rfl,aH rfl false (hk.s 32) rfl⟩
    |
     false=>
     exact .inl ⟨ah rfl,aH rfl false (hk.s 32) rfl⟩
   |
    false=>
    exact .inl ⟨ah rfl,aH rfl false (hk.s 32) rfl⟩
  ·
   exact .inl ⟨ah rfl,jS (.tmp 35) rfl (hk.s 35)⟩
 intro a ⟨w4,hb4⟩ hsame hall
 have he:=bK hsame [24,25,26,27,28,29,30,31,32,33,34,35,6] AB
 simp only[List.foldl_cons,List.foldl_nil] at he
 rw[show a.eval (.tmp 6)=(.bool b) from(hall 6 AB).trans (congrArg Value.bool hbb.o.symm)] at he
 generalize a.eval (.tmp 24)=x24 at he
 generalize a.eval (.tmp 25)=x25 at he
 generalize a.eval (.tmp 26)=x26 at he
 generalize a.eval (.tmp 27)=x27 at he
 generalize a.eval (.tmp 28)=x28 at he
 generalize a.eval (.tmp 29)=x29 at he
 generalize a.eval (.tmp 30)=x30 at he
 generalize a.eval (.tmp 31)=x31 at he
 generalize a.eval (.tmp 32)=x32 at he
 generalize a.eval (.tmp 33)=x33 at he
 generalize a.eval (.tmp 34)=x34 at he
 generalize a.eval (.tmp 35)=x35 at he
 simp only[dQ] at he
 dsimp only[List.set_cons_zero,List.set_cons_succ] at he
 subst he
 clear hsame hall
 have d3:∀q:After w4,q.to.cell? ⟨p1,2,none⟩=some (.int .i64 s1):=fun q=>After.cell (by rw[World.cell?,aG HXY.o.1 hb4,hs1.o];rfl) q
 have d4:∀q:After w4,q.to.cell? ⟨p2,2,none⟩=some (.int .i64 s2):=fun q=>After.cell (by rw[World.cell?,aG HXY.o.2 hb4,hs2.o];rfl) q
 go_wp2_with fail
 refine jd (Vk p1 p2 s1 s2 b g) (UM p1 p2 s1 s2 b g) [6,8,10] AB AB AB ⟨rfl,rfl,rfl,trivial⟩ ?_ ?_
 ·repeat' (first |exact aO |refine aI ?_ ?_)
  all_goals intro a hk
  ·
   exact .inl ⟨ah rfl,aZ (.tmp 6) rfl (hk.o 6)⟩
  ·
   exact .inl ⟨ah rfl,aZ (.tmp 6) rfl (hk.o 6)⟩
  ·
   exact .inl ⟨ah rfl,aZ (.tmp 37) rfl (hk.s 37)⟩
  ·
   cases b<;>first |exact hk.no 38 true |skip
   exact .inl ⟨hk.yes 38 true,bM (.tmp 8) rfl (hk.o 8) (v:=(.pointer (some ⟨p1,1,none⟩))) (fun w=>AB) rfl⟩
  ·
   cases b<;>first |exact hk.no 38 true |skip
   exact .inl ⟨hk.yes 38 true,bM (.tmp 39) rfl (hk.s 39) (v:=(.pointer (some ⟨p1,2,none⟩))) (fun w=>AB) rfl⟩
  ·
   cases b<;>first |exact hk.no 38 true |skip
   exact .inl ⟨hk.yes 38 true,aX (.tmp 40) rfl (hk.s 40) (v:=(.int .i64 s1)) (fun q=>bH (fun w=>AB) (d3 q)) rfl⟩
  ·
   cases b<;>first |exact hk.no 38 true |skip
   exact .inl ⟨hk.yes 38 true,bM (.tmp 10) rfl (hk.o 10) (v:=(.pointer (some ⟨p2,1,none⟩))) (fun w=>AB) rfl⟩
  ·
   cases b<;>first |exact hk.no 38 true |skip
   exact .inl ⟨hk.yes 38 true,bM (.tmp 42) rfl (hk.s 42) (v:=(.pointer (some ⟨p2,2,none⟩))) (fun w=>AB) rfl⟩
  ·
   cases b<;>first |exact hk.no 38 true |skip
   exact .inl ⟨hk.yes 38 true,aX (.tmp 43) rfl (hk.s 43) (v:=(.int .i64 s2)) (fun q=>bH (fun w=>AB) (d4 q)) rfl⟩
  ·
   cases b<;>first |exact hk.no 38 true |skip
   exact .inl ⟨hk.yes 38 true,iq rfl (hk.s 41) (hk.s 44) (v:= .bool (((s1:Int)==s2))) (fun w=>AB) (congrArg Value.bool (hgg.o))⟩
  ·
   cases b with
   |
    true=>
    exact .inl ⟨ah rfl,aH rfl true (hk.s 38) (hk.s 45)⟩
   |
    false=>
    exact .inl ⟨ah rfl,aH rfl false (hk.s 38) rfl⟩
  ·
   exact .inl ⟨ah rfl,jS (.tmp 36) rfl (hk.s 36)⟩
  ·
   exact .inl ⟨ah rfl,jS (.tmp 46) rfl (hk.s 46)⟩
 intro a ⟨w5,hb5⟩ hsame hall
 have he:=bK hsame [36,37,38,39,40,41,42,43,44,45,46,6,7] AB
 simp only[List.foldl_cons,List.foldl_nil] at he
 rw[show a.eval (.tmp 6)=(.bool b) from hall 6 AB,show a.eval (.tmp 7)=(.bool c) from(hall 7 AB).trans (congrArg Value.bool hcc.o.symm)] at he
 generalize a.eval (.tmp 36)=x36 at he
 generalize a.eval (.tmp 37)=x37 at he
 generalize a.eval (.tmp 38)=x38 at he
 generalize a.eval (.tmp 39)=x39 at he
 generalize a.eval (.tmp 40)=x40 at he
 generalize a.eval (.tmp 41)=x41 at he
 generalize a.eval (.tmp 42)=x42 at he
 generalize a.eval (.tmp 43)=x43 at he
 generalize a.eval (.tmp 44)=x44 at he
 generalize a.eval (.tmp 45)=x45 at he
 generalize a.eval (.tmp 46)=x46 at he
 simp only[dQ] at he
 dsimp only[List.set_cons_zero,List.set_cons_succ] at he
 subst he
 clear hsame hall
 go_wp2_with fail
 (try simp only[Exit.inBlock,Exit.then])
 refine bodyPost_ret (results_tmp2 rfl _ _ _) rfl ?_
 exact⟨congrArg Ending.returned (by rw[hRB.o,HRB.o,hRC.o,HRC.o];rfl),HB2.o.trans ((hb4.trans (hb5.mono hb4.size)).mono HB2.o.size)⟩
end Go.Proofs.YtlholdllibghbaaGreat
