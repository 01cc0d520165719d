/- Texts of the proof, one behind the other: ManPrint, ManTag, ManSeal. No condition but those that each names. -/
import Derived.Test.YtlholdllibghbaaGreatG31
import Derived.Test.YtlholdllibghbaaGreatG20
import Derived.Test.YtlholdllibghbaaGreatKit
set_option maxRecDepth 100000
set_option maxHeartbeats 8000000
namespace Go.Proofs.YtlholdllibghbaaGreat
open Go Go.RowKit Go.Cit
def jm (M:aW):List UInt8:=if jO M then headB M++M.tag else []
def oV (M:aW):Int:=if jO M then 0 else 2
theorem wQ {M:aW} (h:jO M=true):jm M=headB M++M.tag∧oV M=0:=by unfold jm oV;rw[h];exact⟨rfl,rfl⟩
theorem wH {M:aW} (h:jO M=false):jm M=[]∧oV M=2:=by unfold jm oV;rw[h];exact⟨rfl,rfl⟩
theorem Iy {M:aW} (hp:M.prev.length=32) (ht:M.tag.length=32):(jm M).length≤3866:=by
 cases h:jO M with
 | false=>rw[(wH h).1];simp
 | true=>rw[(wQ h).1,List.length_append,ht];have:=oG hp (jQ h);omega
def mpr (w0:Nat) (C T:Array Value) (f:Nat→Value):Nat→Value
 | 7=>(.agg C)
 | 9=>(.pointer (some ⟨w0,37,none⟩))
 | 10=>(.agg T)
 | 13=>(EF 0 (f 2))
 | 14=>(EF 1 (f 2))
 | 2=>(EF 0 (f 2))
 | 3=>(EF 1 (f 2))
 | _=>undef
def TI:Nat→Nat
 | 13=>3
 | 14=>3
 | 2=>3
 | 3=>3
 | _=>0
def UH (w0:Nat) (_ _:Array Value):Nat→Value
 | 1=>(.pointer (some ⟨w0,0,none⟩))
 | _=>undef
theorem QT (w0:Nat) (C T:Array Value):∀d (f g:Nat→Value),(∀j,j<TI d→f j=g j)→mpr w0 C T f d=mpr w0 C T g d:=by
 intro d f g h
 unfold mpr
 split
 ·rfl
 ·rfl
 ·rfl
 ·rw[h 2 AP]
 ·rw[h 2 AP]
 ·rw[h 2 AP]
 ·rw[h 2 AP]
 ·rfl
theorem oN (w:World) (M:aW) (h:M.At w):Calls Tryz.prog 15 #[.agg (cM M)] w fun e w'=>∃a' c',e= .returned (.tuple #[.slice a' (jm M).length c', .int .i64 (oV M)])∧Mine w.heap.size w' a' (jm M) c'∧Below w.heap.size w w':=by
 obtain⟨C,hC⟩:=AU (cM M)
 obtain⟨w0,hw0⟩:=AV (w.alloc (.cells C 55))
 have B0:Below w.heap.size w w0:=by rw[hw0];exact(Below.refl _ w).alloc (Nat.le_refl _) _
 have hI:dR w0 w.heap.size M:=by rw[hw0,hC.o];exact dR.new w h
 have HI0:=AQ hI
 have HB0:=AQ B0
 have HM:=AQ (h.stay B0)
 have hc:=kR w0 M (h.stay B0)
 obtain⟨k,hk⟩:=AU (jO M)
 rw[←hk.o,←hC.o] at hc
 have HC:=AQ hc
 have hm:=hI.whole
 rw[←hC.o] at hm
 have HL:=AQ hm
 obtain⟨Y,hY⟩:=AU (jm M)
 obtain⟨E,hE⟩:=AU (oV M)
 rw[←hC.o,←hY.o,←hE.o]
 clear hc hm hI h B0
 go_enter Tryz.func15,Tryz.ntmps15
 go_upto_region 1 with fail
 rw[←hw0]
 clear hw0
 go_wp2_with ((with_reducible refine aK (o:=⟨some 4, .load 55 (.tmp 1),_,_,_,_⟩) AA AA AA HL.o ?_))
 refine(HC.o).mono ?_
 rintro e w1 ⟨rfl,hb1⟩
 have HB1:=AQ (HB0.o.trans (hb1.mono HB0.o.size))
 have hI:=AQ (HI0.o.keep hb1)
 have HM1:=AQ (HM.o.stay hb1)
 clear HL HC HI0 HM hb1
 cases k with
 |
  false=>
  have hn:=wH hk.o.symm
  rw[←hY.o,←hE.o] at hn
  obtain⟨rfl,rfl⟩:=hn
  go_wp2_with fail
  go_ret2
  exact⟨none,0,rfl,Mine.nil _ _,HB1.o⟩
 |
  true=>
  have HCN:Hid (jO M=true):=hk.o.symm
  have HH:Hid (∀wx,Below w1.heap.size w1 wx→Calls Tryz.prog 47 #[.agg C] wx (JK wx (headB M))):=fun wx hb=>by rw[hC.o];exact zS wx M (HM1.o.stay hb) HCN.o
  obtain⟨T,hT⟩:=AU ((M.tag.map vb).toArray)
  have C1:∀q:After w1,(Instr.loadAt 53 (.pointer (some ⟨w.heap.size,37,none⟩))).run Tryz.prog q.to= .ok (.agg T) q.to:=fun q=>by rw[hT.o];exact(hI.o.keep q.bel).tag
  have C5:∀q:After w1,(Instr.loadAt 55 (.pointer (some ⟨w.heap.size,0,none⟩))).run Tryz.prog q.to= .ok (.agg C) q.to:=fun q=>by rw[hC.o];exact(hI.o.keep q.bel).whole
  have HRM:Hid ((headB M).length+ [M.tag].flatten.length≤65536):=by
   have:=oG hI.o.p32 (jQ HCN.o)
   have h2:=hI.o.t32
   rw[Hid];simp only[List.flatten_cons,List.flatten_nil,List.append_nil];omega
  have WT:Hid (∀vs wx,kF w1 (headB M) [M.tag] vs wx→2<vs.length→∃A B,oh vs 2= .tuple #[A,B]):=fun vs wx hst hl=>by
   obtain⟨a,X,c,h1,_⟩:=hst.told (k:=2) rfl hl
   exact⟨_,_,h1⟩
  go_upto_region 3 with fail
  refine ql (mpr w.heap.size C T) TI (UH w.heap.size C T) [1] [1,4,5] (kF w1 (headB M) [M.tag]) AB AB AB AB ⟨rfl,trivial⟩ (QT w.heap.size C T) (kF.start _ _ _) ?_ ?_
  ·repeat' (first |exact aO |refine aI ?_ ?_)
   all_goals intro av vs hk
   ·exact⟨ah rfl, .inr ⟨by decide,fun s1 s2 hle wx hst=>aS (.tmp 1) rfl (hk.o 1) (v:=(.agg C)) ((fun (q:After _)=>C5 q) ⟨wx,hst.bel⟩) ⟨hst,rfl⟩⟩⟩
   ·refine⟨ah rfl, .inl ⟨0,rfl,fun hvs wx hst=> ?_⟩⟩
    refine aT rfl (hk.fn _) #[.agg C] (fun w=>AB) (by simp only[List.map_toArray,List.map_cons,List.map_nil,(show av.eval (.tmp 7)=(.agg C) from hk.s 7)]) (hst.begins hvs (HH.o wx hst.bel))
   ·exact⟨ah rfl, .inr ⟨by decide,fun s1 s2 hle wx hst=>bJ (.tmp 1) rfl (hk.o 1) (v:=(.pointer (some ⟨w.heap.size,37,none⟩))) (fun w=>AB) ⟨hst,rfl⟩⟩⟩
   ·exact⟨ah rfl, .inr ⟨by decide,fun s1 s2 hle wx hst=>aS (.tmp 9) rfl (hk.s 9) (v:=(.agg T)) ((fun (q:After _)=>C1 q) ⟨wx,hst.bel⟩) ⟨hst,rfl⟩⟩⟩
   ·refine⟨ah rfl, .inl ⟨1,rfl,fun hvs wx hst=> ?_⟩⟩
    refine aT rfl (hk.fn _) #[oh vs 0, .agg T] (fun w=>AB) (by simp only[List.map_toArray,List.map_cons,List.map_nil,(show av.eval (.tmp 8)=oh vs 0 from(hk.line 0 8 AB AB).2),(show av.eval (.tmp 10)=(.agg T) from hk.s 10)]) (hst.step (k:=0) hvs (m:=M.tag) rfl HRM.o (fun v=> #[v, .agg T]) (fun b a X c hw hb9 hr=>by rw[hT.o];exact zf hw hb9 _ hI.o.t32 (by have:=hI.o.t32;omega)))
   ·refine⟨ah rfl, .inl ⟨2,rfl,fun hvs wx hst=> ?_⟩⟩
    refine aT rfl (hk.fn _) #[oh vs 1] (fun w=>AB) (by simp only[List.map_toArray,List.map_cons,List.map_nil,(show av.eval (.tmp 11)=oh vs 1 from(hk.line 1 11 AB AB).2)]) (hst.finish (k:=1) rfl hvs)
   ·exact⟨ah rfl, .inr ⟨by decide,fun s1 s2 hle wx hst=>xC rfl (show av.eval (.tmp 12)=oh vs 2 from(hk.line 2 12 AB AB).2) AP (WT.o vs wx hst (s1 2 5 rfl AB)) ⟨hst,rfl⟩⟩⟩
   ·exact⟨ah rfl, .inr ⟨by decide,fun s1 s2 hle wx hst=>xC rfl (show av.eval (.tmp 12)=oh vs 2 from(hk.line 2 12 AB AB).2) AP (WT.o vs wx hst (s1 2 5 rfl AB)) ⟨hst,rfl⟩⟩⟩
   ·exact⟨ah rfl, .inr ⟨by decide,fun s1 s2 hle wx hst=>oD (.tmp 13) rfl ⟨hst,(hk.s 13)⟩⟩⟩
   ·exact⟨ah rfl, .inr ⟨by decide,fun s1 s2 hle wx hst=>oD (.tmp 14) rfl ⟨hst,(hk.s 14)⟩⟩⟩
  intro av vs w2 hlen9 hfin hsame hall hline
  have he:=bK hsame [7,8,9,10,11,12,13,14,2,3] AB
  simp only[List.foldl_cons,List.foldl_nil] at he
  rw[show av.eval (.tmp 2)=(EF 0 (oh vs 2)) from hall 2 AB AB,show av.eval (.tmp 3)=(EF 1 (oh vs 2)) from hall 3 AB AB] at he
  generalize av.eval (.tmp 7)=y7 at he
  generalize av.eval (.tmp 8)=y8 at he
  generalize av.eval (.tmp 9)=y9 at he
  generalize av.eval (.tmp 10)=y10 at he
  generalize av.eval (.tmp 11)=y11 at he
  generalize av.eval (.tmp 12)=y12 at he
  generalize av.eval (.tmp 13)=y13 at he
  generalize av.eval (.tmp 14)=y14 at he
  simp only[dQ] at he
  dsimp only[List.set_cons_zero,List.set_cons_succ] at he
  subst he
  clear hsame hall hline
  obtain⟨a,X,c,hv,hX,hW,hb2⟩:=hfin.told (k:=2) rfl (by rw[hlen9];decide)
  rw[hv]
  have hn:=wQ HCN.o
  rw[←hY.o,←hE.o] at hn
  have hXY:X=Y:=by rw[hX.o,hn.1];simp
  subst hXY
  go_wp2_with fail
  go_ret2
  exact⟨a,c,by rw[hn.2];rfl,hW.low HB1.o.size,HB1.o.trans (hb2.mono HB1.o.size)⟩
open Go Go.RowKit Go.Cit
def yQ:List UInt8:=[109,97,110,105,102,101,115,116]
def nR (key:List UInt8) (M:aW):List UInt8:=sK (rD key yQ []) (headB M)
theorem Fe (w:World):Ints w none [] 0:=⟨Nat.le_refl _,by decide,fun h=>absurd rfl h,fun i h=>by simp at h,fun i h=>by simp at h⟩
theorem kY (k s:List UInt8) (zs:List Int):(rD k s zs).length=32:=mJ _ _
theorem kJ (key:List UInt8) (M:aW):(nR key M).length=32:=mJ _ _
theorem zB (w:World) (a:Option Addr) (key:List UInt8) (c:Nat) (hk:Row w a key c) (hkl:key.length≤100000) (M:aW) (h:M.At w) (hcan:jO M=true):Calls Tryz.prog 80 #[.slice a key.length c, .agg (cM M)] w fun e w'=>e= .returned (.agg ((nR key M).map vb).toArray)∧Below w.heap.size w w':=by
 have HZ:=AQ (dG aP rfl)
 have HA:=AQ (fun ρ d ty ps af w=>mG ρ d ty ps (af:=af) w)
 obtain⟨Z,hZ⟩:=AU ((aP.map vb).toArray)
 rw[←hZ.o] at HZ HA
 obtain⟨C,hC⟩:=AU (cM M)
 obtain⟨w0,hw0⟩:=AV ((w.alloc (.cells C 55)).alloc (.cells Z 53))
 have B1:Below (w.alloc (.cells C 55)).heap.size (w.alloc (.cells C 55)) w0:=by rw[hw0];exact(Below.refl _ _).alloc (Nat.le_refl _) _
 have B0:Below w.heap.size w w0:=((Below.refl _ w).alloc (Nat.le_refl _) _).trans (B1.mono AO)
 have hI:dR w0 w.heap.size M:=by rw[hC.o] at B1;exact(dR.new w h).keep B1
 obtain⟨g,hg⟩:=AV (w.heap.size+1)
 have hgb:w0.heap[g]? =some (.cells Z 53 (0,0)):=by
  rw[hw0,hg];have:=heap_alloc_new (w.alloc (.cells C 55)) (.cells Z 53);simpa using this
 have hgw:w.heap.size≤g:=by omega
 have HGW:=AQ hgw
 have HG:=AQ hgb
 have hm:=hI.whole
 rw[←hC.o] at hm
 have HL:=AQ hm
 have HB0:=AQ B0
 have HK:=AQ (hk.stay B0)
 have hh:=zS w0 M (h.stay B0) hcan
 rw[←hC.o] at hh
 have HH:=AQ hh
 have HHL:=AQ (oG h.p32 (jQ hcan))
 obtain⟨F,hF⟩:=AU (headB M)
 rw[←hF.o] at HH
 obtain⟨R,hR⟩:=AU (nR key M)
 rw[←hR.o,←hC.o]
 obtain⟨n,hn⟩:=AU key.length
 rw[←hn.o]
 have HNK:Hid (key.length=n):=hn.o.symm
 clear hgb hgw hI hm h B0 B1 hk hh hcan
 go_enter Tryz.func80,Tryz.ntmps80
 go_upto_region 1 with ((with_reducible refine aj (o:=⟨some 4, .alloc _,_,_,_,_⟩) AA (HA.o _ _ _ _ _ _) ?_))
 rw[←hw0,show(w.alloc (.cells C 55)).heap.size=g by rw[hg];simp]
 have HG1:=AQ hg
 clear hw0 hg
 go_wp2_with ((with_reducible refine aK (o:=⟨some 8, .load 55 (.tmp 3),_,_,_,_⟩) AA AA AA HL.o ?_))
 refine(HH.o).mono ?_
 rintro e w1 ⟨b,ab,X,cb,hX,rfl,hW,hb1⟩
 have HB1:=AQ hb1
 have HD:=AQ (ug hW)
 clear HL HH hW hb1
 go_wp2_with fail
 refine(HD.o).mono ?_
 rintro e w2 ⟨a2,X2,c2,hX2,rfl,hM2,hb2⟩
 have HB2:=AQ (HB1.o.trans (hb2.mono HB1.o.size))
 have HM2:=AQ hM2.row
 obtain rfl:X2=X:=hX2.o
 have hdr:=Dp w2 a key c (HK.o.stay HB2.o) AL yQ AP none [] 0 (Fe w2) AP
 rw[HNK.o] at hdr
 have HDR:=AQ hdr
 clear HD hM2 hb2 hdr
 go_wp2_with fail
 refine(HDR.o).mono ?_
 rintro e w3 ⟨g3,rfl,hg3,hA3,hb3⟩
 have HB3:=AQ (HB2.o.trans (hb3.mono HB2.o.size))
 have hrr:=hA3.row (by rw[kY];decide)
 have HHS:Hid (Calls Tryz.prog 164 #[.slice (some ⟨g3,0,none⟩) 32 32, .slice a2 X2.length c2] w3 fun e w'=>e= .returned (.agg (R.map vb).toArray)∧Below w3.heap.size w3 w'):=by
  have:=zK w3 _ _ _ hrr (by rw[kY];decide) a2 X2 c2 (HM2.o.stay hb3) (by rw[hX.o,hF.o];have:=HHL.o;omega)
  rw[kY] at this
  rw[hR.o,nR,←hF.o,←hX.o]
  exact this
 have HR32:Hid (R.length=32):=by rw[Hid,hR.o];exact kJ _ _
 clear HDR hrr hA3 hb3 hg3
 go_wp2_with fail
 refine(HHS.o).mono ?_
 rintro e w4 ⟨rfl,hb4⟩
 have HB4:=AQ (HB3.o.trans (hb4.mono HB3.o.size))
 have HG4:=AQ (aG HG.o HB4.o)
 have HT:=AQ (dG R HR32.o)
 obtain⟨T,hT⟩:=AU ((R.map vb).toArray)
 rw[←hT.o] at HT
 rw[←hT.o]
 clear HHS hb4
 go_wp2_with ((with_reducible refine ay (o:=⟨none, .store _ (.tmp 4) (.tmp 16),_,_,_,_⟩) fV (.tmp 4) (.tmp 16) AA AA AA AA AA HG4.o HZ.o.1 HT.o.1 HT.o.2 ?_);intro w5 hbw5 hSw5;have HBw5:=AQ hbw5;have HSw5:=AQ hSw5;clear hbw5 hSw5)
 have HBB:=AQ (HB0.o.trans (HB4.o.mono HB0.o.size))
 refine bodyPost_ret (gV fV rfl rfl HBw5.o HT.o.1) rfl ⟨by rw[hT.o], ?_⟩
 exact HBB.o.trans (HSw5.o.below HBB.o.size (fun k hk=>by have:=HGW.o;omega))
def nX (M:aW):List UInt8:=if jO M then iJ (headB M++M.tag) else aP
theorem sZ (M:aW):(nX M).length=32:=by
 unfold nX
 split
 ·exact dH _
 ·rfl
theorem QC (ρ:Operand→Value) (d:Option Tmp) (ty:TypeId) (ps:String) {af} (w:World):
 (execOp ρ {dst:=d,op:=Op.build 53 #[],type:=ty,pos:=ps,after:=af,guard:=none}).run Tryz.prog w= .ok (.value (.agg (aP.map vb).toArray)) w:=by
 kernel_rfl
theorem xk (w:World) (M:aW) (h:M.At w):Calls Tryz.prog 18 #[.agg (cM M)] w fun e w'=>e= .returned (.agg ((nX M).map vb).toArray)∧Below w.heap.size w w':=by
 have HZ:=AQ (dG aP rfl)
 have HA:=AQ (fun ρ d ty ps af w=>mG ρ d ty ps (af:=af) w)
 have HZT:=AQ (fun ρ d ty ps af w=>QC ρ d ty ps (af:=af) w)
 obtain⟨Z,hZ⟩:=AU ((aP.map vb).toArray)
 rw[←hZ.o] at HZ HA HZT
 obtain⟨C,hC⟩:=AU (cM M)
 obtain⟨w0,hw0⟩:=AV ((w.alloc (.cells C 55)).alloc (.cells Z 53))
 have B1:Below (w.alloc (.cells C 55)).heap.size (w.alloc (.cells C 55)) w0:=by rw[hw0];exact(Below.refl _ _).alloc (Nat.le_refl _) _
 have B0:Below w.heap.size w w0:=((Below.refl _ w).alloc (Nat.le_refl _) _).trans (B1.mono AO)
 have hI:dR w0 w.heap.size M:=by rw[hC.o] at B1;exact(dR.new w h).keep B1
 obtain⟨g,hg⟩:=AV (w.heap.size+1)
 have hgb:w0.heap[g]? =some (.cells Z 53 (0,0)):=by
  rw[hw0,hg];have:=heap_alloc_new (w.alloc (.cells C 55)) (.cells Z 53);simpa using this
 have hgw:w.heap.size≤g:=by omega
 have HGW:=AQ hgw
 have HG:=AQ hgb
 have hm:=hI.whole
 rw[←hC.o] at hm
 have HL:=AQ hm
 have HB0:=AQ B0
 have hp:=oN w0 M (h.stay B0)
 have HPL:=AQ (Iy h.p32 h.t32)
 obtain⟨F,hF⟩:=AU (jm M)
 obtain⟨E,hE⟩:=AU (oV M)
 rw[←hF.o,←hE.o,←hC.o] at hp
 have HP:=AQ hp
 obtain⟨k,hk⟩:=AU (jO M)
 obtain⟨R,hR⟩:=AU (nX M)
 have HR32:Hid (R.length=32):=by rw[Hid,hR.o];exact sZ _
 rw[←hR.o,←hC.o]
 clear hgb hgw hI hm h B0 B1 hp
 go_enter Tryz.func18,Tryz.ntmps18
 go_upto_region 1 with ((with_reducible refine aj (o:=⟨some 2, .alloc _,_,_,_,_⟩) AA (HA.o _ _ _ _ _ _) ?_))
 rw[←hw0,show(w.alloc (.cells C 55)).heap.size=g by rw[hg];simp]
 have HG1:=AQ hg
 clear hw0 hg
 go_wp2_with ((with_reducible refine aK (o:=⟨some 6, .load 55 (.tmp 1),_,_,_,_⟩) AA AA AA HL.o ?_))
 refine(HP.o).mono ?_
 rintro e w1 ⟨a1,c1,rfl,hM,hb1⟩
 have HB1:=AQ hb1
 have HM1:=AQ hM.row
 have HGA:=AQ (aG HG.o hb1)
 clear HL HP hM hb1
 cases k with
 |
  false=>
  have hn:=wH hk.o.symm
  rw[←hE.o] at hn
  have e2:=hn.2
  subst e2
  have HRZ:Hid ((R.map vb).toArray=Z):=by rw[Hid,hR.o,nX,←hk.o,hZ.o];rfl
  clear hn
  go_wp2_with (first |((with_reducible refine aj (o:=⟨some 12, .build _ _,_,_,_,_⟩) AA (HZT.o _ _ _ _ _ _) ?_)) |((with_reducible refine ay (o:=⟨none, .store _ (.tmp 2) (.tmp 12),_,_,_,_⟩) fV (.tmp 2) (.tmp 12) AA AA AA AA AA HGA.o HZ.o.1 HZ.o.1 HZ.o.2 ?_);intro w5 hbw5 hSw5;have HBw5:=AQ hbw5;have HSw5:=AQ hSw5;clear hbw5 hSw5))
  have HBB:=AQ (HB0.o.trans (HB1.o.mono HB0.o.size))
  refine bodyPost_ret (gV fV rfl rfl HBw5.o HZ.o.1) rfl ⟨by rw[HRZ.o], ?_⟩
  exact HBB.o.trans (HSw5.o.below HBB.o.size (fun k hk=>by have:=HGW.o;omega))
 |
  true=>
  have hn:=wQ hk.o.symm
  rw[←hE.o] at hn
  have e2:=hn.2
  subst e2
  have HS:Hid (Calls Tryz.prog 52 #[.slice a1 F.length c1] w1 fun e w'=>e= .returned (.agg (R.map vb).toArray)∧Below w1.heap.size w1 w'):=by
   have:=rJ w1 a1 F c1 HM1.o (by rw[hF.o];have:=HPL.o;omega)
   rw[hR.o,nX,←hk.o,if_pos rfl,←hn.1,←hF.o]
   exact this
  clear hn
  go_wp2_with fail
  refine(HS.o).mono ?_
  rintro e w2 ⟨rfl,hb2⟩
  have HB2:=AQ (HB1.o.trans (hb2.mono HB1.o.size))
  have HGB:=AQ (aG HG.o HB2.o)
  have HT:=AQ (dG R HR32.o)
  obtain⟨T,hT⟩:=AU ((R.map vb).toArray)
  rw[←hT.o] at HT
  rw[←hT.o]
  clear HS hb2
  go_wp2_with ((with_reducible refine ay (o:=⟨none, .store _ (.tmp 2) (.tmp 14),_,_,_,_⟩) fV (.tmp 2) (.tmp 14) AA AA AA AA AA HGB.o HZ.o.1 HT.o.1 HT.o.2 ?_);intro w5 hbw5 hSw5;have HBw5:=AQ hbw5;have HSw5:=AQ hSw5;clear hbw5 hSw5)
  have HBB:=AQ (HB0.o.trans (HB2.o.mono HB0.o.size))
  refine bodyPost_ret (gV fV rfl rfl HBw5.o HT.o.1) rfl ⟨by rw[hT.o], ?_⟩
  exact HBB.o.trans (HSw5.o.below HBB.o.size (fun k hk=>by have:=HGW.o;omega))
open Go Go.RowKit Go.Cit
def Am (K:mO):Bool:=(((decide (1≤K.ver.1) && decide (K.ver.1≤1099511627776)) && decide (1≤K.trial.1)) && decide (K.trial.1≤8)) && KX K.cfg
def DW (K:zk):List UInt8:=if KX K then Nu K else []
def FD (K:mO):List UInt8:=[int8 K.ver.1,K.prev,int8 K.trial.1,lu (DW K.cfg)].flatten
def mD (K:mO):List UInt8:=if Am K then FD K++K.tag else []
def JJ (key:List UInt8) (K:mO):List UInt8:=sK (rD key yQ []) (FD K)
def pq (K:mO):List UInt8:=if Am K then iJ (FD K++K.tag) else aP
def jY (key:List UInt8) (K:mO):mO:= {K with tag:=if Am K then JJ key K else K.tag}
def nH (key:List UInt8) (K:mO):Bool:=Am K && decide (JJ key K=K.tag)
theorem IC (V:aN):jB V=DW V.cfg:=by unfold jB DW;rw[ku,Ky]
theorem jg (M:aW):jO M=Am M.man:=by unfold jO Am;rw[ku];rfl
theorem wG (M:aW):headB M=FD M.man:=by unfold headB EZ FD;rw[IC];rfl
theorem rM (key:List UInt8) (M:aW):nR key M=JJ key M.man:=by unfold nR JJ;rw[wG]
theorem um (M:aW):nX M=pq M.man:=by unfold nX pq;rw[jg,wG];rfl
theorem wV (M:aW):jm M=mD M.man:=by unfold jm mD;rw[jg,wG];rfl
theorem Jv {M:aW} {U:aN} (h:U.cfg=M.cfg.cfg):({M with cfg:=U}:aW).man=M.man:=by unfold aW.man;rw[h]
def zM:aW:=⟨⟨0,by decide⟩,aP,⟨0,by decide⟩,vZ,aP⟩
theorem eP (ρ:Operand→Value) (d:Option Tmp) (ty:TypeId) (ps:String) {af} (w:World):
 (execOp ρ {dst:=d,op:=Op.alloc 55,type:=ty,pos:=ps,after:=af,guard:=none}).run Tryz.prog w= .ok (.value (.pointer (some ⟨w.heap.size,0,none⟩))) (w.alloc (.cells (cM zM) 55)):=by
 kernel_rfl
theorem Cc (ρ:Operand→Value) (d:Option Tmp) (ty:TypeId) (ps:String) {af} (w:World):
 (execOp ρ {dst:=d,op:=Op.build 55 #[],type:=ty,pos:=ps,after:=af,guard:=none}).run Tryz.prog w= .ok (.value (.agg (cM zM))) w:=by
 kernel_rfl
theorem cu.oz {B:Nat} {S:Nat→Prop} {w w':World} {V:aN} (h:cu B w V) (hs:Save S w w') (hS:∀k,B≤k→S k):cu B w' V:=by
 have s:∀ {E:TypeId} {g:Nat},B≤g→(∃cs,w.heap[g]? =some (.cells cs E (0,0)))→∃cs,w'.heap[g]? =some (.cells cs E (0,0)):=by
  rintro E g hB ⟨cs,hg⟩
  exact⟨cs,(hs.block g (Array.getElem?_eq_some_iff.1 hg).1 (hS g hB)).trans hg⟩
 exact⟨h.win.save eG hs (fun _ j hj=>hS j (h.wb j hj).1),h.pts.save dZ hs (fun _ j hj=>hS j (h.pb j hj).1),h.mW.save gQ hs (fun _ j hj=>hS j (h.cb j hj).1),
  fun g hg=>⟨(h.wb g hg).1,s (h.wb g hg).1 (h.wb g hg).2⟩,fun g hg=>⟨(h.pb g hg).1,s (h.pb g hg).1 (h.pb g hg).2⟩,fun g hg=>⟨(h.cb g hg).1,s (h.cb g hg).1 (h.cb g hg).2⟩,fun x hx=>(h.img x hx).save hs (fun j hj=>hS j (((h.img x hx).aJ hj).1))⟩
theorem Il (U:aN):(cU U).all (·.oneCell')=true:=by simp[cU,Value.oneCell']
def VD (B:Nat) (C T1 T2:Array Value) (ak:Option Addr) (n c:Nat) (k s:Bool):Nat→Value
 | 5=>(.agg C)
 | 6=>(.bool k)
 | 7=>(.bool k)
 | 8=>(bif k then (.slice ak n c) else undef)
 | 9=>(bif k then (.agg C) else undef)
 | 10=>(bif k then (.agg T1) else undef)
 | 11=>(bif k then (.pointer (some ⟨B,37,none⟩)) else undef)
 | 12=>(bif k then (.agg T2) else undef)
 | 13=>(bif k then (.bool s) else undef)
 | 14=>(.bool (k && s))
 | 4=>(.bool (k && s))
 | _=>undef
def UR (B:Nat) (_ _ _:Array Value) (ak:Option Addr) (n c:Nat) (_ _:Bool):Nat→Value
 | 0=>(.slice ak n c)
 | 3=>(.pointer (some ⟨B,0,none⟩))
 | _=>undef
theorem lZ (w:World) (ak:Option Addr) (key:List UInt8) (c:Nat) (hk:Row w ak key c) (hkl:key.length≤100000) (M:aW) (h:M.At w):Calls Tryz.prog 29 #[.slice ak key.length c, .agg (cM M)] w fun e w'=>e= .returned (.bool (nH key M.man))∧Below w.heap.size w w':=by
 obtain⟨C,hC⟩:=AU (cM M)
 obtain⟨w0,hw0⟩:=AV (w.alloc (.cells C 55))
 have B0:Below w.heap.size w w0:=by rw[hw0];exact(Below.refl _ w).alloc (Nat.le_refl _) _
 have hI:dR w0 w.heap.size M:=by rw[hw0,hC.o];exact dR.new w h
 have HI0:=AQ hI
 have HB0:=AQ B0
 have HM:=AQ (h.stay B0)
 have HK:=AQ (hk.stay B0)
 obtain⟨k,hkk⟩:=AU (jO M)
 obtain⟨s,hss⟩:=AU (decide (nR key M=M.tag))
 obtain⟨R,hR⟩:=AU (nH key M.man)
 have HR:Hid (R=(k && s)):=by rw[Hid,hR.o,nH,←jg,←rM,hkk.o,hss.o];rfl
 obtain⟨n,hn⟩:=AU key.length
 obtain⟨T1,hT1⟩:=AU (((nR key M).map vb).toArray)
 obtain⟨T2,hT2⟩:=AU ((M.tag.map vb).toArray)
 have HC:Hid (∀q:After w0,Calls Tryz.prog 17 #[.agg C] q.to fun e w'=>e= .returned (.bool k)∧Below q.to.heap.size q.to w'):=fun q=>by rw[hC.o,hkk.o];exact kR q.to M (HM.o.stay q.bel)
 have HT1:Hid (∀q:After w0,k=true→Calls Tryz.prog 80 #[.slice ak n c, .agg C] q.to fun e w'=>e= .returned (.agg T1)∧Below q.to.heap.size q.to w'):=fun q hk1=>by rw[hC.o,hT1.o,hn.o];exact zB q.to ak key c (HK.o.stay q.bel) hkl M (HM.o.stay q.bel) (by rw[←hkk.o];exact hk1)
 have HSM:Hid (∀q:After w0,Calls Tryz.prog 81 #[.agg T1, .agg T2] q.to fun e w'=>e= .returned (.bool s)∧Below q.to.heap.size q.to w'):=fun q=>by rw[hT1.o,hT2.o,hss.o];exact GI q.to _ _ (kJ _ _) HI0.o.t32
 have C1:∀q:After w0,(Instr.loadAt 53 (.pointer (some ⟨w.heap.size,37,none⟩))).run Tryz.prog q.to= .ok (.agg T2) q.to:=fun q=>by rw[hT2.o];exact(HI0.o.keep q.bel).tag
 have C5:∀q:After w0,(Instr.loadAt 55 (.pointer (some ⟨w.heap.size,0,none⟩))).run Tryz.prog q.to= .ok (.agg C) q.to:=fun q=>by rw[hC.o];exact(HI0.o.keep q.bel).whole
 rw[←hC.o,←hR.o,←hn.o]
 clear hI h B0 hk
 go_enter Tryz.func29,Tryz.ntmps29
 go_upto_region 1 with fail
 rw[←hw0]
 clear hw0
 refine jd (VD w.heap.size C T1 T2 ak n c k s) (UR w.heap.size C T1 T2 ak n c k s) [0,3] AB AB AB ⟨rfl,rfl,trivial⟩ ?_ ?_
 ·repeat' (first |exact aO |refine aI ?_ ?_)
  all_goals intro a hk
  ·
   exact .inl ⟨ah rfl,aX (.tmp 3) rfl (hk.o 3) (v:=(.agg C)) (fun q=>C5 q) rfl⟩
  ·
   exact .inl ⟨ah rfl,gu rfl rfl #[(.agg C)] (fun w=>AB) (by simp only[List.map_toArray,List.map_cons,List.map_nil,(show a.eval (.tmp 5)=(.agg C) from hk.s 5)]) (v:=(.bool k)) (fun q=>HC.o q) rfl⟩
  ·
   exact .inl ⟨ah rfl,aZ (.tmp 6) rfl (hk.s 6)⟩
  ·
   cases k<;>first |exact hk.no 7 true |skip
   exact .inl ⟨hk.yes 7 true,aZ (.tmp 0) rfl (hk.o 0)⟩
  ·
   cases k<;>first |exact hk.no 7 true |skip
   exact .inl ⟨hk.yes 7 true,aX (.tmp 3) rfl (hk.o 3) (v:=(.agg C)) (fun q=>C5 q) rfl⟩
  ·
   cases k<;>first |exact hk.no 7 true |skip
   exact .inl ⟨hk.yes 7 true,gu rfl rfl #[(.slice ak n c),(.agg C)] (fun w=>AB) (by simp only[List.map_toArray,List.map_cons,List.map_nil,(show a.eval (.tmp 8)=(.slice ak n c) from hk.s 8),(show a.eval (.tmp 9)=(.agg C) from hk.s 9)]) (v:=(.agg T1)) (fun q=>HT1.o q rfl) rfl⟩
  ·
   cases k<;>first |exact hk.no 7 true |skip
   exact .inl ⟨hk.yes 7 true,bM (.tmp 3) rfl (hk.o 3) (v:=(.pointer (some ⟨w.heap.size,37,none⟩))) (fun w=>AB) rfl⟩
  ·
   cases k<;>first |exact hk.no 7 true |skip
   exact .inl ⟨hk.yes 7 true,aX (.tmp 11) rfl (hk.s 11) (v:=(.agg T2)) (fun q=>C1 q) rfl⟩
  ·
   cases k<;>first |exact hk.no 7 true |skip
   exact .inl ⟨hk.yes 7 true,gu rfl rfl #[(.agg T1),(.agg T2)] (fun w=>AB) (by simp only[List.map_toArray,List.map_cons,List.map_nil,(show a.eval (.tmp 10)=(.agg T1) from hk.s 10),(show a.eval (.tmp 12)=(.agg T2) from hk.s 12)]) (v:=(.bool s)) (fun q=>HSM.o q) rfl⟩
  ·
   cases k with
   |
    true=>
    exact .inl ⟨ah rfl,aH rfl true (hk.s 7) (hk.s 13)⟩
   |
    false=>
    exact .inl ⟨ah rfl,aH rfl false (hk.s 7) rfl⟩
  ·
   exact .inl ⟨ah rfl,jS (.tmp 14) rfl (hk.s 14)⟩
 intro a ⟨w3,hb3⟩ hsame hall
 have he:=bK hsame [5,6,7,8,9,10,11,12,13,14,4] AB
 simp only[List.foldl_cons,List.foldl_nil] at he
 rw[show a.eval (.tmp 4)=(.bool (k && s)) from hall 4 AB] at he
 generalize a.eval (.tmp 5)=x5 at he
 generalize a.eval (.tmp 6)=x6 at he
 generalize a.eval (.tmp 7)=x7 at he
 generalize a.eval (.tmp 8)=x8 at he
 generalize a.eval (.tmp 9)=x9 at he
 generalize a.eval (.tmp 10)=x10 at he
 generalize a.eval (.tmp 11)=x11 at he
 generalize a.eval (.tmp 12)=x12 at he
 generalize a.eval (.tmp 13)=x13 at he
 generalize a.eval (.tmp 14)=x14 at he
 simp only[dQ] at he
 dsimp only[List.set_cons_zero,List.set_cons_succ] at he
 subst he
 clear hsame hall
 go_wp2_with fail
 go_ret
 exact⟨aC HR.o.symm,HB0.o.trans (hb3.mono HB0.o.size)⟩
theorem qK (w:World) (a:Option Addr) (key:List UInt8) (c:Nat) (hk:Row w a key c) (hkl:key.length≤100000) (M:aW) (h:M.At w) (hs:bP M.cfg):Calls Tryz.prog 28 #[.slice a key.length c, .agg (cM M)] w fun e w'=>∃S:aW,e= .returned (.agg (cM S))∧S.man=jY key M.man∧S.prev.length=32∧S.tag.length=32∧cu w.heap.size w' S.cfg∧Below w.heap.size w w':=by
 have HAM:=AQ (fun ρ d ty ps af w=>eP ρ d ty ps (af:=af) w)
 obtain⟨Z,hZ⟩:=AU (cM zM)
 rw[←hZ.o] at HAM
 obtain⟨C,hC⟩:=AU (cM M)
 obtain⟨w0,hw0⟩:=AV ((w.alloc (.cells C 55)).alloc (.cells Z 55))
 have B1:Below (w.alloc (.cells C 55)).heap.size (w.alloc (.cells C 55)) w0:=by rw[hw0];exact(Below.refl _ _).alloc (Nat.le_refl _) _
 have B0:Below w.heap.size w w0:=((Below.refl _ w).alloc (Nat.le_refl _) _).trans (B1.mono AO)
 have hI:dR w0 w.heap.size M:=by rw[hC.o] at B1;exact(dR.new w h).keep B1
 obtain⟨g,hg⟩:=AV (w.heap.size+1)
 have hgb:w0.heap[g]? =some (.cells Z 55 (0,0)):=by
  rw[hw0,hg];have:=heap_alloc_new (w.alloc (.cells C 55)) (.cells Z 55);simpa using this
 have HGW:Hid (g=w.heap.size+1):=hg
 have HG:=AQ hgb
 have HGS:Hid (w0.heap.size=w.heap.size+2):=by rw[Hid,hw0];simp
 have d0:=hI.d0
 have d1:=hI.d1
 have d2:=hI.d2
 have HI0:=AQ hI
 have HB0:=AQ B0
 have HK:=AQ hk
 have HP32:=AQ h.p32
 have HT32:=AQ h.t32
 have HCC:=AQ (xq w0 M.cfg (h.cfg.stay B0) hs)
 have f3:=Po w.heap.size
 have f4:=UG w.heap.size
 obtain⟨n,hn⟩:=AU key.length
 rw[←hC.o,←hn.o]
 clear hgb hI h B0 B1 hk hs
 go_enter Tryz.func28,Tryz.ntmps28
 go_upto_region 1 with ((with_reducible refine aj (o:=⟨some 4, .alloc _,_,_,_,_⟩) AA (HAM.o _ _ _ _ _ _) ?_))
 rw[←hw0,show(w.alloc (.cells C 55)).heap.size=g by rw[hg];simp]
 clear hw0 hg
 go_upto_region 1 with fail
 go_wp2_with fail
 refine(HCC.o).mono ?_
 rintro e w1 ⟨U,rfl,hU,hF,hb1⟩
 have HI1:=AQ (HI0.o.keep hb1)
 have HG1:=AQ (aG HG.o hb1)
 have HB1:=AQ (HB0.o.trans (hb1.mono HB0.o.size))
 have HF1:=AQ hF
 have HU:=AQ hU
 have HCU:Hid ((#[.slice U.wa U.ws.length U.wc, .slice U.pa U.ps.length U.pc, .slice U.ca U.cs.length U.cc]:Array Value).all (·.oneCell')=true):=Il U
 clear d0 d1 d2 HCC hU hF hb1 HG HI0 HB0
 go_upto_region 2 with ((with_reducible refine eU (o:=⟨none, .store _ (.tmp 8) (.tmp 7),_,_,_,_⟩) (C:=cM M) RF.info (.tmp 8) (.tmp 7) AA AA AA AA AA rfl HI1.o.blk (by rw[HI1.o.size];decide) HCU.o ?_);intro w2 hbw2 hSw2;have HBw2:=AQ hbw2;have HSw2:=AQ hSw2;clear hbw2 hSw2)
 obtain⟨M2,hM2⟩:∃M2:aW,Hid (M2= {M with cfg:=U}):=⟨_,rfl⟩
 have HI2:Hid (dR w2 w.heap.size M2):=by
  rw[Hid,hM2.o]
  refine⟨HBw2.o.trans ?_,HP32.o,HT32.o⟩
  rw[show nM (cM M) 34 _=cM {M with cfg:=U} from D8 HP32.o U]
 have hMM:M2.man=M.man:=by rw[hM2.o];exact Jv HU.o
 have HMM:=AQ hMM
 have hwg:w1.heap.size≤w2.heap.size:=HSw2.o.size
 have hg9:g<w1.heap.size:=(Array.getElem?_eq_some_iff.1 HG1.o).1
 have HG2:Hid (w2.heap[g]? =some (.cells Z 55 (0,0))):=(HSw2.o.block g hg9 (by have:=HGW.o;omega)).trans HG1.o
 have HB2:Hid (Below w.heap.size w w2):=HB1.o.trans (HSw2.o.below HB1.o.size (fun k hk=>by omega))
 have HF2:Hid (cu w0.heap.size w2 U):=HF1.o.oz HSw2.o (fun k hk=>by have:=HGS.o;omega)
 have HA2:Hid (M2.At w2):=⟨HI2.o.p32,HI2.o.t32,by rw[hM2.o];exact HF2.o.at⟩
 have HB0:Hid (w.heap.size≤w0.heap.size):=by have:=HGS.o;rw[Hid];omega
 obtain⟨C2,hC2⟩:=AU (cM M2)
 have hw:=HI2.o.whole
 rw[←hC2.o] at hw
 have HL2:=AQ hw
 obtain⟨k,hkk⟩:=AU (jO M2)
 have HCN:Hid (Calls Tryz.prog 17 #[.agg C2] w2 fun e w'=>e= .returned (.bool k)∧Below w2.heap.size w2 w'):=by rw[hC2.o,hkk.o];exact kR w2 M2 HA2.o
 clear hw hMM hwg hg9 HI1 HG1 HB1 HF1 HCU
 go_wp2_with ((with_reducible refine aK (o:=⟨some 9, .load 55 (.tmp 3),_,_,_,_⟩) AA AA AA HL2.o ?_))
 refine(HCN.o).mono ?_
 rintro e w3 ⟨rfl,hb3⟩
 have HI3:=AQ (HI2.o.keep hb3)
 have HG3:=AQ (aG HG2.o hb3)
 have HB3:=AQ (HB2.o.trans (hb3.mono HB2.o.size))
 have HF3:=AQ (HF2.o.stay hb3)
 have HA3:=AQ (HA2.o.stay hb3)
 have HZS:Hid (Z.size=69):=by rw[Hid,hZ.o];rfl
 clear hb3 HL2 HCN HG2 HB2 HF2 HA2 HI2
 cases k with
 |
  false=>
  have hw:=HI3.o.whole
  rw[←hC2.o] at hw
  have HL3:=AQ hw
  clear hw
  have HC2:Hid (C2.size=69∧C2.all (·.oneCell')=true):=by rw[hC2.o];exact⟨HI3.o.size,fJ _⟩
  go_wp2_with (first |(with_reducible refine aK (o:=⟨some 15, .load 55 (.tmp 3),_,_,_,_⟩) AA AA AA HL3.o ?_) |((with_reducible refine ay (o:=⟨none, .store _ (.tmp 4) (.tmp 15),_,_,_,_⟩) iE (.tmp 4) (.tmp 15) AA AA AA AA AA HG3.o HZS.o HC2.o.1 HC2.o.2 ?_);intro w4 hbw4 hSw4;have HBw4:=AQ hbw4;have HSw4:=AQ hSw4;clear hbw4 hSw4))
  refine bodyPost_ret (gV iE rfl rfl HBw4.o HC2.o.1) rfl ⟨M2,by rw[hC2.o], ?_,HI3.o.p32,HI3.o.t32, ?_, ?_⟩
  ·rw[HMM.o,jY,←HMM.o,←jg,←hkk.o];rfl
  ·have:=HF3.o.oz HSw4.o (fun k hk=>by have:=HGW.o;have:=HGS.o;omega)
   rw[hM2.o];exact this.low HB0.o
  ·exact HB3.o.trans (HSw4.o.below HB3.o.size (fun k hk=>by have:=HGW.o;omega))
 |
  true=>
  have hw:=HI3.o.whole
  rw[←hC2.o] at hw
  have HL3:=AQ hw
  obtain⟨R,hR⟩:=AU (nR key M2)
  have HR32:Hid (R.length=32):=by rw[Hid,hR.o];exact kJ _ _
  obtain⟨T,hT⟩:=AU ((R.map vb).toArray)
  have HTG:Hid (Calls Tryz.prog 80 #[.slice a n c, .agg C2] w3 fun e w'=>e= .returned (.agg T)∧Below w3.heap.size w3 w'):=by rw[hC2.o,hT.o,hR.o,hn.o];exact zB w3 a key c (HK.o.stay HB3.o) hkl M2 HA3.o hkk.o.symm
  clear hw
  go_wp2_with ((with_reducible refine aK (o:=⟨some 12, .load 55 (.tmp 3),_,_,_,_⟩) AA AA AA HL3.o ?_))
  refine(HTG.o).mono ?_
  rintro e w4 ⟨rfl,hb4⟩
  have HI4:=AQ (HI3.o.keep hb4)
  have HG4:=AQ (aG HG3.o hb4)
  have HB4:=AQ (HB3.o.trans (hb4.mono HB3.o.size))
  have HF4:=AQ (HF3.o.stay hb4)
  have HTC:Hid (T.size=32∧T.all (·.oneCell')=true):=by rw[hT.o];exact dG R HR32.o
  clear hb4 HL3 HTG HI3 HG3 HB3 HF3 HA3
  go_upto_region 4 with ((with_reducible refine eU (o:=⟨none, .store _ (.tmp 14) (.tmp 13),_,_,_,_⟩) (C:=cM M2) fV.info (.tmp 14) (.tmp 13) AA AA AA AA AA HTC.o.1 HI4.o.blk (by rw[HI4.o.size];decide) HTC.o.2 ?_);intro w5 hbw5 hSw5;have HBw5:=AQ hbw5;have HSw5:=AQ hSw5;clear hbw5 hSw5)
  obtain⟨M3,hM3⟩:∃M3:aW,Hid (M3= {M2 with tag:=R}):=⟨_,rfl⟩
  have HI5:Hid (dR w5 w.heap.size M3):=by
   rw[Hid,hM3.o]
   refine⟨HBw5.o.trans ?_,HI4.o.p32,HR32.o⟩
   rw[hT.o,show nM (cM M2) 37 _=cM {M2 with tag:=R} from En HI4.o.p32 HI4.o.t32 HR32.o]
  have hg9:g<w4.heap.size:=(Array.getElem?_eq_some_iff.1 HG4.o).1
  have HG5:Hid (w5.heap[g]? =some (.cells Z 55 (0,0))):=(HSw5.o.block g hg9 (by have:=HGW.o;omega)).trans HG4.o
  have HB5:Hid (Below w.heap.size w w5):=HB4.o.trans (HSw5.o.below HB4.o.size (fun k hk=>by omega))
  have HF5:Hid (cu w0.heap.size w5 U):=by
   have:=HF4.o
   exact this.oz HSw5.o (fun k hk=>by have:=HGS.o;omega)
  obtain⟨C3,hC3⟩:=AU (cM M3)
  have hw:=HI5.o.whole
  rw[←hC3.o] at hw
  have HL5:=AQ hw
  have HC3:Hid (C3.size=69∧C3.all (·.oneCell')=true):=by rw[hC3.o];exact⟨HI5.o.size,fJ _⟩
  clear hw hg9 HI4 HG4 HB4 HF4
  go_wp2_with (first |(with_reducible refine aK (o:=⟨some 15, .load 55 (.tmp 3),_,_,_,_⟩) AA AA AA HL5.o ?_) |((with_reducible refine ay (o:=⟨none, .store _ (.tmp 4) (.tmp 15),_,_,_,_⟩) iE (.tmp 4) (.tmp 15) AA AA AA AA AA HG5.o HZS.o HC3.o.1 HC3.o.2 ?_);intro w6 hbw6 hSw6;have HBw6:=AQ hbw6;have HSw6:=AQ hSw6;clear hbw6 hSw6))
  refine bodyPost_ret (gV iE rfl rfl HBw6.o HC3.o.1) rfl ⟨M3,by rw[hC3.o], ?_,HI5.o.p32,HI5.o.t32, ?_, ?_⟩
  ·have e1:Am M.man=true:=by rw[←HMM.o,←jg];exact hkk.o.symm
   have e2:M3.man= {M2.man with tag:=R}:=by rw[hM3.o];rfl
   rw[e2,HMM.o,jY,if_pos e1,hR.o,rM,HMM.o]
  ·have:=HF5.o.oz HSw6.o (fun k hk=>by have:=HGW.o;have:=HGS.o;omega)
   rw[hM3.o,hM2.o];exact this.low HB0.o
  ·exact HB5.o.trans (HSw6.o.below HB5.o.size (fun k hk=>by have:=HGW.o;omega))
end Go.Proofs.YtlholdllibghbaaGreat
