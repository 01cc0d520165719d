/- Texts of the proof, one behind the other: ManPrint, ManTag, ManSeal. No condition but those that each names. -/
import Derived.Test.YtlholdllibghbaaGreatG31
import Derived.Test.YtlholdllibghbaaGreatG20
import Derived.Test.YtlholdllibghbaaGreatKit
set_option maxRecDepth 100000
set_option maxHeartbeats 8000000
namespace Go.Proofs.YtlholdllibghbaaGreat
open Go Go.RowKit Go.Cit
def jS (M:bD):List UInt8:=if jf M then headB M++M.tag else []
def rQ (M:bD):Int:=if jf M then 0 else 2
theorem uM {M:bD} (h:jf M=true):jS M=headB M++M.tag∧rQ M=0:=by unfold jS rQ;rw[h];exact⟨rfl,rfl⟩
theorem yO {M:bD} (h:jf M=false):jS M=[]∧rQ M=2:=by unfold jS rQ;rw[h];exact⟨rfl,rfl⟩
theorem CP {M:bD} (hp:M.prev.length=32) (ht:M.tag.length=32):(jS M).length≤3866:=by
 cases h:jf M with
 | false=>rw[(yO h).1];simp
 | true=>rw[(uM h).1,List.length_append,ht];have:=ni hp (jq h);omega
def mpr (w0:Nat) (C T:Array Value) (f:Nat→Value):Nat→Value
 | 7=>(.agg C)
 | 9=>(.pointer (some ⟨w0,37,none⟩))
 | 10=>(.agg T)
 | 13=>(JJ 0 (f 2))
 | 14=>(JJ 1 (f 2))
 | 2=>(JJ 0 (f 2))
 | 3=>(JJ 1 (f 2))
 | _=>undef
def VU:Nat→Nat
 | 13=>3
 | 14=>3
 | 2=>3
 | 3=>3
 | _=>0
def XK (w0:Nat) (_ _:Array Value):Nat→Value
 | 1=>(.pointer (some ⟨w0,0,none⟩))
 | _=>undef
theorem Um (w0:Nat) (C T:Array Value):∀d (f g:Nat→Value),(∀j,j<VU d→f j=g j)→mpr w0 C T f d=mpr w0 C T g d:=by
 intro d f g h
 unfold mpr
 split
 ·rfl
 ·rfl
 ·rfl
 ·rw[h 2 AP]
 ·rw[h 2 AP]
 ·rw[h 2 AP]
 ·rw[h 2 AP]
 ·rfl
theorem rD (w:World) (M:bD) (h:M.At w):Calls Tryz.prog 15 #[.agg (cM M)] w fun e w'=>∃a' c',e= .returned (.tuple #[.slice a' (jS M).length c', .int .i64 (rQ M)])∧Mine w.heap.size w' a' (jS M) c'∧Below w.heap.size w w':=by
 obtain⟨C,hC⟩:=AU (cM M)
 obtain⟨w0,hw0⟩:=AV (w.alloc (.cells C 55))
 have B0:Below w.heap.size w w0:=by rw[hw0];exact(Below.refl _ w).alloc (Nat.le_refl _) _
 have hI:fE w0 w.heap.size M:=by rw[hw0,hC.o];exact fE.new w h
 have HI0:=AQ hI
 have HB0:=AQ B0
 have HM:=AQ (h.stay B0)
 have hc:=lW w0 M (h.stay B0)
 obtain⟨k,hk⟩:=AU (jf M)
 rw[←hk.o,←hC.o] at hc
 have HC:=AQ hc
 have hm:=hI.whole
 rw[←hC.o] at hm
 have HL:=AQ hm
 obtain⟨Y,hY⟩:=AU (jS M)
 obtain⟨E,hE⟩:=AU (rQ M)
 rw[←hC.o,←hY.o,←hE.o]
 clear hc hm hI h B0
 go_enter Tryz.func15,Tryz.ntmps15
 go_upto_region 1 with fail
 rw[←hw0]
 clear hw0
 go_wp2_with ((with_reducible refine aN (o:=⟨some 4, .load 55 (.tmp 1),_,_,_,_⟩) AA AA AA HL.o ?_))
 refine(HC.o).mono ?_
 rintro e w1 ⟨rfl,hb1⟩
 have HB1:=AQ (HB0.o.trans (hb1.mono HB0.o.size))
 have hI:=AQ (HI0.o.keep hb1)
 have HM1:=AQ (HM.o.stay hb1)
 clear HL HC HI0 HM hb1
 cases k with
 |
  false=>
  have hn:=yO hk.o.symm
  rw[←hY.o,←hE.o] at hn
  obtain⟨rfl,rfl⟩:=hn
  go_wp2_with fail
  go_ret2
  exact⟨none,0,rfl,Mine.nil _ _,HB1.o⟩
 |
  true=>
  have HCN:Hid (jf M=true):=hk.o.symm
  have HH:Hid (∀wx,Below w1.heap.size w1 wx→Calls Tryz.prog 47 #[.agg C] wx (MX wx (headB M))):=fun wx hb=>by rw[hC.o];exact DZ wx M (HM1.o.stay hb) HCN.o
  obtain⟨T,hT⟩:=AU ((M.tag.map vb).toArray)
  have C1:∀q:After w1,(Instr.loadAt 53 (.pointer (some ⟨w.heap.size,37,none⟩))).run Tryz.prog q.to= .ok (.agg T) q.to:=fun q=>by rw[hT.o];exact(hI.o.keep q.bel).tag
  have C5:∀q:After w1,(Instr.loadAt 55 (.pointer (some ⟨w.heap.size,0,none⟩))).run Tryz.prog q.to= .ok (.agg C) q.to:=fun q=>by rw[hC.o];exact(hI.o.keep q.bel).whole
  have HRM:Hid ((headB M).length+ [M.tag].flatten.length≤65536):=by
   have:=ni hI.o.p32 (jq HCN.o)
   have h2:=hI.o.t32
   rw[Hid];simp only[List.flatten_cons,List.flatten_nil,List.append_nil];omega
  have WT:Hid (∀vs wx,lK w1 (headB M) [M.tag] vs wx→2<vs.length→∃A B,qA vs 2= .tuple #[A,B]):=fun vs wx hst hl=>by
   obtain⟨a,X,c,h1,_⟩:=hst.told (k:=2) rfl hl
   exact⟨_,_,h1⟩
  go_upto_region 3 with fail
  refine sF (mpr w.heap.size C T) VU (XK w.heap.size C T) [1] [1,4,5] (lK w1 (headB M) [M.tag]) AB AB AB AB ⟨rfl,trivial⟩ (Um w.heap.size C T) (lK.start _ _ _) ?_ ?_
  ·repeat' (first |exact aQ |refine aB ?_ ?_)
   all_goals intro av vs hk
   ·exact⟨ah rfl, .inr ⟨by decide,fun s1 s2 hle wx hst=>bF (.tmp 1) rfl (hk.o 1) (v:=(.agg C)) ((fun (q:After _)=>C5 q) ⟨wx,hst.bel⟩) ⟨hst,rfl⟩⟩⟩
   ·refine⟨ah rfl, .inl ⟨0,rfl,fun hvs wx hst=> ?_⟩⟩
    refine bQ rfl (hk.fn _) #[.agg C] (fun w=>AB) (by simp only[List.map_toArray,List.map_cons,List.map_nil,(show av.eval (.tmp 7)=(.agg C) from hk.s 7)]) (hst.begins hvs (HH.o wx hst.bel))
   ·exact⟨ah rfl, .inr ⟨by decide,fun s1 s2 hle wx hst=>bG (.tmp 1) rfl (hk.o 1) (v:=(.pointer (some ⟨w.heap.size,37,none⟩))) (fun w=>AB) ⟨hst,rfl⟩⟩⟩
   ·exact⟨ah rfl, .inr ⟨by decide,fun s1 s2 hle wx hst=>bF (.tmp 9) rfl (hk.s 9) (v:=(.agg T)) ((fun (q:After _)=>C1 q) ⟨wx,hst.bel⟩) ⟨hst,rfl⟩⟩⟩
   ·refine⟨ah rfl, .inl ⟨1,rfl,fun hvs wx hst=> ?_⟩⟩
    refine bQ rfl (hk.fn _) #[qA vs 0, .agg T] (fun w=>AB) (by simp only[List.map_toArray,List.map_cons,List.map_nil,(show av.eval (.tmp 8)=qA vs 0 from(hk.line 0 8 AB AB).2),(show av.eval (.tmp 10)=(.agg T) from hk.s 10)]) (hst.step (k:=0) hvs (m:=M.tag) rfl HRM.o (fun v=> #[v, .agg T]) (fun b a X c hw hb9 hr=>by rw[hT.o];exact CW hw hb9 _ hI.o.t32 (by have:=hI.o.t32;omega)))
   ·refine⟨ah rfl, .inl ⟨2,rfl,fun hvs wx hst=> ?_⟩⟩
    refine bQ rfl (hk.fn _) #[qA vs 1] (fun w=>AB) (by simp only[List.map_toArray,List.map_cons,List.map_nil,(show av.eval (.tmp 11)=qA vs 1 from(hk.line 1 11 AB AB).2)]) (hst.finish (k:=1) rfl hvs)
   ·exact⟨ah rfl, .inr ⟨by decide,fun s1 s2 hle wx hst=>zT rfl (show av.eval (.tmp 12)=qA vs 2 from(hk.line 2 12 AB AB).2) AP (WT.o vs wx hst (s1 2 5 rfl AB)) ⟨hst,rfl⟩⟩⟩
   ·exact⟨ah rfl, .inr ⟨by decide,fun s1 s2 hle wx hst=>zT rfl (show av.eval (.tmp 12)=qA vs 2 from(hk.line 2 12 AB AB).2) AP (WT.o vs wx hst (s1 2 5 rfl AB)) ⟨hst,rfl⟩⟩⟩
   ·exact⟨ah rfl, .inr ⟨by decide,fun s1 s2 hle wx hst=>lS (.tmp 13) rfl ⟨hst,(hk.s 13)⟩⟩⟩
   ·exact⟨ah rfl, .inr ⟨by decide,fun s1 s2 hle wx hst=>lS (.tmp 14) rfl ⟨hst,(hk.s 14)⟩⟩⟩
  intro av vs w2 hlen9 hfin hsame hall hline
  have he:=bn hsame [7,8,9,10,11,12,13,14,2,3] AB
  simp only[List.foldl_cons,List.foldl_nil] at he
  rw[show av.eval (.tmp 2)=(JJ 0 (qA vs 2)) from hall 2 AB AB,show av.eval (.tmp 3)=(JJ 1 (qA vs 2)) from hall 3 AB AB] at he
  generalize av.eval (.tmp 7)=y7 at he
  generalize av.eval (.tmp 8)=y8 at he
  generalize av.eval (.tmp 9)=y9 at he
  generalize av.eval (.tmp 10)=y10 at he
  generalize av.eval (.tmp 11)=y11 at he
  generalize av.eval (.tmp 12)=y12 at he
  generalize av.eval (.tmp 13)=y13 at he
  generalize av.eval (.tmp 14)=y14 at he
  simp only[cu] at he
  dsimp only[List.set_cons_zero,List.set_cons_succ] at he
  subst he
  clear hsame hall hline
  obtain⟨a,X,c,hv,hX,hW,hb2⟩:=hfin.told (k:=2) rfl (by rw[hlen9];decide)
  rw[hv]
  have hn:=uM HCN.o
  rw[←hY.o,←hE.o] at hn
  have hXY:X=Y:=by rw[hX.o,hn.1];simp
  subst hXY
  go_wp2_with fail
  go_ret2
  exact⟨a,c,by rw[hn.2];rfl,hW.low HB1.o.size,HB1.o.trans (hb2.mono HB1.o.size)⟩
open Go Go.RowKit Go.Cit
def CQ:List UInt8:=[109,97,110,105,102,101,115,116]
def pX (key:List UInt8) (M:bD):List UInt8:=vI (uU key CQ []) (headB M)
theorem Ia (w:World):Ints w none [] 0:=⟨Nat.le_refl _,by decide,fun h=>absurd rfl h,fun i h=>by simp at h,fun i h=>by simp at h⟩
theorem ny (k s:List UInt8) (zs:List Int):(uU k s zs).length=32:=oD _ _
theorem lT (key:List UInt8) (M:bD):(pX key M).length=32:=oD _ _
theorem DC (w:World) (a:Option Addr) (key:List UInt8) (c:Nat) (hk:Row w a key c) (hkl:key.length≤100000) (M:bD) (h:M.At w) (hcan:jf M=true):Calls Tryz.prog 80 #[.slice a key.length c, .agg (cM M)] w fun e w'=>e= .returned (.agg ((pX key M).map vb).toArray)∧Below w.heap.size w w':=by
 have HZ:=AQ (cO aK rfl)
 have HA:=AQ (fun ρ d ty ps af w=>kQ ρ d ty ps (af:=af) w)
 obtain⟨Z,hZ⟩:=AU ((aK.map vb).toArray)
 rw[←hZ.o] at HZ HA
 obtain⟨C,hC⟩:=AU (cM M)
 obtain⟨w0,hw0⟩:=AV ((w.alloc (.cells C 55)).alloc (.cells Z 53))
 have B1:Below (w.alloc (.cells C 55)).heap.size (w.alloc (.cells C 55)) w0:=by rw[hw0];exact(Below.refl _ _).alloc (Nat.le_refl _) _
 have B0:Below w.heap.size w w0:=((Below.refl _ w).alloc (Nat.le_refl _) _).trans (B1.mono AO)
 have hI:fE w0 w.heap.size M:=by rw[hC.o] at B1;exact(fE.new w h).keep B1
 obtain⟨g,hg⟩:=AV (w.heap.size+1)
 have hgb:w0.heap[g]? =some (.cells Z 53 (0,0)):=by
  rw[hw0,hg];have:=heap_alloc_new (w.alloc (.cells C 55)) (.cells Z 53);simpa using this
 have hgw:w.heap.size≤g:=by omega
 have HGW:=AQ hgw
 have HG:=AQ hgb
 have hm:=hI.whole
 rw[←hC.o] at hm
 have HL:=AQ hm
 have HB0:=AQ B0
 have HK:=AQ (hk.stay B0)
 have hh:=DZ w0 M (h.stay B0) hcan
 rw[←hC.o] at hh
 have HH:=AQ hh
 have HHL:=AQ (ni h.p32 (jq hcan))
 obtain⟨F,hF⟩:=AU (headB M)
 rw[←hF.o] at HH
 obtain⟨R,hR⟩:=AU (pX key M)
 rw[←hR.o,←hC.o]
 obtain⟨n,hn⟩:=AU key.length
 rw[←hn.o]
 have HNK:Hid (key.length=n):=hn.o.symm
 clear hgb hgw hI hm h B0 B1 hk hh hcan
 go_enter Tryz.func80,Tryz.ntmps80
 go_upto_region 1 with ((with_reducible refine aj (o:=⟨some 4, .alloc _,_,_,_,_⟩) AA (HA.o _ _ _ _ _ _) ?_))
 rw[←hw0,show(w.alloc (.cells C 55)).heap.size=g by rw[hg];simp]
 have HG1:=AQ hg
 clear hw0 hg
 go_wp2_with ((with_reducible refine aN (o:=⟨some 8, .load 55 (.tmp 3),_,_,_,_⟩) AA AA AA HL.o ?_))
 refine(HH.o).mono ?_
 rintro e w1 ⟨b,ab,X,cb,hX,rfl,hW,hb1⟩
 have HB1:=AQ hb1
 have HD:=AQ (wQ hW)
 clear HL HH hW hb1
 go_wp2_with fail
 refine(HD.o).mono ?_
 rintro e w2 ⟨a2,X2,c2,hX2,rfl,hM2,hb2⟩
 have HB2:=AQ (HB1.o.trans (hb2.mono HB1.o.size))
 have HM2:=AQ hM2.row
 obtain rfl:X2=X:=hX2.o
 have hdr:=Gx w2 a key c (HK.o.stay HB2.o) AL CQ AP none [] 0 (Ia w2) AP
 rw[HNK.o] at hdr
 have HDR:=AQ hdr
 clear HD hM2 hb2 hdr
 go_wp2_with fail
 refine(HDR.o).mono ?_
 rintro e w3 ⟨g3,rfl,hg3,hA3,hb3⟩
 have HB3:=AQ (HB2.o.trans (hb3.mono HB2.o.size))
 have hrr:=hA3.row (by rw[ny];decide)
 have HHS:Hid (Calls Tryz.prog 164 #[.slice (some ⟨g3,0,none⟩) 32 32, .slice a2 X2.length c2] w3 fun e w'=>e= .returned (.agg (R.map vb).toArray)∧Below w3.heap.size w3 w'):=by
  have:=Dt w3 _ _ _ hrr (by rw[ny];decide) a2 X2 c2 (HM2.o.stay hb3) (by rw[hX.o,hF.o];have:=HHL.o;omega)
  rw[ny] at this
  rw[hR.o,pX,←hF.o,←hX.o]
  exact this
 have HR32:Hid (R.length=32):=by rw[Hid,hR.o];exact lT _ _
 clear HDR hrr hA3 hb3 hg3
 go_wp2_with fail
 refine(HHS.o).mono ?_
 rintro e w4 ⟨rfl,hb4⟩
 have HB4:=AQ (HB3.o.trans (hb4.mono HB3.o.size))
 have HG4:=AQ (aH HG.o HB4.o)
 have HT:=AQ (cO R HR32.o)
 obtain⟨T,hT⟩:=AU ((R.map vb).toArray)
 rw[←hT.o] at HT
 rw[←hT.o]
 clear HHS hb4
 go_wp2_with ((with_reducible refine au (o:=⟨none, .store _ (.tmp 4) (.tmp 16),_,_,_,_⟩) dW (.tmp 4) (.tmp 16) AA AA AA AA AA HG4.o HZ.o.1 HT.o.1 HT.o.2 ?_);intro w5 hbw5 hSw5;have HBw5:=AQ hbw5;have HSw5:=AQ hSw5;clear hbw5 hSw5)
 have HBB:=AQ (HB0.o.trans (HB4.o.mono HB0.o.size))
 refine bodyPost_ret (iC dW rfl rfl HBw5.o HT.o.1) rfl ⟨by rw[hT.o], ?_⟩
 exact HBB.o.trans (HSw5.o.below HBB.o.size (fun k hk=>by have:=HGW.o;omega))
def jm (M:bD):List UInt8:=if jf M then jg (headB M++M.tag) else aK
theorem jK (M:bD):(jm M).length=32:=by
 unfold jm
 split
 ·exact eX _
 ·rfl
theorem QY (ρ:Operand→Value) (d:Option Tmp) (ty:TypeId) (ps:String) {af} (w:World):
 (execOp ρ {dst:=d,op:=Op.build 53 #[],type:=ty,pos:=ps,after:=af,guard:=none}).run Tryz.prog w= .ok (.value (.agg (aK.map vb).toArray)) w:=by
 kernel_rfl
theorem zQ (w:World) (M:bD) (h:M.At w):Calls Tryz.prog 18 #[.agg (cM M)] w fun e w'=>e= .returned (.agg ((jm M).map vb).toArray)∧Below w.heap.size w w':=by
 have HZ:=AQ (cO aK rfl)
 have HA:=AQ (fun ρ d ty ps af w=>kQ ρ d ty ps (af:=af) w)
 have HZT:=AQ (fun ρ d ty ps af w=>QY ρ d ty ps (af:=af) w)
 obtain⟨Z,hZ⟩:=AU ((aK.map vb).toArray)
 rw[←hZ.o] at HZ HA HZT
 obtain⟨C,hC⟩:=AU (cM M)
 obtain⟨w0,hw0⟩:=AV ((w.alloc (.cells C 55)).alloc (.cells Z 53))
 have B1:Below (w.alloc (.cells C 55)).heap.size (w.alloc (.cells C 55)) w0:=by rw[hw0];exact(Below.refl _ _).alloc (Nat.le_refl _) _
 have B0:Below w.heap.size w w0:=((Below.refl _ w).alloc (Nat.le_refl _) _).trans (B1.mono AO)
 have hI:fE w0 w.heap.size M:=by rw[hC.o] at B1;exact(fE.new w h).keep B1
 obtain⟨g,hg⟩:=AV (w.heap.size+1)
 have hgb:w0.heap[g]? =some (.cells Z 53 (0,0)):=by
  rw[hw0,hg];have:=heap_alloc_new (w.alloc (.cells C 55)) (.cells Z 53);simpa using this
 have hgw:w.heap.size≤g:=by omega
 have HGW:=AQ hgw
 have HG:=AQ hgb
 have hm:=hI.whole
 rw[←hC.o] at hm
 have HL:=AQ hm
 have HB0:=AQ B0
 have hp:=rD w0 M (h.stay B0)
 have HPL:=AQ (CP h.p32 h.t32)
 obtain⟨F,hF⟩:=AU (jS M)
 obtain⟨E,hE⟩:=AU (rQ M)
 rw[←hF.o,←hE.o,←hC.o] at hp
 have HP:=AQ hp
 obtain⟨k,hk⟩:=AU (jf M)
 obtain⟨R,hR⟩:=AU (jm M)
 have HR32:Hid (R.length=32):=by rw[Hid,hR.o];exact jK _
 rw[←hR.o,←hC.o]
 clear hgb hgw hI hm h B0 B1 hp
 go_enter Tryz.func18,Tryz.ntmps18
 go_upto_region 1 with ((with_reducible refine aj (o:=⟨some 2, .alloc _,_,_,_,_⟩) AA (HA.o _ _ _ _ _ _) ?_))
 rw[←hw0,show(w.alloc (.cells C 55)).heap.size=g by rw[hg];simp]
 have HG1:=AQ hg
 clear hw0 hg
 go_wp2_with ((with_reducible refine aN (o:=⟨some 6, .load 55 (.tmp 1),_,_,_,_⟩) AA AA AA HL.o ?_))
 refine(HP.o).mono ?_
 rintro e w1 ⟨a1,c1,rfl,hM,hb1⟩
 have HB1:=AQ hb1
 have HM1:=AQ hM.row
 have HGA:=AQ (aH HG.o hb1)
 clear HL HP hM hb1
 cases k with
 |
  false=>
  have hn:=yO hk.o.symm
  rw[←hE.o] at hn
  have e2:=hn.2
  subst e2
  have HRZ:Hid ((R.map vb).toArray=Z):=by rw[Hid,hR.o,jm,←hk.o,hZ.o];rfl
  clear hn
  go_wp2_with (first |((with_reducible refine aj (o:=⟨some 12, .build _ _,_,_,_,_⟩) AA (HZT.o _ _ _ _ _ _) ?_)) |((with_reducible refine au (o:=⟨none, .store _ (.tmp 2) (.tmp 12),_,_,_,_⟩) dW (.tmp 2) (.tmp 12) AA AA AA AA AA HGA.o HZ.o.1 HZ.o.1 HZ.o.2 ?_);intro w5 hbw5 hSw5;have HBw5:=AQ hbw5;have HSw5:=AQ hSw5;clear hbw5 hSw5))
  have HBB:=AQ (HB0.o.trans (HB1.o.mono HB0.o.size))
  refine bodyPost_ret (iC dW rfl rfl HBw5.o HZ.o.1) rfl ⟨by rw[HRZ.o], ?_⟩
  exact HBB.o.trans (HSw5.o.below HBB.o.size (fun k hk=>by have:=HGW.o;omega))
 |
  true=>
  have hn:=uM hk.o.symm
  rw[←hE.o] at hn
  have e2:=hn.2
  subst e2
  have HS:Hid (Calls Tryz.prog 52 #[.slice a1 F.length c1] w1 fun e w'=>e= .returned (.agg (R.map vb).toArray)∧Below w1.heap.size w1 w'):=by
   have:=uZ w1 a1 F c1 HM1.o (by rw[hF.o];have:=HPL.o;omega)
   rw[hR.o,jm,←hk.o,if_pos rfl,←hn.1,←hF.o]
   exact this
  clear hn
  go_wp2_with fail
  refine(HS.o).mono ?_
  rintro e w2 ⟨rfl,hb2⟩
  have HB2:=AQ (HB1.o.trans (hb2.mono HB1.o.size))
  have HGB:=AQ (aH HG.o HB2.o)
  have HT:=AQ (cO R HR32.o)
  obtain⟨T,hT⟩:=AU ((R.map vb).toArray)
  rw[←hT.o] at HT
  rw[←hT.o]
  clear HS hb2
  go_wp2_with ((with_reducible refine au (o:=⟨none, .store _ (.tmp 2) (.tmp 14),_,_,_,_⟩) dW (.tmp 2) (.tmp 14) AA AA AA AA AA HGB.o HZ.o.1 HT.o.1 HT.o.2 ?_);intro w5 hbw5 hSw5;have HBw5:=AQ hbw5;have HSw5:=AQ hSw5;clear hbw5 hSw5)
  have HBB:=AQ (HB0.o.trans (HB2.o.mono HB0.o.size))
  refine bodyPost_ret (iC dW rfl rfl HBw5.o HT.o.1) rfl ⟨by rw[hT.o], ?_⟩
  exact HBB.o.trans (HSw5.o.below HBB.o.size (fun k hk=>by have:=HGW.o;omega))
open Go Go.RowKit Go.Cit
def D9 (K:rU):Bool:=(((decide (1≤K.ver.1) && decide (K.ver.1≤1099511627776)) && decide (1≤K.trial.1)) && decide (K.trial.1≤8)) && Ij K.cfg
def FZ (K:CV):List UInt8:=if Ij K then RQ K else []
def I4 (K:rU):List UInt8:=[int8 K.ver.1,K.prev,int8 K.trial.1,lI (FZ K.cfg)].flatten
def oq (K:rU):List UInt8:=if D9 K then I4 K++K.tag else []
def NG (key:List UInt8) (K:rU):List UInt8:=vI (uU key CQ []) (I4 K)
def rE (K:rU):List UInt8:=if D9 K then jg (I4 K++K.tag) else aK
def qH (key:List UInt8) (K:rU):rU:= {K with tag:=if D9 K then NG key K else K.tag}
def qp (key:List UInt8) (K:rU):Bool:=D9 K && decide (NG key K=K.tag)
theorem Lr (V:aS):ku V=FZ V.cfg:=by unfold ku FZ;rw[kE,OL]
theorem jy (M:bD):jf M=D9 M.man:=by unfold jf D9;rw[kE];rfl
theorem yY (M:bD):headB M=I4 M.man:=by unfold headB Jk I4;rw[Lr];rfl
theorem zk (key:List UInt8) (M:bD):pX key M=NG key M.man:=by unfold pX NG;rw[yY]
theorem rM (M:bD):jm M=rE M.man:=by unfold jm rE;rw[jy,yY];rfl
theorem zx (M:bD):jS M=oq M.man:=by unfold jS oq;rw[jy,yY];rfl
theorem MV {M:bD} {U:aS} (h:U.cfg=M.cfg.cfg):({M with cfg:=U}:bD).man=M.man:=by unfold bD.man;rw[h]
def zM:bD:=⟨⟨0,by decide⟩,aK,⟨0,by decide⟩,vZ,aK⟩
theorem gy (ρ:Operand→Value) (d:Option Tmp) (ty:TypeId) (ps:String) {af} (w:World):
 (execOp ρ {dst:=d,op:=Op.alloc 55,type:=ty,pos:=ps,after:=af,guard:=none}).run Tryz.prog w= .ok (.value (.pointer (some ⟨w.heap.size,0,none⟩))) (w.alloc (.cells (cM zM) 55)):=by
 kernel_rfl
theorem uN (ρ:Operand→Value) (d:Option Tmp) (ty:TypeId) (ps:String) {af} (w:World):
 (execOp ρ {dst:=d,op:=Op.build 55 #[],type:=ty,pos:=ps,after:=af,guard:=none}).run Tryz.prog w= .ok (.value (.agg (cM zM))) w:=by
 kernel_rfl
theorem dH.lM {B:Nat} {S:Nat→Prop} {w w':World} {V:aS} (h:dH B w V) (hs:Save S w w') (hS:∀k,B≤k→S k):dH B w' V:=by
 have s:∀ {E:TypeId} {g:Nat},B≤g→(∃cs,w.heap[g]? =some (.cells cs E (0,0)))→∃cs,w'.heap[g]? =some (.cells cs E (0,0)):=by
  rintro E g hB ⟨cs,hg⟩
  exact⟨cs,(hs.block g (Array.getElem?_eq_some_iff.1 hg).1 (hS g hB)).trans hg⟩
 exact⟨h.win.save fF hs (fun _ j hj=>hS j (h.wb j hj).1),h.pts.save fJ hs (fun _ j hj=>hS j (h.pb j hj).1),h.kX.save gI hs (fun _ j hj=>hS j (h.cb j hj).1),
  fun g hg=>⟨(h.wb g hg).1,s (h.wb g hg).1 (h.wb g hg).2⟩,fun g hg=>⟨(h.pb g hg).1,s (h.pb g hg).1 (h.pb g hg).2⟩,fun g hg=>⟨(h.cb g hg).1,s (h.cb g hg).1 (h.cb g hg).2⟩,fun x hx=>(h.img x hx).save hs (fun j hj=>hS j (((h.img x hx).aU hj).1))⟩
theorem Hl (U:aS):(cU U).all (·.oneCell')=true:=by simp[cU,Value.oneCell']
def Yx (B:Nat) (C T1 T2:Array Value) (ak:Option Addr) (n c:Nat) (k s:Bool):Nat→Value
 | 5=>(.agg C)
 | 6=>(.bool k)
 | 7=>(.bool k)
 | 8=>(bif k then (.slice ak n c) else undef)
 | 9=>(bif k then (.agg C) else undef)
 | 10=>(bif k then (.agg T1) else undef)
 | 11=>(bif k then (.pointer (some ⟨B,37,none⟩)) else undef)
 | 12=>(bif k then (.agg T2) else undef)
 | 13=>(bif k then (.bool s) else undef)
 | 14=>(.bool (k && s))
 | 4=>(.bool (k && s))
 | _=>undef
def Xv (B:Nat) (_ _ _:Array Value) (ak:Option Addr) (n c:Nat) (_ _:Bool):Nat→Value
 | 0=>(.slice ak n c)
 | 3=>(.pointer (some ⟨B,0,none⟩))
 | _=>undef
theorem xR (w:World) (ak:Option Addr) (key:List UInt8) (c:Nat) (hk:Row w ak key c) (hkl:key.length≤100000) (M:bD) (h:M.At w):Calls Tryz.prog 29 #[.slice ak key.length c, .agg (cM M)] w fun e w'=>e= .returned (.bool (qp key M.man))∧Below w.heap.size w w':=by
 obtain⟨C,hC⟩:=AU (cM M)
 obtain⟨w0,hw0⟩:=AV (w.alloc (.cells C 55))
 have B0:Below w.heap.size w w0:=by rw[hw0];exact(Below.refl _ w).alloc (Nat.le_refl _) _
 have hI:fE w0 w.heap.size M:=by rw[hw0,hC.o];exact fE.new w h
 have HI0:=AQ hI
 have HB0:=AQ B0
 have HM:=AQ (h.stay B0)
 have HK:=AQ (hk.stay B0)
 obtain⟨k,hkk⟩:=AU (jf M)
 obtain⟨s,hss⟩:=AU (decide (pX key M=M.tag))
 obtain⟨R,hR⟩:=AU (qp key M.man)
 have HR:Hid (R=(k && s)):=by rw[Hid,hR.o,qp,←jy,←zk,hkk.o,hss.o];rfl
 obtain⟨n,hn⟩:=AU key.length
 obtain⟨T1,hT1⟩:=AU (((pX key M).map vb).toArray)
 obtain⟨T2,hT2⟩:=AU ((M.tag.map vb).toArray)
 have HC:Hid (∀q:After w0,Calls Tryz.prog 17 #[.agg C] q.to fun e w'=>e= .returned (.bool k)∧Below q.to.heap.size q.to w'):=fun q=>by rw[hC.o,hkk.o];exact lW q.to M (HM.o.stay q.bel)
 have HT1:Hid (∀q:After w0,k=true→Calls Tryz.prog 80 #[.slice ak n c, .agg C] q.to fun e w'=>e= .returned (.agg T1)∧Below q.to.heap.size q.to w'):=fun q hk1=>by rw[hC.o,hT1.o,hn.o];exact DC q.to ak key c (HK.o.stay q.bel) hkl M (HM.o.stay q.bel) (by rw[←hkk.o];exact hk1)
 have HSM:Hid (∀q:After w0,Calls Tryz.prog 81 #[.agg T1, .agg T2] q.to fun e w'=>e= .returned (.bool s)∧Below q.to.heap.size q.to w'):=fun q=>by rw[hT1.o,hT2.o,hss.o];exact JD q.to _ _ (lT _ _) HI0.o.t32
 have C1:∀q:After w0,(Instr.loadAt 53 (.pointer (some ⟨w.heap.size,37,none⟩))).run Tryz.prog q.to= .ok (.agg T2) q.to:=fun q=>by rw[hT2.o];exact(HI0.o.keep q.bel).tag
 have C5:∀q:After w0,(Instr.loadAt 55 (.pointer (some ⟨w.heap.size,0,none⟩))).run Tryz.prog q.to= .ok (.agg C) q.to:=fun q=>by rw[hC.o];exact(HI0.o.keep q.bel).whole
 rw[←hC.o,←hR.o,←hn.o]
 clear hI h B0 hk
 go_enter Tryz.func29,Tryz.ntmps29
 go_upto_region 1 with fail
 rw[←hw0]
 clear hw0
 refine eu (Yx w.heap.size C T1 T2 ak n c k s) (Xv w.heap.size C T1 T2 ak n c k s) [0,3] AB AB AB ⟨rfl,rfl,trivial⟩ ?_ ?_
 ·repeat' (first |exact aQ |refine aB ?_ ?_)
  all_goals intro a hk
  ·
   exact .inl ⟨ah rfl,aV (.tmp 3) rfl (hk.o 3) (v:=(.agg C)) (fun q=>C5 q) rfl⟩
  ·
   exact .inl ⟨ah rfl,dV rfl rfl #[(.agg C)] (fun w=>AB) (by simp only[List.map_toArray,List.map_cons,List.map_nil,(show a.eval (.tmp 5)=(.agg C) from hk.s 5)]) (v:=(.bool k)) (fun q=>HC.o q) rfl⟩
  ·
   exact .inl ⟨ah rfl,aO (.tmp 6) rfl (hk.s 6)⟩
  ·
   cases k<;>first |exact hk.no 7 true |skip
   exact .inl ⟨hk.yes 7 true,aO (.tmp 0) rfl (hk.o 0)⟩
  ·
   cases k<;>first |exact hk.no 7 true |skip
   exact .inl ⟨hk.yes 7 true,aV (.tmp 3) rfl (hk.o 3) (v:=(.agg C)) (fun q=>C5 q) rfl⟩
  ·
   cases k<;>first |exact hk.no 7 true |skip
   exact .inl ⟨hk.yes 7 true,dV rfl rfl #[(.slice ak n c),(.agg C)] (fun w=>AB) (by simp only[List.map_toArray,List.map_cons,List.map_nil,(show a.eval (.tmp 8)=(.slice ak n c) from hk.s 8),(show a.eval (.tmp 9)=(.agg C) from hk.s 9)]) (v:=(.agg T1)) (fun q=>HT1.o q rfl) rfl⟩
  ·
   cases k<;>first |exact hk.no 7 true |skip
   exact .inl ⟨hk.yes 7 true,aX (.tmp 3) rfl (hk.o 3) (v:=(.pointer (some ⟨w.heap.size,37,none⟩))) (fun w=>AB) rfl⟩
  ·
   cases k<;>first |exact hk.no 7 true |skip
   exact .inl ⟨hk.yes 7 true,aV (.tmp 11) rfl (hk.s 11) (v:=(.agg T2)) (fun q=>C1 q) rfl⟩
  ·
   cases k<;>first |exact hk.no 7 true |skip
   exact .inl ⟨hk.yes 7 true,dV rfl rfl #[(.agg T1),(.agg T2)] (fun w=>AB) (by simp only[List.map_toArray,List.map_cons,List.map_nil,(show a.eval (.tmp 10)=(.agg T1) from hk.s 10),(show a.eval (.tmp 12)=(.agg T2) from hk.s 12)]) (v:=(.bool s)) (fun q=>HSM.o q) rfl⟩
  ·
   cases k with
   |
    true=>
    exact .inl ⟨ah rfl,aI rfl true (hk.s 7) (hk.s 13)⟩
   |
    false=>
    exact .inl ⟨ah rfl,aI rfl false (hk.s 7) rfl⟩
  ·
   exact .inl ⟨ah rfl,gU (.tmp 14) rfl (hk.s 14)⟩
 intro a ⟨w3,hb3⟩ hsame hall
 have he:=bn hsame [5,6,7,8,9,10,11,12,13,14,4] AB
 simp only[List.foldl_cons,List.foldl_nil] at he
 rw[show a.eval (.tmp 4)=(.bool (k && s)) from hall 4 AB] at he
 generalize a.eval (.tmp 5)=x5 at he
 generalize a.eval (.tmp 6)=x6 at he
 generalize a.eval (.tmp 7)=x7 at he
 generalize a.eval (.tmp 8)=x8 at he
 generalize a.eval (.tmp 9)=x9 at he
 generalize a.eval (.tmp 10)=x10 at he
 generalize a.eval (.tmp 11)=x11 at he
 generalize a.eval (.tmp 12)=x12 at he
 generalize a.eval (.tmp 13)=x13 at he
 generalize a.eval (.tmp 14)=x14 at he
 simp only[cu] at he
 dsimp only[List.set_cons_zero,List.set_cons_succ] at he
 subst he
 clear hsame hall
 go_wp2_with fail
 go_ret
 exact⟨aJ HR.o.symm,HB0.o.trans (hb3.mono HB0.o.size)⟩
theorem zG (w:World) (a:Option Addr) (key:List UInt8) (c:Nat) (hk:Row w a key c) (hkl:key.length≤100000) (M:bD) (h:M.At w) (hs:bV M.cfg):Calls Tryz.prog 28 #[.slice a key.length c, .agg (cM M)] w fun e w'=>∃S:bD,e= .returned (.agg (cM S))∧S.man=qH key M.man∧S.prev.length=32∧S.tag.length=32∧dH w.heap.size w' S.cfg∧Below w.heap.size w w':=by
 have HAM:=AQ (fun ρ d ty ps af w=>gy ρ d ty ps (af:=af) w)
 obtain⟨Z,hZ⟩:=AU (cM zM)
 rw[←hZ.o] at HAM
 obtain⟨C,hC⟩:=AU (cM M)
 obtain⟨w0,hw0⟩:=AV ((w.alloc (.cells C 55)).alloc (.cells Z 55))
 have B1:Below (w.alloc (.cells C 55)).heap.size (w.alloc (.cells C 55)) w0:=by rw[hw0];exact(Below.refl _ _).alloc (Nat.le_refl _) _
 have B0:Below w.heap.size w w0:=((Below.refl _ w).alloc (Nat.le_refl _) _).trans (B1.mono AO)
 have hI:fE w0 w.heap.size M:=by rw[hC.o] at B1;exact(fE.new w h).keep B1
 obtain⟨g,hg⟩:=AV (w.heap.size+1)
 have hgb:w0.heap[g]? =some (.cells Z 55 (0,0)):=by
  rw[hw0,hg];have:=heap_alloc_new (w.alloc (.cells C 55)) (.cells Z 55);simpa using this
 have HGW:Hid (g=w.heap.size+1):=hg
 have HG:=AQ hgb
 have HGS:Hid (w0.heap.size=w.heap.size+2):=by rw[Hid,hw0];simp
 have d0:=hI.d0
 have d1:=hI.d1
 have d2:=hI.d2
 have HI0:=AQ hI
 have HB0:=AQ B0
 have HK:=AQ hk
 have HP32:=AQ h.p32
 have HT32:=AQ h.t32
 have HCC:=AQ (zJ w0 M.cfg (h.cfg.stay B0) hs)
 have f3:=Pz w.heap.size
 have f4:=V8 w.heap.size
 obtain⟨n,hn⟩:=AU key.length
 rw[←hC.o,←hn.o]
 clear hgb hI h B0 B1 hk hs
 go_enter Tryz.func28,Tryz.ntmps28
 go_upto_region 1 with ((with_reducible refine aj (o:=⟨some 4, .alloc _,_,_,_,_⟩) AA (HAM.o _ _ _ _ _ _) ?_))
 rw[←hw0,show(w.alloc (.cells C 55)).heap.size=g by rw[hg];simp]
 clear hw0 hg
 go_upto_region 1 with fail
 go_wp2_with fail
 refine(HCC.o).mono ?_
 rintro e w1 ⟨U,rfl,hU,hF,hb1⟩
 have HI1:=AQ (HI0.o.keep hb1)
 have HG1:=AQ (aH HG.o hb1)
 have HB1:=AQ (HB0.o.trans (hb1.mono HB0.o.size))
 have HF1:=AQ hF
 have HU:=AQ hU
 have HCU:Hid ((#[.slice U.wa U.ws.length U.wc, .slice U.pa U.ps.length U.pc, .slice U.ca U.cs.length U.cc]:Array Value).all (·.oneCell')=true):=Hl U
 clear d0 d1 d2 HCC hU hF hb1 HG HI0 HB0
 go_upto_region 2 with ((with_reducible refine dL (o:=⟨none, .store _ (.tmp 8) (.tmp 7),_,_,_,_⟩) (C:=cM M) Si.info (.tmp 8) (.tmp 7) AA AA AA AA AA rfl HI1.o.blk (by rw[HI1.o.size];decide) HCU.o ?_);intro w2 hbw2 hSw2;have HBw2:=AQ hbw2;have HSw2:=AQ hSw2;clear hbw2 hSw2)
 obtain⟨M2,hM2⟩:∃M2:bD,Hid (M2= {M with cfg:=U}):=⟨_,rfl⟩
 have HI2:Hid (fE w2 w.heap.size M2):=by
  rw[Hid,hM2.o]
  refine⟨HBw2.o.trans ?_,HP32.o,HT32.o⟩
  rw[show nC (cM M) 34 _=cM {M with cfg:=U} from Au HP32.o U]
 have hMM:M2.man=M.man:=by rw[hM2.o];exact MV HU.o
 have HMM:=AQ hMM
 have hwg:w1.heap.size≤w2.heap.size:=HSw2.o.size
 have hg9:g<w1.heap.size:=(Array.getElem?_eq_some_iff.1 HG1.o).1
 have HG2:Hid (w2.heap[g]? =some (.cells Z 55 (0,0))):=(HSw2.o.block g hg9 (by have:=HGW.o;omega)).trans HG1.o
 have HB2:Hid (Below w.heap.size w w2):=HB1.o.trans (HSw2.o.below HB1.o.size (fun k hk=>by omega))
 have HF2:Hid (dH w0.heap.size w2 U):=HF1.o.lM HSw2.o (fun k hk=>by have:=HGS.o;omega)
 have HA2:Hid (M2.At w2):=⟨HI2.o.p32,HI2.o.t32,by rw[hM2.o];exact HF2.o.at⟩
 have HB0:Hid (w.heap.size≤w0.heap.size):=by have:=HGS.o;rw[Hid];omega
 obtain⟨C2,hC2⟩:=AU (cM M2)
 have hw:=HI2.o.whole
 rw[←hC2.o] at hw
 have HL2:=AQ hw
 obtain⟨k,hkk⟩:=AU (jf M2)
 have HCN:Hid (Calls Tryz.prog 17 #[.agg C2] w2 fun e w'=>e= .returned (.bool k)∧Below w2.heap.size w2 w'):=by rw[hC2.o,hkk.o];exact lW w2 M2 HA2.o
 clear hw hMM hwg hg9 HI1 HG1 HB1 HF1 HCU
 go_wp2_with ((with_reducible refine aN (o:=⟨some 9, .load 55 (.tmp 3),_,_,_,_⟩) AA AA AA HL2.o ?_))
 refine(HCN.o).mono ?_
 rintro e w3 ⟨rfl,hb3⟩
 have HI3:=AQ (HI2.o.keep hb3)
 have HG3:=AQ (aH HG2.o hb3)
 have HB3:=AQ (HB2.o.trans (hb3.mono HB2.o.size))
 have HF3:=AQ (HF2.o.stay hb3)
 have HA3:=AQ (HA2.o.stay hb3)
 have HZS:Hid (Z.size=69):=by rw[Hid,hZ.o];rfl
 clear hb3 HL2 HCN HG2 HB2 HF2 HA2 HI2
 cases k with
 |
  false=>
  have hw:=HI3.o.whole
  rw[←hC2.o] at hw
  have HL3:=AQ hw
  clear hw
  have HC2:Hid (C2.size=69∧C2.all (·.oneCell')=true):=by rw[hC2.o];exact⟨HI3.o.size,eH _⟩
  go_wp2_with (first |(with_reducible refine aN (o:=⟨some 15, .load 55 (.tmp 3),_,_,_,_⟩) AA AA AA HL3.o ?_) |((with_reducible refine au (o:=⟨none, .store _ (.tmp 4) (.tmp 15),_,_,_,_⟩) eU (.tmp 4) (.tmp 15) AA AA AA AA AA HG3.o HZS.o HC2.o.1 HC2.o.2 ?_);intro w4 hbw4 hSw4;have HBw4:=AQ hbw4;have HSw4:=AQ hSw4;clear hbw4 hSw4))
  refine bodyPost_ret (iC eU rfl rfl HBw4.o HC2.o.1) rfl ⟨M2,by rw[hC2.o], ?_,HI3.o.p32,HI3.o.t32, ?_, ?_⟩
  ·rw[HMM.o,qH,←HMM.o,←jy,←hkk.o];rfl
  ·have:=HF3.o.lM HSw4.o (fun k hk=>by have:=HGW.o;have:=HGS.o;omega)
   rw[hM2.o];exact this.low HB0.o
  ·exact HB3.o.trans (HSw4.o.below HB3.o.size (fun k hk=>by have:=HGW.o;omega))
 |
  true=>
  have hw:=HI3.o.whole
  rw[←hC2.o] at hw
  have HL3:=AQ hw
  obtain⟨R,hR⟩:=AU (pX key M2)
  have HR32:Hid (R.length=32):=by rw[Hid,hR.o];exact lT _ _
  obtain⟨T,hT⟩:=AU ((R.map vb).toArray)
  have HTG:Hid (Calls Tryz.prog 80 #[.slice a n c, .agg C2] w3 fun e w'=>e= .returned (.agg T)∧Below w3.heap.size w3 w'):=by rw[hC2.o,hT.o,hR.o,hn.o];exact DC w3 a key c (HK.o.stay HB3.o) hkl M2 HA3.o hkk.o.symm
  clear hw
  go_wp2_with ((with_reducible refine aN (o:=⟨some 12, .load 55 (.tmp 3),_,_,_,_⟩) AA AA AA HL3.o ?_))
  refine(HTG.o).mono ?_
  rintro e w4 ⟨rfl,hb4⟩
  have HI4:=AQ (HI3.o.keep hb4)
  have HG4:=AQ (aH HG3.o hb4)
  have HB4:=AQ (HB3.o.trans (hb4.mono HB3.o.size))
  have HF4:=AQ (HF3.o.stay hb4)
  have HTC:Hid (T.size=32∧T.all (·.oneCell')=true):=by rw[hT.o];exact cO R HR32.o
  clear hb4 HL3 HTG HI3 HG3 HB3 HF3 HA3
  go_upto_region 4 with ((with_reducible refine dL (o:=⟨none, .store _ (.tmp 14) (.tmp 13),_,_,_,_⟩) (C:=cM M2) dW.info (.tmp 14) (.tmp 13) AA AA AA AA AA HTC.o.1 HI4.o.blk (by rw[HI4.o.size];decide) HTC.o.2 ?_);intro w5 hbw5 hSw5;have HBw5:=AQ hbw5;have HSw5:=AQ hSw5;clear hbw5 hSw5)
  obtain⟨M3,hM3⟩:∃M3:bD,Hid (M3= {M2 with tag:=R}):=⟨_,rfl⟩
  have HI5:Hid (fE w5 w.heap.size M3):=by
   rw[Hid,hM3.o]
   refine⟨HBw5.o.trans ?_,HI4.o.p32,HR32.o⟩
   rw[hT.o,show nC (cM M2) 37 _=cM {M2 with tag:=R} from Bo HI4.o.p32 HI4.o.t32 HR32.o]
  have hg9:g<w4.heap.size:=(Array.getElem?_eq_some_iff.1 HG4.o).1
  have HG5:Hid (w5.heap[g]? =some (.cells Z 55 (0,0))):=(HSw5.o.block g hg9 (by have:=HGW.o;omega)).trans HG4.o
  have HB5:Hid (Below w.heap.size w w5):=HB4.o.trans (HSw5.o.below HB4.o.size (fun k hk=>by omega))
  have HF5:Hid (dH w0.heap.size w5 U):=by
   have:=HF4.o
   exact this.lM HSw5.o (fun k hk=>by have:=HGS.o;omega)
  obtain⟨C3,hC3⟩:=AU (cM M3)
  have hw:=HI5.o.whole
  rw[←hC3.o] at hw
  have HL5:=AQ hw
  have HC3:Hid (C3.size=69∧C3.all (·.oneCell')=true):=by rw[hC3.o];exact⟨HI5.o.size,eH _⟩
  clear hw hg9 HI4 HG4 HB4 HF4
  go_wp2_with (first |(with_reducible refine aN (o:=⟨some 15, .load 55 (.tmp 3),_,_,_,_⟩) AA AA AA HL5.o ?_) |((with_reducible refine au (o:=⟨none, .store _ (.tmp 4) (.tmp 15),_,_,_,_⟩) eU (.tmp 4) (.tmp 15) AA AA AA AA AA HG5.o HZS.o HC3.o.1 HC3.o.2 ?_);intro w6 hbw6 hSw6;have HBw6:=AQ hbw6;have HSw6:=AQ hSw6;clear hbw6 hSw6))
  refine bodyPost_ret (iC eU rfl rfl HBw6.o HC3.o.1) rfl ⟨M3,by rw[hC3.o], ?_,HI5.o.p32,HI5.o.t32, ?_, ?_⟩
  ·have e1:D9 M.man=true:=by rw[←HMM.o,←jy];exact hkk.o.symm
   have e2:M3.man= {M2.man with tag:=R}:=by rw[hM3.o];rfl
   rw[e2,HMM.o,qH,if_pos e1,hR.o,zk,HMM.o]
  ·have:=HF5.o.lM HSw6.o (fun k hk=>by have:=HGW.o;have:=HGS.o;omega)
   rw[hM3.o,hM2.o];exact this.low HB0.o
  ·exact HB5.o.trans (HSw6.o.below HB5.o.size (fun k hk=>by have:=HGW.o;omega))
end Go.Proofs.YtlholdllibghbaaGreat
