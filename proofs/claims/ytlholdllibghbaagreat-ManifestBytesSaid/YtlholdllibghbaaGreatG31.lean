/- Texts of the proof, one behind the other: HmacSame, ManPrint, ManTag, ManSeal. No condition but those that each names. -/
import Derived.Test.YtlholdllibghbaaGreatG30
import Derived.Test.YtlholdllibghbaaGreatG29
import Derived.BigQuiet
import Derived.Deep.QuietTactic
import Derived.Test.YtlholdllibghbaaGreatG20
import Derived.Test.YtlholdllibghbaaGreatKit
set_option maxRecDepth 100000
set_option maxHeartbeats 8000000
namespace Go.Proofs.YtlholdllibghbaaGreat
open Go Go.RowKit Go.Cit
theorem or_zero (v x y:UInt8):Sz v (yD x y)=0↔v=0∧x=y:=by
 unfold Sz yD
 rw[UInt8.or_eq_zero_iff,UInt8.xor_eq_zero_iff]
theorem Gn (w:World) (l m:List UInt8) (hl:l.length=32) (hm:m.length=32):
 Calls Tryz.prog 81 #[.agg (l.map vb).toArray, .agg (m.map vb).toArray] w fun e w'=>e= .returned (.bool (decide (l=m)))∧Below w.heap.size w w':=by
 have HLL:=AQ hl
 have HML:=AQ hm
 have b0:iV 53 ((w.alloc (.cells (l.map vb).toArray 53)).alloc (.cells (m.map vb).toArray 53)) w.heap.size l:=(Below.heap_alloc _ _ _ AO).trans (heap_alloc_new w _)
 have b1:iV 53 ((w.alloc (.cells (l.map vb).toArray 53)).alloc (.cells (m.map vb).toArray 53)) (w.heap.size+1) m:=by
  have:=heap_alloc_new (w.alloc (.cells (l.map vb).toArray 53)) (.cells (m.map vb).toArray 53)
  rwa[World.size_alloc] at this
 have B0:Below w.heap.size w ((w.alloc (.cells (l.map vb).toArray 53)).alloc (.cells (m.map vb).toArray 53)):=((Below.refl _ w).alloc (Nat.le_refl _) _).alloc AO _
 have HB:=AQ (And.intro b0 (And.intro b1 B0))
 obtain⟨C,hC⟩:=AU ((l.map vb).toArray)
 obtain⟨D,hD⟩:=AU ((m.map vb).toArray)
 rw[←hC.o,←hD.o] at HB ⊢
 clear b0 b1 B0 hl hm
 go_enter Tryz.func81,Tryz.ntmps81
 go_wp2_with (first
  | ((with_reducible refine lF (o:=⟨some 2, .box _ (.tmp 0),_,_,_,_⟩) (.tmp 0) AA AA AA ?_))
  | ((with_reducible refine lF (o:=⟨some 3, .box _ (.tmp 1),_,_,_,_⟩) (.tmp 1) AA AA AA ?_)))
 obtain⟨b0,b1,B0⟩:=HB.o
 go_loopw [5,7] (fun v i wr=>∃(k:Nat) (x:UInt8),k≤32∧i= .int .i64 k∧v=vb x∧Hid (x=0↔l.take k=m.take k)∧iV 53 wr w.heap.size l∧iV 53 wr (w.heap.size+1) m∧Below w.heap.size w wr) (fun _ i _=>32-(intOf i).toNat)
 case atStart=>exact⟨0,0,by omega,rfl,rfl,by simp[Hid],b0,b1,B0⟩
 case round=>
  clear b0 b1 B0
  obtain⟨k,v,hk,rfl,rfl,HV,A0,A1,B⟩:=hrel
  by_cases hlt:k<32
  ·have d1:decide ((k:Int)<32)=true:=by simp;omega
   have hkl:k<l.length:=by rw[HLL.o];exact hlt
   have hkm:k<m.length:=by rw[HML.o];exact hlt
   have i0:=fun W=>uF (T:=53) (n:=32) Tryz.underlying53 w.heap.size k hlt W
   have i1:=fun W=>uF (T:=53) (n:=32) Tryz.underlying53 (w.heap.size+1) k hlt W
   have e0:∀n,({wr with drawn:=n}:World).cell? ⟨w.heap.size,k,none⟩=some (vb l[k]):=fun _=>A0.cell k hkl
   have e1:∀n,({wr with drawn:=n}:World).cell? ⟨w.heap.size+1,k,none⟩=some (vb m[k]):=fun _=>A1.cell k hkm
   have HS:Hid (Sz v (yD l[k] m[k])=0↔l.take (k+1)=m.take (k+1)):=by
    rw[Hid,or_zero,HV.o,List.take_succ_eq_append_getElem hkl,List.take_succ_eq_append_getElem hkm]
    constructor
    ·rintro⟨h1,h2⟩;rw[h1,h2]
    ·intro h
     have:=List.append_inj h (by rw[List.length_take,List.length_take,HLL.o,HML.o])
     exact⟨this.1,by simpa using this.2⟩
   generalize l[k]=x at e0 HS
   generalize m[k]=y at e1 HS
   have A0d:∀n,iV 53 (wr.drewN n) w.heap.size l:=fun _=>A0
   have A1d:∀n,iV 53 (wr.drewN n) (w.heap.size+1) m:=fun _=>A1
   have HA:=AQ (And.intro A0d A1d)
   clear hkl hkm A0d A1d
   go_wp2_with fail
   go_quiet (fail)
   go_wp2_with fail
   go_roundw
   case rel=>exact⟨k+1,Sz v (yD x y),by omega,by go_num,rfl,HS,HA.o.1 _,HA.o.2 _,B.trans (below_drewN _ _ _)⟩
   case measure=>simp[intOf];omega
  ·have hk2:k=32:=by omega
   have d1:decide ((k:Int)<32)=false:=by simp;omega
   have HV2:Hid (v=0↔l=m):=by
    have:=HV.o
    rwa[hk2,List.take_of_length_le (by rw[HLL.o];omega),List.take_of_length_le (by rw[HML.o];omega)] at this
   clear hk2
   by_cases hlm:l=m
   ·have q:((v.toNat:Int)==0)=true:=by rw[HV2.o.2 hlm];rfl
    have HR:Hid (decide (l=m)=true):=by rw[Hid];simpa using hlm
    clear hlm
    go_wp2_with fail
    go_ret
    exact⟨by rw[HR.o];rfl,B⟩
   ·have q:((v.toNat:Int)==0)=false:=by
     rw[beq_eq_false_iff_ne];intro h
     exact hlm (HV2.o.1 (UInt8.toNat_inj.1 (by show v.toNat=0;omega)))
    have HR:Hid (decide (l=m)=false):=by rw[Hid];simpa using hlm
    clear hlm
    go_wp2_with fail
    go_ret
    exact⟨by rw[HR.o];rfl,B⟩
open Go Go.RowKit Go.Cit
def iZ (M:aV):List UInt8:=if jK M then headB M++M.tag else []
def kW (M:aV):Int:=if jK M then 0 else 2
theorem rY {M:aV} (h:jK M=true):iZ M=headB M++M.tag∧kW M=0:=by unfold iZ kW;rw[h];exact⟨rfl,rfl⟩
theorem sJ {M:aV} (h:jK M=false):iZ M=[]∧kW M=2:=by unfold iZ kW;rw[h];exact⟨rfl,rfl⟩
theorem zo {M:aV} (hp:M.prev.length=32) (ht:M.tag.length=32):(iZ M).length≤3866:=by
 cases h:jK M with
 | false=>rw[(sJ h).1];simp
 | true=>rw[(rY h).1,List.length_append,ht];have:=mW hp (jF h);omega
def mpr (w0:Nat) (C T:Array Value) (f:Nat→Value):Nat→Value
 | 7=>(.agg C)
 | 9=>(.pointer (some ⟨w0,37,none⟩))
 | 10=>(.agg T)
 | 13=>(Gq 0 (f 2))
 | 14=>(Gq 1 (f 2))
 | 2=>(Gq 0 (f 2))
 | 3=>(Gq 1 (f 2))
 | _=>undef
def SX:Nat→Nat
 | 13=>3
 | 14=>3
 | 2=>3
 | 3=>3
 | _=>0
def UN (w0:Nat) (_ _:Array Value):Nat→Value
 | 1=>(.pointer (some ⟨w0,0,none⟩))
 | _=>undef
theorem Rk (w0:Nat) (C T:Array Value):∀d (f g:Nat→Value),(∀j,j<SX d→f j=g j)→mpr w0 C T f d=mpr w0 C T g d:=by
 intro d f g h
 unfold mpr
 split
 ·rfl
 ·rfl
 ·rfl
 ·rw[h 2 AP]
 ·rw[h 2 AP]
 ·rw[h 2 AP]
 ·rw[h 2 AP]
 ·rfl
theorem lW (w:World) (M:aV) (h:M.At w):Calls Tryz.prog 15 #[.agg (cM M)] w fun e w'=>∃a' c',e= .returned (.tuple #[.slice a' (iZ M).length c', .int .i64 (kW M)])∧Mine w.heap.size w' a' (iZ M) c'∧Below w.heap.size w w':=by
 obtain⟨C,hC⟩:=AU (cM M)
 obtain⟨w0,hw0⟩:=AV (w.alloc (.cells C 55))
 have B0:Below w.heap.size w w0:=by rw[hw0];exact(Below.refl _ w).alloc (Nat.le_refl _) _
 have hI:eY w0 w.heap.size M:=by rw[hw0,hC.o];exact eY.new w h
 have HI0:=AQ hI
 have HB0:=AQ B0
 have HM:=AQ (h.stay B0)
 have hc:=jM w0 M (h.stay B0)
 obtain⟨k,hk⟩:=AU (jK M)
 rw[←hk.o,←hC.o] at hc
 have HC:=AQ hc
 have hm:=hI.whole
 rw[←hC.o] at hm
 have HL:=AQ hm
 obtain⟨Y,hY⟩:=AU (iZ M)
 obtain⟨E,hE⟩:=AU (kW M)
 rw[←hC.o,←hY.o,←hE.o]
 clear hc hm hI h B0
 go_enter Tryz.func15,Tryz.ntmps15
 go_upto_region 1 with fail
 rw[←hw0]
 clear hw0
 go_wp2_with ((with_reducible refine aN (o:=⟨some 4, .load 55 (.tmp 1),_,_,_,_⟩) AA AA AA HL.o ?_))
 refine(HC.o).mono ?_
 rintro e w1 ⟨rfl,hb1⟩
 have HB1:=AQ (HB0.o.trans (hb1.mono HB0.o.size))
 have hI:=AQ (HI0.o.keep hb1)
 have HM1:=AQ (HM.o.stay hb1)
 clear HL HC HI0 HM hb1
 cases k with
 |
  false=>
  have hn:=sJ hk.o.symm
  rw[←hY.o,←hE.o] at hn
  obtain⟨rfl,rfl⟩:=hn
  go_wp2_with fail
  go_ret2
  exact⟨none,0,rfl,Mine.nil _ _,HB1.o⟩
 |
  true=>
  have HCN:Hid (jK M=true):=hk.o.symm
  have HH:Hid (∀wx,Below w1.heap.size w1 wx→Calls Tryz.prog 47 #[.agg C] wx (JQ wx (headB M))):=fun wx hb=>by rw[hC.o];exact Ak wx M (HM1.o.stay hb) HCN.o
  obtain⟨T,hT⟩:=AU ((M.tag.map vb).toArray)
  have C1:∀q:After w1,(Instr.loadAt 53 (.pointer (some ⟨w.heap.size,37,none⟩))).run Tryz.prog q.to= .ok (.agg T) q.to:=fun q=>by rw[hT.o];exact(hI.o.keep q.bel).tag
  have C5:∀q:After w1,(Instr.loadAt 55 (.pointer (some ⟨w.heap.size,0,none⟩))).run Tryz.prog q.to= .ok (.agg C) q.to:=fun q=>by rw[hC.o];exact(hI.o.keep q.bel).whole
  have HRM:Hid ((headB M).length+ [M.tag].flatten.length≤65536):=by
   have:=mW hI.o.p32 (jF HCN.o)
   have h2:=hI.o.t32
   rw[Hid];simp only[List.flatten_cons,List.flatten_nil,List.append_nil];omega
  have WT:Hid (∀vs wx,kF w1 (headB M) [M.tag] vs wx→2<vs.length→∃A B,oq vs 2= .tuple #[A,B]):=fun vs wx hst hl=>by
   obtain⟨a,X,c,h1,_⟩:=hst.told (k:=2) rfl hl
   exact⟨_,_,h1⟩
  go_upto_region 3 with fail
  refine qo (mpr w.heap.size C T) SX (UN w.heap.size C T) [1] [1,4,5] (kF w1 (headB M) [M.tag]) AB AB AB AB ⟨rfl,trivial⟩ (Rk w.heap.size C T) (kF.start _ _ _) ?_ ?_
  ·repeat' (first |exact aU |refine aI ?_ ?_)
   all_goals intro av vs hk
   ·exact⟨ah rfl, .inr ⟨by decide,fun s1 s2 hle wx hst=>bg (.tmp 1) rfl (hk.o 1) (v:=(.agg C)) ((fun (q:After _)=>C5 q) ⟨wx,hst.bel⟩) ⟨hst,rfl⟩⟩⟩
   ·refine⟨ah rfl, .inl ⟨0,rfl,fun hvs wx hst=> ?_⟩⟩
    refine bJ rfl (hk.fn _) #[.agg C] (fun w=>AB) (by simp only[List.map_toArray,List.map_cons,List.map_nil,(show av.eval (.tmp 7)=(.agg C) from hk.s 7)]) (hst.begins hvs (HH.o wx hst.bel))
   ·exact⟨ah rfl, .inr ⟨by decide,fun s1 s2 hle wx hst=>bF (.tmp 1) rfl (hk.o 1) (v:=(.pointer (some ⟨w.heap.size,37,none⟩))) (fun w=>AB) ⟨hst,rfl⟩⟩⟩
   ·exact⟨ah rfl, .inr ⟨by decide,fun s1 s2 hle wx hst=>bg (.tmp 9) rfl (hk.s 9) (v:=(.agg T)) ((fun (q:After _)=>C1 q) ⟨wx,hst.bel⟩) ⟨hst,rfl⟩⟩⟩
   ·refine⟨ah rfl, .inl ⟨1,rfl,fun hvs wx hst=> ?_⟩⟩
    refine bJ rfl (hk.fn _) #[oq vs 0, .agg T] (fun w=>AB) (by simp only[List.map_toArray,List.map_cons,List.map_nil,(show av.eval (.tmp 8)=oq vs 0 from(hk.line 0 8 AB AB).2),(show av.eval (.tmp 10)=(.agg T) from hk.s 10)]) (hst.step (k:=0) hvs (m:=M.tag) rfl HRM.o (fun v=> #[v, .agg T]) (fun b a X c hw hb9 hr=>by rw[hT.o];exact zG hw hb9 _ hI.o.t32 (by have:=hI.o.t32;omega)))
   ·refine⟨ah rfl, .inl ⟨2,rfl,fun hvs wx hst=> ?_⟩⟩
    refine bJ rfl (hk.fn _) #[oq vs 1] (fun w=>AB) (by simp only[List.map_toArray,List.map_cons,List.map_nil,(show av.eval (.tmp 11)=oq vs 1 from(hk.line 1 11 AB AB).2)]) (hst.finish (k:=1) rfl hvs)
   ·exact⟨ah rfl, .inr ⟨by decide,fun s1 s2 hle wx hst=>xE rfl (show av.eval (.tmp 12)=oq vs 2 from(hk.line 2 12 AB AB).2) AP (WT.o vs wx hst (s1 2 5 rfl AB)) ⟨hst,rfl⟩⟩⟩
   ·exact⟨ah rfl, .inr ⟨by decide,fun s1 s2 hle wx hst=>xE rfl (show av.eval (.tmp 12)=oq vs 2 from(hk.line 2 12 AB AB).2) AP (WT.o vs wx hst (s1 2 5 rfl AB)) ⟨hst,rfl⟩⟩⟩
   ·exact⟨ah rfl, .inr ⟨by decide,fun s1 s2 hle wx hst=>mQ (.tmp 13) rfl ⟨hst,(hk.s 13)⟩⟩⟩
   ·exact⟨ah rfl, .inr ⟨by decide,fun s1 s2 hle wx hst=>mQ (.tmp 14) rfl ⟨hst,(hk.s 14)⟩⟩⟩
  intro av vs w2 hlen9 hfin hsame hall hline
  have he:=dn hsame [7,8,9,10,11,12,13,14,2,3] AB
  simp only[List.foldl_cons,List.foldl_nil] at he
  rw[show av.eval (.tmp 2)=(Gq 0 (oq vs 2)) from hall 2 AB AB,show av.eval (.tmp 3)=(Gq 1 (oq vs 2)) from hall 3 AB AB] at he
  generalize av.eval (.tmp 7)=y7 at he
  generalize av.eval (.tmp 8)=y8 at he
  generalize av.eval (.tmp 9)=y9 at he
  generalize av.eval (.tmp 10)=y10 at he
  generalize av.eval (.tmp 11)=y11 at he
  generalize av.eval (.tmp 12)=y12 at he
  generalize av.eval (.tmp 13)=y13 at he
  generalize av.eval (.tmp 14)=y14 at he
  simp only[fV] at he
  dsimp only[List.set_cons_zero,List.set_cons_succ] at he
  subst he
  clear hsame hall hline
  obtain⟨a,X,c,hv,hX,hW,hb2⟩:=hfin.told (k:=2) rfl (by rw[hlen9];decide)
  rw[hv]
  have hn:=rY HCN.o
  rw[←hY.o,←hE.o] at hn
  have hXY:X=Y:=by rw[hX.o,hn.1];simp
  subst hXY
  go_wp2_with fail
  go_ret2
  exact⟨a,c,by rw[hn.2];rfl,hW.low HB1.o.size,HB1.o.trans (hb2.mono HB1.o.size)⟩
open Go Go.RowKit Go.Cit
def Jk:List UInt8:=[109,97,110,105,102,101,115,116]
def vN (key:List UInt8) (M:aV):List UInt8:=Aq (yG key Jk []) (headB M)
theorem Ot (w:World):Ints w none [] 0:=⟨Nat.le_refl _,by decide,fun h=>absurd rfl h,fun i h=>by simp at h,fun i h=>by simp at h⟩
theorem ru (k s:List UInt8) (zs:List Int):(yG k s zs).length=32:=sD _ _
theorem wK (key:List UInt8) (M:aV):(vN key M).length=32:=sD _ _
theorem Aj (w:World) (a:Option Addr) (key:List UInt8) (c:Nat) (hk:Row w a key c) (hkl:key.length≤100000) (M:aV) (h:M.At w) (hcan:jK M=true):Calls Tryz.prog 80 #[.slice a key.length c, .agg (cM M)] w fun e w'=>e= .returned (.agg ((vN key M).map vb).toArray)∧Below w.heap.size w w':=by
 have HZ:=AQ (bP aH rfl)
 have HA:=AQ (fun ρ d ty ps af w=>jO ρ d ty ps (af:=af) w)
 obtain⟨Z,hZ⟩:=AU ((aH.map vb).toArray)
 rw[←hZ.o] at HZ HA
 obtain⟨C,hC⟩:=AU (cM M)
 obtain⟨w0,hw0⟩:=AV ((w.alloc (.cells C 55)).alloc (.cells Z 53))
 have B1:Below (w.alloc (.cells C 55)).heap.size (w.alloc (.cells C 55)) w0:=by rw[hw0];exact(Below.refl _ _).alloc (Nat.le_refl _) _
 have B0:Below w.heap.size w w0:=((Below.refl _ w).alloc (Nat.le_refl _) _).trans (B1.mono AO)
 have hI:eY w0 w.heap.size M:=by rw[hC.o] at B1;exact(eY.new w h).keep B1
 obtain⟨g,hg⟩:=AV (w.heap.size+1)
 have hgb:w0.heap[g]? =some (.cells Z 53 (0,0)):=by
  rw[hw0,hg];have:=heap_alloc_new (w.alloc (.cells C 55)) (.cells Z 53);simpa using this
 have hgw:w.heap.size≤g:=by omega
 have HGW:=AQ hgw
 have HG:=AQ hgb
 have hm:=hI.whole
 rw[←hC.o] at hm
 have HL:=AQ hm
 have HB0:=AQ B0
 have HK:=AQ (hk.stay B0)
 have hh:=Ak w0 M (h.stay B0) hcan
 rw[←hC.o] at hh
 have HH:=AQ hh
 have HHL:=AQ (mW h.p32 (jF hcan))
 obtain⟨F,hF⟩:=AU (headB M)
 rw[←hF.o] at HH
 obtain⟨R,hR⟩:=AU (vN key M)
 rw[←hR.o,←hC.o]
 obtain⟨n,hn⟩:=AU key.length
 rw[←hn.o]
 have HNK:Hid (key.length=n):=hn.o.symm
 clear hgb hgw hI hm h B0 B1 hk hh hcan
 go_enter Tryz.func80,Tryz.ntmps80
 go_upto_region 1 with ((with_reducible refine aj (o:=⟨some 4, .alloc _,_,_,_,_⟩) AA (HA.o _ _ _ _ _ _) ?_))
 rw[←hw0,show(w.alloc (.cells C 55)).heap.size=g by rw[hg];simp]
 have HG1:=AQ hg
 clear hw0 hg
 go_wp2_with ((with_reducible refine aN (o:=⟨some 8, .load 55 (.tmp 3),_,_,_,_⟩) AA AA AA HL.o ?_))
 refine(HH.o).mono ?_
 rintro e w1 ⟨b,ab,X,cb,hX,rfl,hW,hb1⟩
 have HB1:=AQ hb1
 have HD:=AQ (uf hW)
 clear HL HH hW hb1
 go_wp2_with fail
 refine(HD.o).mono ?_
 rintro e w2 ⟨a2,X2,c2,hX2,rfl,hM2,hb2⟩
 have HB2:=AQ (HB1.o.trans (hb2.mono HB1.o.size))
 have HM2:=AQ hM2.row
 obtain rfl:X2=X:=hX2.o
 have hdr:=ER w2 a key c (HK.o.stay HB2.o) AL Jk AP none [] 0 (Ot w2) AP
 rw[HNK.o] at hdr
 have HDR:=AQ hdr
 clear HD hM2 hb2 hdr
 go_wp2_with fail
 refine(HDR.o).mono ?_
 rintro e w3 ⟨g3,rfl,hg3,hA3,hb3⟩
 have HB3:=AQ (HB2.o.trans (hb3.mono HB2.o.size))
 have hrr:=hA3.row (by rw[ru];decide)
 have HHS:Hid (Calls Tryz.prog 164 #[.slice (some ⟨g3,0,none⟩) 32 32, .slice a2 X2.length c2] w3 fun e w'=>e= .returned (.agg (R.map vb).toArray)∧Below w3.heap.size w3 w'):=by
  have:=zK w3 _ _ _ hrr (by rw[ru];decide) a2 X2 c2 (HM2.o.stay hb3) (by rw[hX.o,hF.o];have:=HHL.o;omega)
  rw[ru] at this
  rw[hR.o,vN,←hF.o,←hX.o]
  exact this
 have HR32:Hid (R.length=32):=by rw[Hid,hR.o];exact wK _ _
 clear HDR hrr hA3 hb3 hg3
 go_wp2_with fail
 refine(HHS.o).mono ?_
 rintro e w4 ⟨rfl,hb4⟩
 have HB4:=AQ (HB3.o.trans (hb4.mono HB3.o.size))
 have HG4:=AQ (aG HG.o HB4.o)
 have HT:=AQ (bP R HR32.o)
 obtain⟨T,hT⟩:=AU ((R.map vb).toArray)
 rw[←hT.o] at HT
 rw[←hT.o]
 clear HHS hb4
 go_wp2_with ((with_reducible refine ay (o:=⟨none, .store _ (.tmp 4) (.tmp 16),_,_,_,_⟩) dP (.tmp 4) (.tmp 16) AA AA AA AA AA HG4.o HZ.o.1 HT.o.1 HT.o.2 ?_);intro w5 hbw5 hSw5;have HBw5:=AQ hbw5;have HSw5:=AQ hSw5;clear hbw5 hSw5)
 have HBB:=AQ (HB0.o.trans (HB4.o.mono HB0.o.size))
 refine bodyPost_ret (ig dP rfl rfl HBw5.o HT.o.1) rfl ⟨by rw[hT.o], ?_⟩
 exact HBB.o.trans (HSw5.o.below HBB.o.size (fun k hk=>by have:=HGW.o;omega))
def ji (M:aV):List UInt8:=if jK M then jX (headB M++M.tag) else aH
theorem kK (M:aV):(ji M).length=32:=by
 unfold ji
 split
 ·exact gZ _
 ·rfl
theorem Nz (ρ:Operand→Value) (d:Option Tmp) (ty:TypeId) (ps:String) {af} (w:World):
 (execOp ρ {dst:=d,op:=Op.build 53 #[],type:=ty,pos:=ps,after:=af,guard:=none}).run Tryz.prog w= .ok (.value (.agg (aH.map vb).toArray)) w:=by
 kernel_rfl
theorem qX (w:World) (M:aV) (h:M.At w):Calls Tryz.prog 18 #[.agg (cM M)] w fun e w'=>e= .returned (.agg ((ji M).map vb).toArray)∧Below w.heap.size w w':=by
 have HZ:=AQ (bP aH rfl)
 have HA:=AQ (fun ρ d ty ps af w=>jO ρ d ty ps (af:=af) w)
 have HZT:=AQ (fun ρ d ty ps af w=>Nz ρ d ty ps (af:=af) w)
 obtain⟨Z,hZ⟩:=AU ((aH.map vb).toArray)
 rw[←hZ.o] at HZ HA HZT
 obtain⟨C,hC⟩:=AU (cM M)
 obtain⟨w0,hw0⟩:=AV ((w.alloc (.cells C 55)).alloc (.cells Z 53))
 have B1:Below (w.alloc (.cells C 55)).heap.size (w.alloc (.cells C 55)) w0:=by rw[hw0];exact(Below.refl _ _).alloc (Nat.le_refl _) _
 have B0:Below w.heap.size w w0:=((Below.refl _ w).alloc (Nat.le_refl _) _).trans (B1.mono AO)
 have hI:eY w0 w.heap.size M:=by rw[hC.o] at B1;exact(eY.new w h).keep B1
 obtain⟨g,hg⟩:=AV (w.heap.size+1)
 have hgb:w0.heap[g]? =some (.cells Z 53 (0,0)):=by
  rw[hw0,hg];have:=heap_alloc_new (w.alloc (.cells C 55)) (.cells Z 53);simpa using this
 have hgw:w.heap.size≤g:=by omega
 have HGW:=AQ hgw
 have HG:=AQ hgb
 have hm:=hI.whole
 rw[←hC.o] at hm
 have HL:=AQ hm
 have HB0:=AQ B0
 have hp:=lW w0 M (h.stay B0)
 have HPL:=AQ (zo h.p32 h.t32)
 obtain⟨F,hF⟩:=AU (iZ M)
 obtain⟨E,hE⟩:=AU (kW M)
 rw[←hF.o,←hE.o,←hC.o] at hp
 have HP:=AQ hp
 obtain⟨k,hk⟩:=AU (jK M)
 obtain⟨R,hR⟩:=AU (ji M)
 have HR32:Hid (R.length=32):=by rw[Hid,hR.o];exact kK _
 rw[←hR.o,←hC.o]
 clear hgb hgw hI hm h B0 B1 hp
 go_enter Tryz.func18,Tryz.ntmps18
 go_upto_region 1 with ((with_reducible refine aj (o:=⟨some 2, .alloc _,_,_,_,_⟩) AA (HA.o _ _ _ _ _ _) ?_))
 rw[←hw0,show(w.alloc (.cells C 55)).heap.size=g by rw[hg];simp]
 have HG1:=AQ hg
 clear hw0 hg
 go_wp2_with ((with_reducible refine aN (o:=⟨some 6, .load 55 (.tmp 1),_,_,_,_⟩) AA AA AA HL.o ?_))
 refine(HP.o).mono ?_
 rintro e w1 ⟨a1,c1,rfl,hM,hb1⟩
 have HB1:=AQ hb1
 have HM1:=AQ hM.row
 have HGA:=AQ (aG HG.o hb1)
 clear HL HP hM hb1
 cases k with
 |
  false=>
  have hn:=sJ hk.o.symm
  rw[←hE.o] at hn
  have e2:=hn.2
  subst e2
  have HRZ:Hid ((R.map vb).toArray=Z):=by rw[Hid,hR.o,ji,←hk.o,hZ.o];rfl
  clear hn
  go_wp2_with (first |((with_reducible refine aj (o:=⟨some 12, .build _ _,_,_,_,_⟩) AA (HZT.o _ _ _ _ _ _) ?_)) |((with_reducible refine ay (o:=⟨none, .store _ (.tmp 2) (.tmp 12),_,_,_,_⟩) dP (.tmp 2) (.tmp 12) AA AA AA AA AA HGA.o HZ.o.1 HZ.o.1 HZ.o.2 ?_);intro w5 hbw5 hSw5;have HBw5:=AQ hbw5;have HSw5:=AQ hSw5;clear hbw5 hSw5))
  have HBB:=AQ (HB0.o.trans (HB1.o.mono HB0.o.size))
  refine bodyPost_ret (ig dP rfl rfl HBw5.o HZ.o.1) rfl ⟨by rw[HRZ.o], ?_⟩
  exact HBB.o.trans (HSw5.o.below HBB.o.size (fun k hk=>by have:=HGW.o;omega))
 |
  true=>
  have hn:=rY hk.o.symm
  rw[←hE.o] at hn
  have e2:=hn.2
  subst e2
  have HS:Hid (Calls Tryz.prog 52 #[.slice a1 F.length c1] w1 fun e w'=>e= .returned (.agg (R.map vb).toArray)∧Below w1.heap.size w1 w'):=by
   have:=rO w1 a1 F c1 HM1.o (by rw[hF.o];have:=HPL.o;omega)
   rw[hR.o,ji,←hk.o,if_pos rfl,←hn.1,←hF.o]
   exact this
  clear hn
  go_wp2_with fail
  refine(HS.o).mono ?_
  rintro e w2 ⟨rfl,hb2⟩
  have HB2:=AQ (HB1.o.trans (hb2.mono HB1.o.size))
  have HGB:=AQ (aG HG.o HB2.o)
  have HT:=AQ (bP R HR32.o)
  obtain⟨T,hT⟩:=AU ((R.map vb).toArray)
  rw[←hT.o] at HT
  rw[←hT.o]
  clear HS hb2
  go_wp2_with ((with_reducible refine ay (o:=⟨none, .store _ (.tmp 2) (.tmp 14),_,_,_,_⟩) dP (.tmp 2) (.tmp 14) AA AA AA AA AA HGB.o HZ.o.1 HT.o.1 HT.o.2 ?_);intro w5 hbw5 hSw5;have HBw5:=AQ hbw5;have HSw5:=AQ hSw5;clear hbw5 hSw5)
  have HBB:=AQ (HB0.o.trans (HB2.o.mono HB0.o.size))
  refine bodyPost_ret (ig dP rfl rfl HBw5.o HT.o.1) rfl ⟨by rw[hT.o], ?_⟩
  exact HBB.o.trans (HSw5.o.below HBB.o.size (fun k hk=>by have:=HGW.o;omega))
open Go Go.RowKit Go.Cit
def yU (K:oZ):Bool:=(((decide (1≤K.ver.1) && decide (K.ver.1≤1099511627776)) && decide (1≤K.trial.1)) && decide (K.trial.1≤8)) && FZ K.cfg
def DR (K:Bq):List UInt8:=if FZ K then Pz K else []
def Fp (K:oZ):List UInt8:=[int8 K.ver.1,K.prev,int8 K.trial.1,kC (DR K.cfg)].flatten
def l9 (K:oZ):List UInt8:=if yU K then Fp K++K.tag else []
def J7 (key:List UInt8) (K:oZ):List UInt8:=Aq (yG key Jk []) (Fp K)
def pK (K:oZ):List UInt8:=if yU K then jX (Fp K++K.tag) else aH
def oG (key:List UInt8) (K:oZ):oZ:= {K with tag:=if yU K then J7 key K else K.tag}
def wF (key:List UInt8) (K:oZ):Bool:=yU K && decide (J7 key K=K.tag)
theorem Ip (V:aO):jC V=DR V.cfg:=by unfold jC DR;rw[jE,Lp]
theorem iE (M:aV):jK M=yU M.man:=by unfold jK yU;rw[jE];rfl
theorem wQ (M:aV):headB M=Fp M.man:=by unfold headB FP Fp;rw[Ip];rfl
theorem Dp (key:List UInt8) (M:aV):vN key M=J7 key M.man:=by unfold vN J7;rw[wQ]
theorem nN (M:aV):ji M=pK M.man:=by unfold ji pK;rw[iE,wQ];rfl
theorem nP (M:aV):iZ M=l9 M.man:=by unfold iZ l9;rw[iE,wQ];rfl
theorem xR (M:aV):kW M=if yU M.man then 0 else 2:=by unfold kW;rw[iE]
theorem Ku {M:aV} {U:aO} (h:U.cfg=M.cfg.cfg):({M with cfg:=U}:aV).man=M.man:=by unfold aV.man;rw[h]
def zM:aV:=⟨⟨0,by decide⟩,aH,⟨0,by decide⟩,vZ,aH⟩
theorem gV (ρ:Operand→Value) (d:Option Tmp) (ty:TypeId) (ps:String) {af} (w:World):
 (execOp ρ {dst:=d,op:=Op.alloc 55,type:=ty,pos:=ps,after:=af,guard:=none}).run Tryz.prog w= .ok (.value (.pointer (some ⟨w.heap.size,0,none⟩))) (w.alloc (.cells (cM zM) 55)):=by
 kernel_rfl
theorem wW (ρ:Operand→Value) (d:Option Tmp) (ty:TypeId) (ps:String) {af} (w:World):
 (execOp ρ {dst:=d,op:=Op.build 55 #[],type:=ty,pos:=ps,after:=af,guard:=none}).run Tryz.prog w= .ok (.value (.agg (cM zM))) w:=by
 kernel_rfl
theorem bV.lg {B:Nat} {S:Nat→Prop} {w w':World} {V:aO} (h:bV B w V) (hs:Save S w w') (hS:∀k,B≤k→S k):bV B w' V:=by
 have s:∀ {E:TypeId} {g:Nat},B≤g→(∃cs,w.heap[g]? =some (.cells cs E (0,0)))→∃cs,w'.heap[g]? =some (.cells cs E (0,0)):=by
  rintro E g hB ⟨cs,hg⟩
  exact⟨cs,(hs.block g (Array.getElem?_eq_some_iff.1 hg).1 (hS g hB)).trans hg⟩
 exact⟨h.win.save dW hs (fun _ j hj=>hS j (h.wb j hj).1),h.pts.save dY hs (fun _ j hj=>hS j (h.pb j hj).1),h.kL.save gK hs (fun _ j hj=>hS j (h.cb j hj).1),
  fun g hg=>⟨(h.wb g hg).1,s (h.wb g hg).1 (h.wb g hg).2⟩,fun g hg=>⟨(h.pb g hg).1,s (h.pb g hg).1 (h.pb g hg).2⟩,fun g hg=>⟨(h.cb g hg).1,s (h.cb g hg).1 (h.cb g hg).2⟩,fun x hx=>(h.img x hx).save hs (fun j hj=>hS j (((h.img x hx).aK hj).1))⟩
theorem DL (U:aO):(cU U).all (·.oneCell')=true:=by simp[cU,Value.oneCell']
def Vk (B:Nat) (C T1 T2:Array Value) (ak:Option Addr) (n c:Nat) (k s:Bool):Nat→Value
 | 5=>(.agg C)
 | 6=>(.bool k)
 | 7=>(.bool k)
 | 8=>(bif k then (.slice ak n c) else undef)
 | 9=>(bif k then (.agg C) else undef)
 | 10=>(bif k then (.agg T1) else undef)
 | 11=>(bif k then (.pointer (some ⟨B,37,none⟩)) else undef)
 | 12=>(bif k then (.agg T2) else undef)
 | 13=>(bif k then (.bool s) else undef)
 | 14=>(.bool (k && s))
 | 4=>(.bool (k && s))
 | _=>undef
def U3 (B:Nat) (_ _ _:Array Value) (ak:Option Addr) (n c:Nat) (_ _:Bool):Nat→Value
 | 0=>(.slice ak n c)
 | 3=>(.pointer (some ⟨B,0,none⟩))
 | _=>undef
theorem uV (w:World) (ak:Option Addr) (key:List UInt8) (c:Nat) (hk:Row w ak key c) (hkl:key.length≤100000) (M:aV) (h:M.At w):Calls Tryz.prog 29 #[.slice ak key.length c, .agg (cM M)] w fun e w'=>e= .returned (.bool (wF key M.man))∧Below w.heap.size w w':=by
 obtain⟨C,hC⟩:=AU (cM M)
 obtain⟨w0,hw0⟩:=AV (w.alloc (.cells C 55))
 have B0:Below w.heap.size w w0:=by rw[hw0];exact(Below.refl _ w).alloc (Nat.le_refl _) _
 have hI:eY w0 w.heap.size M:=by rw[hw0,hC.o];exact eY.new w h
 have HI0:=AQ hI
 have HB0:=AQ B0
 have HM:=AQ (h.stay B0)
 have HK:=AQ (hk.stay B0)
 obtain⟨k,hkk⟩:=AU (jK M)
 obtain⟨s,hss⟩:=AU (decide (vN key M=M.tag))
 obtain⟨R,hR⟩:=AU (wF key M.man)
 have HR:Hid (R=(k && s)):=by rw[Hid,hR.o,wF,←iE,←Dp,hkk.o,hss.o];rfl
 obtain⟨n,hn⟩:=AU key.length
 obtain⟨T1,hT1⟩:=AU (((vN key M).map vb).toArray)
 obtain⟨T2,hT2⟩:=AU ((M.tag.map vb).toArray)
 have HC:Hid (∀q:After w0,Calls Tryz.prog 17 #[.agg C] q.to fun e w'=>e= .returned (.bool k)∧Below q.to.heap.size q.to w'):=fun q=>by rw[hC.o,hkk.o];exact jM q.to M (HM.o.stay q.bel)
 have HT1:Hid (∀q:After w0,k=true→Calls Tryz.prog 80 #[.slice ak n c, .agg C] q.to fun e w'=>e= .returned (.agg T1)∧Below q.to.heap.size q.to w'):=fun q hk1=>by rw[hC.o,hT1.o,hn.o];exact Aj q.to ak key c (HK.o.stay q.bel) hkl M (HM.o.stay q.bel) (by rw[←hkk.o];exact hk1)
 have HSM:Hid (∀q:After w0,Calls Tryz.prog 81 #[.agg T1, .agg T2] q.to fun e w'=>e= .returned (.bool s)∧Below q.to.heap.size q.to w'):=fun q=>by rw[hT1.o,hT2.o,hss.o];exact Gn q.to _ _ (wK _ _) HI0.o.t32
 have C1:∀q:After w0,(Instr.loadAt 53 (.pointer (some ⟨w.heap.size,37,none⟩))).run Tryz.prog q.to= .ok (.agg T2) q.to:=fun q=>by rw[hT2.o];exact(HI0.o.keep q.bel).tag
 have C5:∀q:After w0,(Instr.loadAt 55 (.pointer (some ⟨w.heap.size,0,none⟩))).run Tryz.prog q.to= .ok (.agg C) q.to:=fun q=>by rw[hC.o];exact(HI0.o.keep q.bel).whole
 rw[←hC.o,←hR.o,←hn.o]
 clear hI h B0 hk
 go_enter Tryz.func29,Tryz.ntmps29
 go_upto_region 1 with fail
 rw[←hw0]
 clear hw0
 refine ni (Vk w.heap.size C T1 T2 ak n c k s) (U3 w.heap.size C T1 T2 ak n c k s) [0,3] AB AB AB ⟨rfl,rfl,trivial⟩ ?_ ?_
 ·repeat' (first |exact aU |refine aI ?_ ?_)
  all_goals intro a hk
  ·
   exact .inl ⟨ah rfl,dG (.tmp 3) rfl (hk.o 3) (v:=(.agg C)) (fun q=>C5 q) rfl⟩
  ·
   exact .inl ⟨ah rfl,iD rfl rfl #[(.agg C)] (fun w=>AB) (by simp only[List.map_toArray,List.map_cons,List.map_nil,(show a.eval (.tmp 5)=(.agg C) from hk.s 5)]) (v:=(.bool k)) (fun q=>HC.o q) rfl⟩
  ·
   exact .inl ⟨ah rfl,bZ (.tmp 6) rfl (hk.s 6)⟩
  ·
   cases k<;>first |exact hk.no 7 true |skip
   exact .inl ⟨hk.yes 7 true,bZ (.tmp 0) rfl (hk.o 0)⟩
  ·
   cases k<;>first |exact hk.no 7 true |skip
   exact .inl ⟨hk.yes 7 true,dG (.tmp 3) rfl (hk.o 3) (v:=(.agg C)) (fun q=>C5 q) rfl⟩
  ·
   cases k<;>first |exact hk.no 7 true |skip
   exact .inl ⟨hk.yes 7 true,iD rfl rfl #[(.slice ak n c),(.agg C)] (fun w=>AB) (by simp only[List.map_toArray,List.map_cons,List.map_nil,(show a.eval (.tmp 8)=(.slice ak n c) from hk.s 8),(show a.eval (.tmp 9)=(.agg C) from hk.s 9)]) (v:=(.agg T1)) (fun q=>HT1.o q rfl) rfl⟩
  ·
   cases k<;>first |exact hk.no 7 true |skip
   exact .inl ⟨hk.yes 7 true,eP (.tmp 3) rfl (hk.o 3) (v:=(.pointer (some ⟨w.heap.size,37,none⟩))) (fun w=>AB) rfl⟩
  ·
   cases k<;>first |exact hk.no 7 true |skip
   exact .inl ⟨hk.yes 7 true,dG (.tmp 11) rfl (hk.s 11) (v:=(.agg T2)) (fun q=>C1 q) rfl⟩
  ·
   cases k<;>first |exact hk.no 7 true |skip
   exact .inl ⟨hk.yes 7 true,iD rfl rfl #[(.agg T1),(.agg T2)] (fun w=>AB) (by simp only[List.map_toArray,List.map_cons,List.map_nil,(show a.eval (.tmp 10)=(.agg T1) from hk.s 10),(show a.eval (.tmp 12)=(.agg T2) from hk.s 12)]) (v:=(.bool s)) (fun q=>HSM.o q) rfl⟩
  ·
   cases k with
   |
    true=>
    exact .inl ⟨ah rfl,aT rfl true (hk.s 7) (hk.s 13)⟩
   |
    false=>
    exact .inl ⟨ah rfl,aT rfl false (hk.s 7) rfl⟩
  ·
   exact .inl ⟨ah rfl,nH (.tmp 14) rfl (hk.s 14)⟩
 intro a ⟨w3,hb3⟩ hsame hall
 have he:=dn hsame [5,6,7,8,9,10,11,12,13,14,4] AB
 simp only[List.foldl_cons,List.foldl_nil] at he
 rw[show a.eval (.tmp 4)=(.bool (k && s)) from hall 4 AB] at he
 generalize a.eval (.tmp 5)=x5 at he
 generalize a.eval (.tmp 6)=x6 at he
 generalize a.eval (.tmp 7)=x7 at he
 generalize a.eval (.tmp 8)=x8 at he
 generalize a.eval (.tmp 9)=x9 at he
 generalize a.eval (.tmp 10)=x10 at he
 generalize a.eval (.tmp 11)=x11 at he
 generalize a.eval (.tmp 12)=x12 at he
 generalize a.eval (.tmp 13)=x13 at he
 generalize a.eval (.tmp 14)=x14 at he
 simp only[fV] at he
 dsimp only[List.set_cons_zero,List.set_cons_succ] at he
 subst he
 clear hsame hall
 go_wp2_with fail
 go_ret
 exact⟨aJ HR.o.symm,HB0.o.trans (hb3.mono HB0.o.size)⟩
theorem yh (w:World) (a:Option Addr) (key:List UInt8) (c:Nat) (hk:Row w a key c) (hkl:key.length≤100000) (M:aV) (h:M.At w) (hs:cu M.cfg):Calls Tryz.prog 28 #[.slice a key.length c, .agg (cM M)] w fun e w'=>∃S:aV,e= .returned (.agg (cM S))∧S.man=oG key M.man∧S.prev.length=32∧S.tag.length=32∧bV w.heap.size w' S.cfg∧Below w.heap.size w w':=by
 have HAM:=AQ (fun ρ d ty ps af w=>gV ρ d ty ps (af:=af) w)
 obtain⟨Z,hZ⟩:=AU (cM zM)
 rw[←hZ.o] at HAM
 obtain⟨C,hC⟩:=AU (cM M)
 obtain⟨w0,hw0⟩:=AV ((w.alloc (.cells C 55)).alloc (.cells Z 55))
 have B1:Below (w.alloc (.cells C 55)).heap.size (w.alloc (.cells C 55)) w0:=by rw[hw0];exact(Below.refl _ _).alloc (Nat.le_refl _) _
 have B0:Below w.heap.size w w0:=((Below.refl _ w).alloc (Nat.le_refl _) _).trans (B1.mono AO)
 have hI:eY w0 w.heap.size M:=by rw[hC.o] at B1;exact(eY.new w h).keep B1
 obtain⟨g,hg⟩:=AV (w.heap.size+1)
 have hgb:w0.heap[g]? =some (.cells Z 55 (0,0)):=by
  rw[hw0,hg];have:=heap_alloc_new (w.alloc (.cells C 55)) (.cells Z 55);simpa using this
 have HGW:Hid (g=w.heap.size+1):=hg
 have HG:=AQ hgb
 have HGS:Hid (w0.heap.size=w.heap.size+2):=by rw[Hid,hw0];simp
 have d0:=hI.d0
 have d1:=hI.d1
 have d2:=hI.d2
 have HI0:=AQ hI
 have HB0:=AQ B0
 have HK:=AQ hk
 have HP32:=AQ h.p32
 have HT32:=AQ h.t32
 have HCC:=AQ (xY w0 M.cfg (h.cfg.stay B0) hs)
 have f3:=OQ w.heap.size
 have f4:=Uy w.heap.size
 obtain⟨n,hn⟩:=AU key.length
 rw[←hC.o,←hn.o]
 clear hgb hI h B0 B1 hk hs
 go_enter Tryz.func28,Tryz.ntmps28
 go_upto_region 1 with ((with_reducible refine aj (o:=⟨some 4, .alloc _,_,_,_,_⟩) AA (HAM.o _ _ _ _ _ _) ?_))
 rw[←hw0,show(w.alloc (.cells C 55)).heap.size=g by rw[hg];simp]
 clear hw0 hg
 go_upto_region 1 with fail
 go_wp2_with fail
 refine(HCC.o).mono ?_
 rintro e w1 ⟨U,rfl,hU,hF,hb1⟩
 have HI1:=AQ (HI0.o.keep hb1)
 have HG1:=AQ (aG HG.o hb1)
 have HB1:=AQ (HB0.o.trans (hb1.mono HB0.o.size))
 have HF1:=AQ hF
 have HU:=AQ hU
 have HCU:Hid ((#[.slice U.wa U.ws.length U.wc, .slice U.pa U.ps.length U.pc, .slice U.ca U.cs.length U.cc]:Array Value).all (·.oneCell')=true):=DL U
 clear d0 d1 d2 HCC hU hF hb1 HG HI0 HB0
 go_upto_region 2 with ((with_reducible refine dO (o:=⟨none, .store _ (.tmp 8) (.tmp 7),_,_,_,_⟩) (C:=cM M) QL.info (.tmp 8) (.tmp 7) AA AA AA AA AA rfl HI1.o.blk (by rw[HI1.o.size];decide) HCU.o ?_);intro w2 hbw2 hSw2;have HBw2:=AQ hbw2;have HSw2:=AQ hSw2;clear hbw2 hSw2)
 obtain⟨M2,hM2⟩:∃M2:aV,Hid (M2= {M with cfg:=U}):=⟨_,rfl⟩
 have HI2:Hid (eY w2 w.heap.size M2):=by
  rw[Hid,hM2.o]
  refine⟨HBw2.o.trans ?_,HP32.o,HT32.o⟩
  rw[show lZ (cM M) 34 _=cM {M with cfg:=U} from yL HP32.o U]
 have hMM:M2.man=M.man:=by rw[hM2.o];exact Ku HU.o
 have HMM:=AQ hMM
 have hwg:w1.heap.size≤w2.heap.size:=HSw2.o.size
 have hg9:g<w1.heap.size:=(Array.getElem?_eq_some_iff.1 HG1.o).1
 have HG2:Hid (w2.heap[g]? =some (.cells Z 55 (0,0))):=(HSw2.o.block g hg9 (by have:=HGW.o;omega)).trans HG1.o
 have HB2:Hid (Below w.heap.size w w2):=HB1.o.trans (HSw2.o.below HB1.o.size (fun k hk=>by omega))
 have HF2:Hid (bV w0.heap.size w2 U):=HF1.o.lg HSw2.o (fun k hk=>by have:=HGS.o;omega)
 have HA2:Hid (M2.At w2):=⟨HI2.o.p32,HI2.o.t32,by rw[hM2.o];exact HF2.o.at⟩
 have HB0:Hid (w.heap.size≤w0.heap.size):=by have:=HGS.o;rw[Hid];omega
 obtain⟨C2,hC2⟩:=AU (cM M2)
 have hw:=HI2.o.whole
 rw[←hC2.o] at hw
 have HL2:=AQ hw
 obtain⟨k,hkk⟩:=AU (jK M2)
 have HCN:Hid (Calls Tryz.prog 17 #[.agg C2] w2 fun e w'=>e= .returned (.bool k)∧Below w2.heap.size w2 w'):=by rw[hC2.o,hkk.o];exact jM w2 M2 HA2.o
 clear hw hMM hwg hg9 HI1 HG1 HB1 HF1 HCU
 go_wp2_with ((with_reducible refine aN (o:=⟨some 9, .load 55 (.tmp 3),_,_,_,_⟩) AA AA AA HL2.o ?_))
 refine(HCN.o).mono ?_
 rintro e w3 ⟨rfl,hb3⟩
 have HI3:=AQ (HI2.o.keep hb3)
 have HG3:=AQ (aG HG2.o hb3)
 have HB3:=AQ (HB2.o.trans (hb3.mono HB2.o.size))
 have HF3:=AQ (HF2.o.stay hb3)
 have HA3:=AQ (HA2.o.stay hb3)
 have HZS:Hid (Z.size=69):=by rw[Hid,hZ.o];rfl
 clear hb3 HL2 HCN HG2 HB2 HF2 HA2 HI2
 cases k with
 |
  false=>
  have hw:=HI3.o.whole
  rw[←hC2.o] at hw
  have HL3:=AQ hw
  clear hw
  have HC2:Hid (C2.size=69∧C2.all (·.oneCell')=true):=by rw[hC2.o];exact⟨HI3.o.size,fP _⟩
  go_wp2_with (first |(with_reducible refine aN (o:=⟨some 15, .load 55 (.tmp 3),_,_,_,_⟩) AA AA AA HL3.o ?_) |((with_reducible refine ay (o:=⟨none, .store _ (.tmp 4) (.tmp 15),_,_,_,_⟩) iw (.tmp 4) (.tmp 15) AA AA AA AA AA HG3.o HZS.o HC2.o.1 HC2.o.2 ?_);intro w4 hbw4 hSw4;have HBw4:=AQ hbw4;have HSw4:=AQ hSw4;clear hbw4 hSw4))
  refine bodyPost_ret (ig iw rfl rfl HBw4.o HC2.o.1) rfl ⟨M2,by rw[hC2.o], ?_,HI3.o.p32,HI3.o.t32, ?_, ?_⟩
  ·rw[HMM.o,oG,←HMM.o,←iE,←hkk.o];rfl
  ·have:=HF3.o.lg HSw4.o (fun k hk=>by have:=HGW.o;have:=HGS.o;omega)
   rw[hM2.o];exact this.low HB0.o
  ·exact HB3.o.trans (HSw4.o.below HB3.o.size (fun k hk=>by have:=HGW.o;omega))
 |
  true=>
  have hw:=HI3.o.whole
  rw[←hC2.o] at hw
  have HL3:=AQ hw
  obtain⟨R,hR⟩:=AU (vN key M2)
  have HR32:Hid (R.length=32):=by rw[Hid,hR.o];exact wK _ _
  obtain⟨T,hT⟩:=AU ((R.map vb).toArray)
  have HTG:Hid (Calls Tryz.prog 80 #[.slice a n c, .agg C2] w3 fun e w'=>e= .returned (.agg T)∧Below w3.heap.size w3 w'):=by rw[hC2.o,hT.o,hR.o,hn.o];exact Aj w3 a key c (HK.o.stay HB3.o) hkl M2 HA3.o hkk.o.symm
  clear hw
  go_wp2_with ((with_reducible refine aN (o:=⟨some 12, .load 55 (.tmp 3),_,_,_,_⟩) AA AA AA HL3.o ?_))
  refine(HTG.o).mono ?_
  rintro e w4 ⟨rfl,hb4⟩
  have HI4:=AQ (HI3.o.keep hb4)
  have HG4:=AQ (aG HG3.o hb4)
  have HB4:=AQ (HB3.o.trans (hb4.mono HB3.o.size))
  have HF4:=AQ (HF3.o.stay hb4)
  have HTC:Hid (T.size=32∧T.all (·.oneCell')=true):=by rw[hT.o];exact bP R HR32.o
  clear hb4 HL3 HTG HI3 HG3 HB3 HF3 HA3
  go_upto_region 4 with ((with_reducible refine dO (o:=⟨none, .store _ (.tmp 14) (.tmp 13),_,_,_,_⟩) (C:=cM M2) dP.info (.tmp 14) (.tmp 13) AA AA AA AA AA HTC.o.1 HI4.o.blk (by rw[HI4.o.size];decide) HTC.o.2 ?_);intro w5 hbw5 hSw5;have HBw5:=AQ hbw5;have HSw5:=AQ hSw5;clear hbw5 hSw5)
  obtain⟨M3,hM3⟩:∃M3:aV,Hid (M3= {M2 with tag:=R}):=⟨_,rfl⟩
  have HI5:Hid (eY w5 w.heap.size M3):=by
   rw[Hid,hM3.o]
   refine⟨HBw5.o.trans ?_,HI4.o.p32,HR32.o⟩
   rw[hT.o,show lZ (cM M2) 37 _=cM {M2 with tag:=R} from EX HI4.o.p32 HI4.o.t32 HR32.o]
  have hg9:g<w4.heap.size:=(Array.getElem?_eq_some_iff.1 HG4.o).1
  have HG5:Hid (w5.heap[g]? =some (.cells Z 55 (0,0))):=(HSw5.o.block g hg9 (by have:=HGW.o;omega)).trans HG4.o
  have HB5:Hid (Below w.heap.size w w5):=HB4.o.trans (HSw5.o.below HB4.o.size (fun k hk=>by omega))
  have HF5:Hid (bV w0.heap.size w5 U):=by
   have:=HF4.o
   exact this.lg HSw5.o (fun k hk=>by have:=HGS.o;omega)
  obtain⟨C3,hC3⟩:=AU (cM M3)
  have hw:=HI5.o.whole
  rw[←hC3.o] at hw
  have HL5:=AQ hw
  have HC3:Hid (C3.size=69∧C3.all (·.oneCell')=true):=by rw[hC3.o];exact⟨HI5.o.size,fP _⟩
  clear hw hg9 HI4 HG4 HB4 HF4
  go_wp2_with (first |(with_reducible refine aN (o:=⟨some 15, .load 55 (.tmp 3),_,_,_,_⟩) AA AA AA HL5.o ?_) |((with_reducible refine ay (o:=⟨none, .store _ (.tmp 4) (.tmp 15),_,_,_,_⟩) iw (.tmp 4) (.tmp 15) AA AA AA AA AA HG5.o HZS.o HC3.o.1 HC3.o.2 ?_);intro w6 hbw6 hSw6;have HBw6:=AQ hbw6;have HSw6:=AQ hSw6;clear hbw6 hSw6))
  refine bodyPost_ret (ig iw rfl rfl HBw6.o HC3.o.1) rfl ⟨M3,by rw[hC3.o], ?_,HI5.o.p32,HI5.o.t32, ?_, ?_⟩
  ·have e1:yU M.man=true:=by rw[←HMM.o,←iE];exact hkk.o.symm
   have e2:M3.man= {M2.man with tag:=R}:=by rw[hM3.o];rfl
   rw[e2,HMM.o,oG,if_pos e1,hR.o,Dp,HMM.o]
  ·have:=HF5.o.lg HSw6.o (fun k hk=>by have:=HGW.o;have:=HGS.o;omega)
   rw[hM3.o,hM2.o];exact this.low HB0.o
  ·exact HB5.o.trans (HSw6.o.below HB5.o.size (fun k hk=>by have:=HGW.o;omega))
end Go.Proofs.YtlholdllibghbaaGreat
