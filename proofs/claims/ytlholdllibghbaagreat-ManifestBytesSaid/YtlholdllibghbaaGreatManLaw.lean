/- citadellaw14.copied, shown, told: walked. -/
import Derived.Test.YtlholdllibghbaaGreatManChk
import Derived.Test.YtlholdllibghbaaGreatG15
import Derived.Lib.SlBytesConst
import Derived.Test.YtlholdllibghbaaGreatKit
set_option maxRecDepth 100000
set_option maxHeartbeats 8000000
namespace Go.Proofs.YtlholdllibghbaaGreat
open Go Go.RowKit Go.Cit
theorem sU (w:World) (M:aV) (h:M.At w) (hs:cu M.cfg):Calls Tryz.prog 14 #[.agg (cM M)] w fun e w'=>∃S:aV,e= .returned (.agg (cM S))∧S.man=M.man∧lQ w.heap.size w' S∧Below w.heap.size w w':=by
 have HAM:=AQ (fun ρ d ty ps af w=>gV ρ d ty ps (af:=af) w)
 obtain⟨Z,hZ⟩:=AU (cM zM)
 rw[←hZ.o] at HAM
 obtain⟨C,hC⟩:=AU (cM M)
 obtain⟨w0,hw0⟩:=AV ((w.alloc (.cells C 55)).alloc (.cells Z 55))
 have B1:Below (w.alloc (.cells C 55)).heap.size (w.alloc (.cells C 55)) w0:=by rw[hw0];exact(Below.refl _ _).alloc (Nat.le_refl _) _
 have B0:Below w.heap.size w w0:=((Below.refl _ w).alloc (Nat.le_refl _) _).trans (B1.mono AO)
 have hI:eY w0 w.heap.size M:=by rw[hC.o] at B1;exact(eY.new w h).keep B1
 obtain⟨g,hg⟩:=AV (w.heap.size+1)
 have hgb:w0.heap[g]? =some (.cells Z 55 (0,0)):=by
  rw[hw0,hg];have:=heap_alloc_new (w.alloc (.cells C 55)) (.cells Z 55);simpa using this
 have HGW:Hid (g=w.heap.size+1):=hg
 have HG:=AQ hgb
 have HGS:Hid (w0.heap.size=w.heap.size+2):=by rw[Hid,hw0];simp
 have d0:=hI.d0
 have d1:=hI.d1
 have d2:=hI.d2
 have HI0:=AQ hI
 have HB0:=AQ B0
 have HP32:=AQ h.p32
 have HT32:=AQ h.t32
 have HZS:Hid (Z.size=69):=by rw[Hid,hZ.o];rfl
 have HCC:=AQ (Ep w0 M.cfg (h.cfg.stay B0) hs)
 have f3:=OQ w.heap.size
 rw[←hC.o]
 clear hgb hI h B0 B1 hs
 go_enter Tryz.func14,Tryz.ntmps14
 go_upto_region 1 with ((with_reducible refine aj (o:=⟨some 2, .alloc _,_,_,_,_⟩) AA (HAM.o _ _ _ _ _ _) ?_))
 rw[←hw0,show(w.alloc (.cells C 55)).heap.size=g by rw[hg];simp]
 clear hw0 hg
 go_wp2_with fail
 refine(HCC.o).mono ?_
 rintro e w1 ⟨U,rfl,hU,hO,hb1⟩
 have HI1:=AQ (HI0.o.keep hb1)
 have HG1:=AQ (aG HG.o hb1)
 have HB1:=AQ (HB0.o.trans (hb1.mono HB0.o.size))
 have HF1:=AQ hO.fresh
 have HU:=AQ hU
 have HCU:Hid ((#[.slice U.wa U.ws.length U.wc, .slice U.pa U.ps.length U.pc, .slice U.ca U.cs.length U.cc]:Array Value).all (·.oneCell')=true):=DL U
 clear d0 d1 d2 HCC hU hO hb1 HG HI0 HB0
 go_upto_region 2 with ((with_reducible refine dO (o:=⟨none, .store _ (.tmp 6) (.tmp 5),_,_,_,_⟩) (C:=cM M) QL.info (.tmp 6) (.tmp 5) AA AA AA AA AA rfl HI1.o.blk (by rw[HI1.o.size];decide) HCU.o ?_);intro w2 hbw2 hSw2;have HBw2:=AQ hbw2;have HSw2:=AQ hSw2;clear hbw2 hSw2)
 obtain⟨M2,hM2⟩:∃M2:aV,Hid (M2= {M with cfg:=U}):=⟨_,rfl⟩
 have HI2:Hid (eY w2 w.heap.size M2):=by
  rw[Hid,hM2.o]
  refine⟨HBw2.o.trans ?_,HP32.o,HT32.o⟩
  rw[show lZ (cM M) 34 _=cM {M with cfg:=U} from yL HP32.o U]
 have HMM:Hid (M2.man=M.man):=by rw[Hid,hM2.o];exact Ku HU.o
 have hg9:g<w1.heap.size:=(Array.getElem?_eq_some_iff.1 HG1.o).1
 have HG2:Hid (w2.heap[g]? =some (.cells Z 55 (0,0))):=(HSw2.o.block g hg9 (by have:=HGW.o;omega)).trans HG1.o
 have HB2:Hid (Below w.heap.size w w2):=HB1.o.trans (HSw2.o.below HB1.o.size (fun k hk=>by omega))
 have HF2:Hid (bV w0.heap.size w2 U):=HF1.o.lg HSw2.o (fun k hk=>by have:=HGS.o;omega)
 obtain⟨C2,hC2⟩:=AU (cM M2)
 have hw:=HI2.o.whole
 rw[←hC2.o] at hw
 have HL2:=AQ hw
 have HC2:Hid (C2.size=69∧C2.all (·.oneCell')=true):=by rw[hC2.o];exact⟨HI2.o.size,fP _⟩
 clear hw hg9 HI1 HG1 HB1 HF1 HCU
 go_wp2_with (first |(with_reducible refine aN (o:=⟨some 7, .load 55 (.tmp 1),_,_,_,_⟩) AA AA AA HL2.o ?_) |((with_reducible refine ay (o:=⟨none, .store _ (.tmp 2) (.tmp 7),_,_,_,_⟩) iw (.tmp 2) (.tmp 7) AA AA AA AA AA HG2.o HZS.o HC2.o.1 HC2.o.2 ?_);intro w4 hbw4 hSw4;have HBw4:=AQ hbw4;have HSw4:=AQ hSw4;clear hbw4 hSw4))
 refine bodyPost_ret (ig iw rfl rfl HBw4.o HC2.o.1) rfl ⟨M2,by rw[hC2.o],HMM.o,⟨HI2.o.p32,HI2.o.t32, ?_⟩, ?_⟩
 ·have:=HF2.o.lg HSw4.o (fun k hk=>by have:=HGW.o;have:=HGS.o;omega)
  rw[hM2.o];exact this.low (by have:=HGS.o;omega)
 ·exact HB2.o.trans (HSw4.o.below HB2.o.size (fun k hk=>by have:=HGW.o;omega))
def j0:I64:=⟨0,by decide⟩
def j1:I64:=⟨1,by decide⟩
def j2:I64:=⟨2,by decide⟩
def j16:I64:=⟨16,by decide⟩
def vT:qm:=⟨j2,j1⟩
def sS:Bq:=⟨[vT],[⟨j1,⟨j0,j16⟩,false,[]⟩],[]⟩
def keyS:List UInt8:=[107,101,121]
def jy:oZ:=oG keyS ⟨j1,aH,j1,sS,aH⟩
theorem Ae (w:World) (C:Array Value) (n c:Nat):(convert 40 40 (.slice (some ⟨w.heap.size,0,none⟩) n c)).run Tryz.prog (w.alloc (.cells C 5))= .ok (.slice (some ⟨w.heap.size,0,none⟩) n c) (w.alloc (.cells C 5 (C.size,C.size+1))):=Lib.run_convert_bytes_const (P:=Tryz.prog) w 40 5 C n c Tryz.underlying40 Tryz.underlying5
def G7 (V:aO):aV:=⟨j1,aH,j1,V,aH⟩
theorem Jt (ρ:Operand→Value) (x:Operand) (V:aO) (e:ρ x= .agg #[.slice V.wa V.ws.length V.wc, .slice V.pa V.ps.length V.pc, .slice V.ca V.cs.length V.cc]) (d:Option Tmp) (ty:TypeId) (ps:String) {af} (w:World) (hc:∀v,ρ (.const v)=v):
 (execOp ρ {dst:=d,op:=Op.build 55 #[(0, .const (.int .i64 1)),(2, .const (.int .i64 1)),(3,x)],type:=ty,pos:=ps,after:=af,guard:=none}).run Tryz.prog w= .ok (.value (.agg (cM (G7 V)))) w:=by
 unfold execOp
 simp only[List.map_toArray,List.map_cons,List.map_nil,e,hc]
 kernel_rfl
theorem iM (w:World):Calls Tryz.prog 69 #[] w fun e w'=>∃S:aV,e= .returned (.agg (cM S))∧S.man=jy∧lQ w.heap.size w' S∧Below w.heap.size w w':=by
 have HAM:=AQ (fun ρ d ty ps af w=>gV ρ d ty ps (af:=af) w)
 obtain⟨Z,hZ⟩:=AU (cM zM)
 rw[←hZ.o] at HAM
 have HZS:Hid (Z.size=69):=by rw[Hid,hZ.o];rfl
 obtain⟨w0,hw0⟩:=AV (w.alloc (.cells Z 55))
 have B0:Below w.heap.size w w0:=by rw[hw0];exact(Below.refl _ w).alloc (Nat.le_refl _) _
 obtain⟨g,hg⟩:=AV (w.heap.size)
 have HG:Hid (w0.heap[g]? =some (.cells Z 55 (0,0))):=by rw[Hid,hw0,hg];exact heap_alloc_new _ _
 have HGW:Hid (g=w.heap.size):=hg
 have HB0:=AQ B0
 clear B0
 go_enter Tryz.func69,Tryz.ntmps69
 go_upto_region 1 with ((with_reducible refine aj (o:=⟨some 0, .alloc _,_,_,_,_⟩) AA (HAM.o _ _ _ _ _ _) ?_))
 rw[←hw0,←hg]
 clear hw0 hg
 go_upto_region 2 with (first
  | ((with_reducible refine aj (o:=⟨some 3, .buildSlice _ _ _,_,_,_,_⟩) AA (nV JR (.tmp 2) (.agg #[.int .i64 2, .int .i64 1]) #[.int .i64 2, .int .i64 1] rfl AA AA AA AP _) ?_)))
 obtain⟨N,hN⟩:=AV (w0.heap.size)
 rw[←hN]
 obtain⟨wa,hwa⟩:=AV (w0.alloc (.cells #[.int .i64 2, .int .i64 1] 77))
 obtain⟨wb,hwb⟩:=AV (wa.alloc (.cells #[.int .i64 1, .int .i64 0, .int .i64 16, .bool false, .slice none 0 0] 46))
 obtain⟨wc,hwc⟩:=AV (wb.alloc (.cells #[.slice (some ⟨N,0,none⟩) 1 1, .slice (some ⟨N+1,0,none⟩) 1 1, .slice none 0 0] 26))
 obtain⟨wd,hwd⟩:=AV (wc.alloc (.cells #[.int .u8 107, .int .u8 101, .int .u8 121] 5 (3,4)))
 have sa:wa.heap.size=N+1:=by rw[hwa,hN];simp
 have sb:wb.heap.size=N+1+1:=by rw[hwb];simp[sa]
 have sc:wc.heap.size=N+1+1+1:=by rw[hwc];simp[sb]
 have ba:Below w0.heap.size w0 wa:=by rw[hwa];exact(Below.refl _ _).alloc (Nat.le_refl _) _
 have bb:Below wa.heap.size wa wb:=by rw[hwb];exact(Below.refl _ _).alloc (Nat.le_refl _) _
 have bc:Below wb.heap.size wb wc:=by rw[hwc];exact(Below.refl _ _).alloc (Nat.le_refl _) _
 have bd:Below wc.heap.size wc wd:=by rw[hwd];exact(Below.refl _ _).alloc (Nat.le_refl _) _
 have xa:wa.heap[N]? =some (.cells #[.int .i64 2, .int .i64 1] 77 (0,0)):=by rw[hwa,hN];exact heap_alloc_new _ _
 have xb:wb.heap[N+1]? =some (.cells #[.int .i64 1, .int .i64 0, .int .i64 16, .bool false, .slice none 0 0] 46 (0,0)):=by rw[hwb,←sa];exact heap_alloc_new _ _
 have xc:wc.heap[N+1+1]? =some (.cells #[.slice (some ⟨N,0,none⟩) 1 1, .slice (some ⟨N+1,0,none⟩) 1 1, .slice none 0 0] 26 (0,0)):=by rw[hwc,←sb];exact heap_alloc_new _ _
 have ya:=aG (aG (aG xa bb) bc) bd
 have yb:=aG (aG xb bc) bd
 have yc:=aG xc bd
 obtain⟨c0,c1,c2⟩:=SL (V:=⟨some ⟨N,0,none⟩,[vT],1,some ⟨N+1,0,none⟩,[⟨j1,⟨j0,j16⟩,false,none,[],0⟩],1,none,[],0⟩) (show wd.heap[N+1+1]? =some (.cells #[.slice (some ⟨N,0,none⟩) 1 1, .slice (some ⟨N+1,0,none⟩) 1 1, .slice none 0 0] 26 (0,0)) from yc)
 have hB:Below w0.heap.size w0 wd:=((ba.trans (bb.mono ba.size)).trans (bc.mono (Nat.le_trans ba.size bb.size))).trans (bd.mono (Nat.le_trans (Nat.le_trans ba.size bb.size) bc.size))
 have hK:Row wd (some ⟨wc.heap.size,0,none⟩) keyS 3:=by rw[hwd];exact sG keyS (World.alloc_heap_new wc _) rfl AP
 obtain⟨V,hV⟩:∃V:aO,Hid (V=⟨some ⟨N,0,none⟩,[vT],1,some ⟨N+1,0,none⟩,[⟨j1,⟨j0,j16⟩,false,none,[],0⟩],1,none,[],0⟩):=⟨_,rfl⟩
 have hVA:V.At wd:=by
  rw[hV.o]
  refine⟨(qP (f:=mY) (n:=2) (B:=0) (l:=[vT]) dW (Nat.zero_le _) AP ya rfl).vec dW,(qP (f:=Bo) (n:=5) (B:=0) (l:=[⟨j1,⟨j0,j16⟩,false,none,[],0⟩]) dY (Nat.zero_le _) AO yb rfl).vec dY,Vec.nil_ _,fun y hy=> ?_⟩
  obtain rfl:y=⟨j1,⟨j0,j16⟩,false,none,[],0⟩:=by simpa using hy
  exact(Cit.Own.nil 5 0 wd).isRow
 have hVS:cu V:=by rw[hV.o];exact DX AO AO AO AO
 have hVC:V.cfg=sS:=by rw[hV.o];rfl
 have hs:=yh wd _ keyS 3 hK AP (G7 V) ⟨rfl,rfl,hVA⟩ hVS
 rw[show(G7 V).man=⟨j1,aH,j1,sS,aH⟩ by unfold G7 aV.man;rw[hVC],show oG keyS ⟨j1,aH,j1,sS,aH⟩=jy from rfl,sc] at hs
 have hbf:=fun ρ x (e:ρ x= .agg #[.slice (some ⟨N,0,none⟩) 1 1, .slice (some ⟨N+1,0,none⟩) 1 1, .slice none 0 0]) d ty ps af w hc=>Jt ρ x V (by rw[hV.o];exact e) d ty ps (af:=af) w hc
 obtain⟨CF,hCF⟩:=AU (cM (G7 V))
 rw[←hCF.o] at hs hbf
 have HS:=AQ hs
 have HBF:=AQ hbf
 have HGD:=AQ (aG HG.o hB)
 have HBD:=AQ (HB0.o.trans (hB.mono HB0.o.size))
 have SC:=AQ sc
 have HNN:=AQ hN
 rw[←hwa,←hwb,←hwc]
 clear sa sb ba bb bc bd xa xb xc ya yb yc hB hK hVA hVS hVC hs hbf hwa hwb hwc HG HB0 hN sc
 have hwd':=hwd
 have hcv:=Ae
 rw[hwd] at c0 c1 c2
 go_wp2_with (first |((with_reducible refine aj (o:=⟨some 11, .build _ _,_,_,_,_⟩) AA (HBF.o _ _ AA _ _ _ _ _ (fun _=>rfl)) ?_)))
 rw[←hwd,SC.o]
 clear hwd hwd' c0 c1 c2
 refine(HS.o).mono ?_
 rintro e w5 ⟨S,rfl,hm,hp,ht,hf,hb5⟩
 have HSM:=AQ (And.intro hm (And.intro hp (And.intro ht hf)))
 have HG5:=AQ (aG HGD.o hb5)
 have HB5:=AQ (HBD.o.trans (hb5.mono HBD.o.size))
 have HWD:Hid (g<wd.heap.size):=(Array.getElem?_eq_some_iff.1 HGD.o).1
 obtain⟨CS,hCS⟩:=AU (cM S)
 have HCS:Hid (CS.size=69∧CS.all (·.oneCell')=true):=by rw[hCS.o];exact⟨fM HSM.o.2.1 HSM.o.2.2.1,fP _⟩
 rw[←hCS.o]
 clear hm hp ht hf hb5 HS HGD
 go_wp2_with ((with_reducible refine ay (o:=⟨none, .store _ (.tmp 0) (.tmp 12),_,_,_,_⟩) iw (.tmp 0) (.tmp 12) AA AA AA AA AA HG5.o HZS.o HCS.o.1 HCS.o.2 ?_);intro w6 hbw6 hSw6;have HBw6:=AQ hbw6;have HSw6:=AQ hSw6;clear hbw6 hSw6)
 refine bodyPost_ret (ig iw rfl rfl HBw6.o HCS.o.1) rfl ⟨S,by rw[hCS.o],HSM.o.1,⟨HSM.o.2.1,HSM.o.2.2.1, ?_⟩, ?_⟩
 ·exact(HSM.o.2.2.2.lg HSw6.o (fun k hk=>by have:=HWD.o;omega)).low (by have:=HWD.o;have:=HGW.o;omega)
 ·exact HB5.o.trans (HSw6.o.below HB5.o.size (fun k hk=>by have:=HGW.o;omega))
theorem lH (w:World) (M:aV) (h:M.At w) (hs:cu M.cfg) (s:Bool):Calls Tryz.prog 70 #[.agg (cM M), .bool s] w fun e w'=>e= .returned (.int .i64 (jB keyS jy (l9 (if s then oG keyS M.man else M.man))))∧Below w.heap.size w w':=by
 have HAM:=AQ (fun ρ d ty ps af w=>gV ρ d ty ps (af:=af) w)
 obtain⟨Z,hZ⟩:=AU (cM zM)
 rw[←hZ.o] at HAM
 have HZS:Hid (Z.size=69):=by rw[Hid,hZ.o];rfl
 obtain⟨C,hC⟩:=AU (cM M)
 obtain⟨w0,hw0⟩:=AV (w.alloc (.cells C 55))
 have B0:Below w.heap.size w w0:=by rw[hw0];exact(Below.refl _ w).alloc (Nat.le_refl _) _
 have hI:eY w0 w.heap.size M:=by rw[hw0,hC.o];exact eY.new w h
 have HI0:=AQ hI
 have HB0:=AQ B0
 have HM:=AQ (h.stay B0)
 obtain⟨R,hR⟩:=AU (jB keyS jy (l9 (if s then oG keyS M.man else M.man)))
 rw[←hR.o]
 obtain⟨wk,hwk⟩:=AV (w0.alloc (.cells #[.int .u8 107, .int .u8 101, .int .u8 121] 5 (3,4)))
 have HKR:Hid (Row wk (some ⟨w0.heap.size,0,none⟩) keyS 3):=by rw[Hid,hwk];exact sG keyS (World.alloc_heap_new w0 _) rfl AP
 have bk:Below w0.heap.size w0 wk:=by rw[hwk];exact(Below.refl _ _).alloc (Nat.le_refl _) _
 have HIK:=AQ (hI.keep bk)
 have HMK:=AQ ((h.stay B0).stay bk)
 have HBK:=AQ (B0.trans (bk.mono B0.size))
 have hcv:=Ae
 rw[←hC.o]
 have HW0:Hid (w.heap.size<w0.heap.size):=hI.lt
 clear hI h B0 bk HI0 HB0 HM
 go_enter Tryz.func70,Tryz.ntmps70
 go_upto_region 1 with fail
 rw[←hw0]
 clear hw0
 go_upto_region 2 with fail
 rw[←hwk]
 clear hwk hcv
 cases s with
 |
  false=>
  go_upto_region 4 with fail
  obtain⟨M2,hM2⟩:=AU M
  obtain⟨C2,hC2⟩:=AU (cM M2)
  obtain⟨w2,hw2⟩:=AV (wk)
  rw[←hw2] at HKR HIK HMK HBK ⊢
  have HI2:Hid (eY w2 w.heap.size M2):=by rw[hM2.o];exact HIK.o
  have HM2:Hid (M2.At w2):=by rw[hM2.o];exact HMK.o
  have HMM:Hid (M2.man=if false=true then oG keyS M.man else M.man):=by rw[Hid,hM2.o];rfl
  have HB2:=HBK
  have HK2:=HKR
  clear hw2
  have hp:=lW w2 M2 HM2.o
  rw[←hC2.o] at hp
  obtain⟨F,hF⟩:=AU (iZ M2)
  rw[←hF.o] at hp
  have HP:=AQ hp
  have hw:=HI2.o.whole
  rw[←hC2.o] at hw
  have HL2:=AQ hw
  clear hp hw
  go_wp2_with ((with_reducible refine aN (o:=⟨some 17, .load 55 (.tmp 2),_,_,_,_⟩) AA AA AA HL2.o ?_))
  refine(HP.o).mono ?_
  rintro e w3 ⟨a3,c3,rfl,hr3,hb3⟩
  have HR3:=AQ hr3.row
  have HK3:=AQ (HK2.o.stay hb3)
  have HB3:=AQ (HB2.o.trans (hb3.mono HB2.o.size))
  have HS:=AQ (iM w3)
  clear hr3 hb3 HP HL2
  go_wp2_with fail
  refine(HS.o).mono ?_
  rintro e w4 ⟨S,rfl,hSm,hSF,hb4⟩
  obtain⟨CS,hCS⟩:=AU (cM S)
  have hss:cu S.cfg:=by
   have h1:S.cfg.cfg=sS:=by rw[show S.cfg.cfg=S.man.cfg from rfl,hSm];rfl
   exact kS (by rw[jE,h1];kernel_rfl)
  have hk:=pU w4 _ keyS 3 (HK3.o.stay hb4) AP S hSF.at hss a3 F c3 (HR3.o.stay hb4)
  rw[←hCS.o,hSm] at hk
  rw[←hCS.o]
  have HE:Hid (jB keyS jy F=R):=by rw[Hid,hR.o,hF.o,nP,HMM.o]
  rw[HE.o] at hk
  have HCK:=AQ hk
  have HB4:=AQ (HB3.o.trans (hb4.mono HB3.o.size))
  clear hSm hSF hss hk hb4 HS
  go_wp2_with fail
  refine(HCK.o).mono ?_
  rintro e w5 ⟨U,rfl,_,hUF,hb5⟩
  obtain⟨CU,hCU⟩:=AU (cM U)
  have HCU:Hid (CU.size=69∧CU.all (·.oneCell')=true):=by rw[hCU.o];exact⟨fM hUF.p32 hUF.t32,fP _⟩
  rw[←hCU.o]
  have HB5:=AQ (HB4.o.trans (hb5.mono HB4.o.size))
  have HNW:=AQ (heap_alloc_new w5 (.cells Z 55))
  clear hUF hb5 HCK
  go_wp2_with (first |((with_reducible refine aj (o:=⟨some 8, .alloc _,_,_,_,_⟩) AA (HAM.o _ _ _ _ _ _) ?_)) |((with_reducible refine ay (o:=⟨none, .store _ (.tmp 8) (.tmp 26),_,_,_,_⟩) iw (.tmp 8) (.tmp 26) AA AA AA AA AA HNW.o HZS.o HCU.o.1 HCU.o.2 ?_);intro w6 hbw6 hSw6;have HBw6:=AQ hbw6;have HSw6:=AQ hSw6;clear hbw6 hSw6))
  go_ret
  refine⟨rfl,HB5.o.trans ?_⟩
  have h1:Below w5.heap.size w5 (w5.alloc (.cells Z 55)):=(Below.refl _ _).alloc (Nat.le_refl _) _
  exact(h1.trans (HSw6.o.below AO (fun k hk=>by omega))).mono HB5.o.size
 |
  true=>
  have hsl:=yh wk _ keyS 3 HKR.o AP M HMK.o hs
  rw[←hC.o] at hsl
  have HSL:=AQ hsl
  have hw:=HIK.o.whole
  rw[←hC.o] at hw
  have HLK:=AQ hw
  have HCSZ:Hid (C.size=69):=by rw[Hid,hC.o];exact HIK.o.size
  clear hsl hw
  go_wp2_with ((with_reducible refine aN (o:=⟨some 14, .load 55 (.tmp 2),_,_,_,_⟩) AA AA AA HLK.o ?_))
  refine(HSL.o).mono ?_
  rintro e w1 ⟨M2,rfl,hm,hp,ht,hf,hb1⟩
  have HI1:=AQ (HIK.o.keep hb1)
  have hbk:=HI1.o.blk
  rw[←hC.o] at hbk
  have HBL:=AQ hbk
  obtain⟨C2,hC2⟩:=AU (cM M2)
  have HC2S:Hid (C2.size=69∧C2.all (·.oneCell')=true):=by rw[hC2.o];exact⟨fM hp ht,fP _⟩
  have HF1:=AQ (And.intro hp (And.intro ht hf))
  have HMM:Hid (M2.man=if true=true then oG keyS M.man else M.man):=by rw[Hid,hm];rfl
  have HK1:=AQ (HKR.o.stay hb1)
  have HB1:=AQ (HBK.o.trans (hb1.mono HBK.o.size))
  have HWK:Hid (w.heap.size<wk.heap.size):=HIK.o.lt
  rw[←hC2.o]
  clear hbk hm hp ht hf hb1 HSL HLK HI1
  go_upto_region 4 with ((with_reducible refine ay (o:=⟨none, .store _ (.tmp 2) (.tmp 15),_,_,_,_⟩) iw (.tmp 2) (.tmp 15) AA AA AA AA AA HBL.o HCSZ.o HC2S.o.1 HC2S.o.2 ?_);intro w2 hbw2 hSw2;have HBw2:=AQ hbw2;have HSw2:=AQ hSw2;clear hbw2 hSw2)
  have HI2:Hid (eY w2 w.heap.size M2):=⟨by rw[←hC2.o];exact HBw2.o,HF1.o.1,HF1.o.2.1⟩
  have HM2:Hid (M2.At w2):=⟨HF1.o.1,HF1.o.2.1,(HF1.o.2.2.lg HSw2.o (fun k hk=>by have:=HWK.o;omega)).at⟩
  have HK2:Hid (Row w2 (some ⟨w0.heap.size,0,none⟩) keyS 3):=HK1.o.save HSw2.o (fun j hj=>by simp[Go.Cit.blk] at hj;have:=HW0.o;omega)
  have HB2:=AQ (HB1.o.trans (HSw2.o.below HB1.o.size (fun k hk=>by omega)))
  clear HBw2 HSw2 HF1 HK1 HB1 HBL
  have hp:=lW w2 M2 HM2.o
  rw[←hC2.o] at hp
  obtain⟨F,hF⟩:=AU (iZ M2)
  rw[←hF.o] at hp
  have HP:=AQ hp
  have hw:=HI2.o.whole
  rw[←hC2.o] at hw
  have HL2:=AQ hw
  clear hp hw
  go_wp2_with ((with_reducible refine aN (o:=⟨some 17, .load 55 (.tmp 2),_,_,_,_⟩) AA AA AA HL2.o ?_))
  refine(HP.o).mono ?_
  rintro e w3 ⟨a3,c3,rfl,hr3,hb3⟩
  have HR3:=AQ hr3.row
  have HK3:=AQ (HK2.o.stay hb3)
  have HB3:=AQ (HB2.o.trans (hb3.mono HB2.o.size))
  have HS:=AQ (iM w3)
  clear hr3 hb3 HP HL2
  go_wp2_with fail
  refine(HS.o).mono ?_
  rintro e w4 ⟨S,rfl,hSm,hSF,hb4⟩
  obtain⟨CS,hCS⟩:=AU (cM S)
  have hss:cu S.cfg:=by
   have h1:S.cfg.cfg=sS:=by rw[show S.cfg.cfg=S.man.cfg from rfl,hSm];rfl
   exact kS (by rw[jE,h1];kernel_rfl)
  have hk:=pU w4 _ keyS 3 (HK3.o.stay hb4) AP S hSF.at hss a3 F c3 (HR3.o.stay hb4)
  rw[←hCS.o,hSm] at hk
  rw[←hCS.o]
  have HE:Hid (jB keyS jy F=R):=by rw[Hid,hR.o,hF.o,nP,HMM.o]
  rw[HE.o] at hk
  have HCK:=AQ hk
  have HB4:=AQ (HB3.o.trans (hb4.mono HB3.o.size))
  clear hSm hSF hss hk hb4 HS
  go_wp2_with fail
  refine(HCK.o).mono ?_
  rintro e w5 ⟨U,rfl,_,hUF,hb5⟩
  obtain⟨CU,hCU⟩:=AU (cM U)
  have HCU:Hid (CU.size=69∧CU.all (·.oneCell')=true):=by rw[hCU.o];exact⟨fM hUF.p32 hUF.t32,fP _⟩
  rw[←hCU.o]
  have HB5:=AQ (HB4.o.trans (hb5.mono HB4.o.size))
  have HNW:=AQ (heap_alloc_new w5 (.cells Z 55))
  clear hUF hb5 HCK
  go_wp2_with (first |((with_reducible refine aj (o:=⟨some 8, .alloc _,_,_,_,_⟩) AA (HAM.o _ _ _ _ _ _) ?_)) |((with_reducible refine ay (o:=⟨none, .store _ (.tmp 8) (.tmp 26),_,_,_,_⟩) iw (.tmp 8) (.tmp 26) AA AA AA AA AA HNW.o HZS.o HCU.o.1 HCU.o.2 ?_);intro w6 hbw6 hSw6;have HBw6:=AQ hbw6;have HSw6:=AQ hSw6;clear hbw6 hSw6))
  go_ret
  refine⟨rfl,HB5.o.trans ?_⟩
  have h1:Below w5.heap.size w5 (w5.alloc (.cells Z 55)):=(Below.refl _ _).alloc (Nat.le_refl _) _
  exact(h1.trans (HSw6.o.below AO (fun k hk=>by omega))).mono HB5.o.size
end Go.Proofs.YtlholdllibghbaaGreat
