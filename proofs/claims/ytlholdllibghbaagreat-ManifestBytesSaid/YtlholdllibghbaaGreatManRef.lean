/- citadelref14.Can, Parse; Same of both: walked. -/
import Derived.Test.YtlholdllibghbaaGreatG32
import Derived.Test.YtlholdllibghbaaGreatG35
import Derived.Test.YtlholdllibghbaaGreatG15
import Derived.Test.YtlholdllibghbaaGreatG14
import Derived.Test.YtlholdllibghbaaGreatShelf
import Derived.Test.YtlholdllibghbaaGreatKit
set_option maxRecDepth 100000
set_option maxHeartbeats 8000000
namespace Go.Proofs.YtlholdllibghbaaGreat
open Go Go.RowKit Go.Cit
theorem oh (w:World) (M:aV) (h:M.At w):Calls Tryz.prog 16 #[.agg (cM M)] w fun e w'=>e= .returned (.bool (jK M))∧Below w.heap.size w w':=by
 obtain⟨C,hC⟩:=AU (cM M)
 obtain⟨w0,hw0⟩:=AV (w.alloc (.cells C 55))
 have B0:Below w.heap.size w w0:=by rw[hw0];exact(Below.refl _ w).alloc (Nat.le_refl _) _
 have hI:eY w0 w.heap.size M:=by rw[hw0,hC.o];exact eY.new w h
 have c0:=hI.ver
 have c1:=hI.trial
 have d0:=hI.d0
 have d1:=hI.d1
 have d2:=hI.d2
 obtain⟨R,hR⟩:=AU (jK M)
 obtain⟨k,hk⟩:=AU (nJ M.cfg)
 have hRK:Hid (R=((((decide (0<M.ver.1) && decide (M.ver.1≤1099511627776)) && decide (0<M.trial.1)) && decide (M.trial.1<9)) && k)):=by
  rw[Hid,hR.o,hk.o]
  unfold jK
  rw[show decide (0<M.ver.1)=decide (1≤M.ver.1) from decide_eq_decide.2 AL,show decide (0<M.trial.1)=decide (1≤M.trial.1) from decide_eq_decide.2 AL,show decide (M.trial.1<9)=decide (M.trial.1≤8) from decide_eq_decide.2 AL]
 have hc:=uG w0 M.cfg (h.cfg.stay B0)
 rw[←hk.o] at hc
 have HC:=AQ hc
 have HB0:=AQ B0
 rw[←hR.o,←hC.o]
 have f0:=SI w.heap.size
 have f2:=mf2 w.heap.size
 have f3:=OQ w.heap.size
 clear hc hI h B0
 go_enter Tryz.func16,Tryz.ntmps16
 go_upto_region 1 with fail
 rw[←hw0]
 clear hw0
 go_wp2_with fail
 all_goals first
  | (
   go_ret
   refine⟨aJ ?_,HB0.o⟩
   rw[hRK.o]
   clear HC HB0 hRK hR hC hk
   first
    | (simp only[*,decide_true,decide_false,Bool.and_true,Bool.true_and,Bool.and_false,Bool.false_and];done)
    | (simp;intros;omega))
  | (
   refine HC.o.mono ?_
   rintro e w1 ⟨rfl,hb1⟩
   go_wp2_with fail
   go_ret
   refine⟨aJ ?_,HB0.o.trans (hb1.mono HB0.o.size)⟩
   rw[hRK.o]
   simp only[*,decide_true,Bool.true_and])
theorem iP.newer {base top w w' b s p} (h:iP base top w b s) (hs:Save (· ≠p) w w') (hp:top≤p) (hb:b≠p):iP base top w' b s:=h.save hs hb fun g _ hg=>by omega
theorem uP {base top w b s} (h:iP base top w b s) (ht:top≤w.heap.size) (hb:b<w.heap.size):Calls Tryz.prog 64 #[.pointer (some ⟨b,0,none⟩)] w fun r w'=>r= .returned (.agg (s.tag.1.map vb).toArray)∧iP base top w' b s.tag.2∧Save (· ≠b) w w':=Gs h ht hb
def Uz (b _:Nat) (C:Array Value) (F E:Int) (x y k:Bool):Nat→Value
 | 30=>(.pointer (some ⟨b,0,none⟩))
 | 31=>(.int .i64 F)
 | 32=>(.bool (!x))
 | 33=>(.bool (!x))
 | 34=>(bif (!(!x)) then (.int .i64 E) else undef)
 | 35=>(bif (!(!x)) then (.bool (!y)) else undef)
 | 36=>(.bool ((!x) || (!y)))
 | 37=>(.bool ((!x) || (!y)))
 | 38=>(bif (!((!x) || (!y))) then (.agg C) else undef)
 | 39=>(bif (!((!x) || (!y))) then (.bool k) else undef)
 | 40=>(bif (!((!x) || (!y))) then (.bool (!k)) else undef)
 | 41=>(.bool (((!x) || (!y)) || (!k)))
 | _=>undef
def Tt (b p:Nat) (_:Array Value) (_ E:Int) (_ _ _:Bool):Nat→Value
 | 4=>(.pointer (some ⟨b,0,none⟩))
 | 5=>(.pointer (some ⟨p,0,none⟩))
 | 7=>(.int .i64 E)
 | _=>undef
theorem yx (w:World) {a:Option Addr} {l:List UInt8} {c:Nat} (h:Row w a l c):Calls Tryz.prog 22 #[.slice a l.length c] w fun e w'=>∃S:aV,e= .returned (.tuple #[.agg (cM S), .int .i64 (nX l)])∧S.man=qy l∧lQ w.heap.size w' S∧Below w.heap.size w w':=by
 have HAM:=AQ (fun ρ d ty ps af w=>gV ρ d ty ps (af:=af) w)
 have HBM:=AQ (fun ρ d ty ps af w=>wW ρ d ty ps (af:=af) w)
 obtain⟨Z,hZ⟩:=AU (cM zM)
 rw[←hZ.o] at HAM HBM
 have HZS:Hid (Z.size=69∧Z.all (·.oneCell')=true):=by rw[hZ.o];exact⟨fM rfl rfl,fP _⟩
 obtain⟨R,hR⟩:=AV (w.heap.size)
 obtain⟨w0,hw0⟩:=AV (w.alloc (.cells Z 55))
 have B0:Below w.heap.size w w0:=by rw[hw0];exact(Below.refl _ w).alloc (Nat.le_refl _) _
 have hxR:w0.heap[R]? =some (.cells Z 55 (0,0)):=by rw[hw0,hR];exact heap_alloc_new _ _
 have HN:=AQ (wu w0 (h.stay B0))
 have H0:=AQ (And.intro hxR B0)
 have HRR:=AQ hR
 have HR1:Hid (w0.heap.size=R+1):=by rw[Hid,hw0,hR];simp
 obtain⟨PE,hPE⟩:=AU (nX l)
 obtain⟨PK,hPK⟩:=AU (qy l)
 rw[←hPE.o,←hPK.o]
 clear h hxR B0
 go_enter Tryz.func22,Tryz.ntmps22
 go_upto_region 1 with (((with_reducible refine aj (o:=⟨some 2, .alloc _,_,_,_,_⟩) AA (HAM.o _ _ _ _ _ _) ?_)))
 rw[←hw0,←hR]
 clear hw0 hR
 go_wp2_with fail
 refine(HN.o).mono ?_
 rintro e w1 ⟨b,hbb,rfl,hRd,hb1⟩
 obtain⟨n1,hn1⟩:=AU ((Q9 l).1)
 obtain⟨s1,hs1⟩:=AU ((Q9 l).2)
 have hk:=jH hRd
 rw[show(St.new l).int=Q9 l from rfl,←hn1.o,←hs1.o] at hk
 have HK:=AQ hk
 have HT:Hid (b<w1.heap.size):=hbb.o.2
 have H1:=AQ (And.intro (aG H0.o.1 hb1) (H0.o.2.trans (hb1.mono H0.o.2.size)))
 have HBB:Hid (R+1≤b):=by rw[Hid,←HR1.o];exact hbb.o.1
 obtain⟨T,hT⟩:=AU w1.heap.size
 rw[←hT.o] at HK
 clear hRd hb1 hk HN hbb
 go_wp2_with fail
 refine(HK.o).mono ?_
 rintro e w2 ⟨rfl,hRd,hS2⟩
 obtain⟨p,hp⟩:=AV (w2.heap.size)
 have HPT:Hid (T≤p):=by rw[Hid,hT.o,hp];exact hS2.size
 have HBP:Hid (b<p):=by rw[Hid,hp];have:=HT.o;have:=hS2.size;omega
 have HR2:=AQ hRd
 have H2:Hid (w2.heap[R]? =some (.cells Z 55 (0,0))∧Below w.heap.size w w2):=⟨(hS2.block R (Array.getElem?_eq_some_iff.1 H1.o.1).1 (by have:=HBB.o;omega)).trans H1.o.1,H1.o.2.trans (hS2.below H1.o.2.size (fun k hk=>by have:=HBB.o;have:=HRR.o;omega))⟩
 obtain⟨M1,hM1⟩:∃M:aV,Hid (M=RS n1):=⟨_,rfl⟩
 obtain⟨C1,hC1⟩:=AU (cM M1)
 have hbv:=fun ρ x e d ty ps af w=>CV ρ x n1 e d ty ps (af:=af) w
 rw[←hM1.o,←hC1.o] at hbv
 have HBV:=AQ hbv
 have HC1:Hid (C1.size=69∧C1.all (·.oneCell')=true):=by rw[hC1.o,hM1.o];exact⟨fM rfl rfl,fP _⟩
 have HNW:=AQ (heap_alloc_new w2 (.cells Z 55))
 clear hRd hS2 hbv HK H1
 go_upto_region 3 with (first |((with_reducible refine aj (o:=⟨some 5, .alloc _,_,_,_,_⟩) AA (HAM.o _ _ _ _ _ _) ?_)) |((with_reducible refine aj (o:=⟨some 12, .build _ _,_,_,_,_⟩) AA (HBV.o _ _ AA _ _ _ _ _) ?_)) |((with_reducible refine ay (o:=⟨none, .store _ (.tmp 5) (.tmp 12),_,_,_,_⟩) iw (.tmp 5) (.tmp 12) AA AA AA AA AA HNW.o HZS.o.1 HC1.o.1 HC1.o.2 ?_);intro w3 hbw3 hSw3;have HBw3:=AQ hbw3;have HSw3:=AQ hSw3;clear hbw3 hSw3))
 have hwa:Save (· ≠p) w2 w3:=by
  have h1:Save (· ≠p) w2 (w2.alloc (.cells Z 55)):=Save.alloc w2 _
  exact h1.trans (HSw3.o.less (fun k _ hk=>by rw[←hp];exact hk))
 have HS3:Hid (Save (fun _=>True) w2 w3):=by
  have h1:Below w2.heap.size w2 (w2.alloc (.cells Z 55)):=(Below.refl _ _).alloc (Nat.le_refl _) _
  exact Save.of (h1.trans (HSw3.o.below AO (fun k hk=>by omega)))
 have HI3:Hid (eY w3 p M1):=by rw[Hid,hp];exact⟨by rw[←hC1.o];exact HBw3.o,by rw[hM1.o];rfl,by rw[hM1.o];rfl⟩
 have HR3:=AQ (HR2.o.save HS3.o trivial (fun _ _ _=>trivial))
 have H3:Hid (w3.heap[R]? =some (.cells Z 55 (0,0))∧Below w.heap.size w w3):=⟨(HS3.o.block R (Array.getElem?_eq_some_iff.1 H2.o.1).1 trivial).trans H2.o.1,H2.o.2.trans (HS3.o.below H2.o.2.size (fun _ _=>trivial))⟩
 have HP3:Hid (T≤w3.heap.size):=by have:=HI3.o.lt;have:=HPT.o;rw[Hid];omega
 rw[←hp]
 clear hwa HS3 HBw3 HSw3 HR2 H2 HBV HC1 HNW hp
 obtain⟨P2,hP2⟩:=AU ((QY l).1)
 obtain⟨s2,hs2⟩:=AU ((QY l).2)
 have HL2:Hid (P2.length=32):=by rw[Hid,hP2.o];exact yF _
 have hk:=uP HR3.o HP3.o (by have:=HBP.o;have:=HI3.o.lt;omega)
 rw[show s1.tag=QY l by rw[hs1.o];rfl,←hP2.o,←hs2.o] at hk
 have HC2:=AQ (bP P2 HL2.o)
 obtain⟨T2,hT2⟩:=AU ((P2.map vb).toArray)
 rw[←hT2.o] at hk HC2
 have HK:=AQ hk
 have f1:=mf1 p
 have f2:=mf2 p
 have f3:=OQ p
 have f4:=Uy p
 clear hk
 go_wp2_with fail
 refine(HK.o).mono ?_
 rintro e w4 ⟨rfl,hRd,hS4⟩
 have hpb:p≠b:=by have:=HBP.o;omega
 have hRb:R≠b:=by have:=HBB.o;omega
 have HI4:=AQ (HI3.o.save hS4 hpb)
 have HR4:=AQ hRd
 have H4:Hid (w4.heap[R]? =some (.cells Z 55 (0,0))∧Below w.heap.size w w4):=⟨(hS4.block R (Array.getElem?_eq_some_iff.1 H3.o.1).1 hRb).trans H3.o.1,H3.o.2.trans (hS4.below H3.o.2.size (fun k hk=>by have:=HBB.o;have:=HRR.o;omega))⟩
 clear hRd hS4 HK HI3 HR3 H3 hpb hRb
 go_upto_region 4 with ((with_reducible refine dO (o:=⟨none, .store _ (.tmp 15) (.tmp 14),_,_,_,_⟩) (C:=cM M1) dP.info (.tmp 15) (.tmp 14) AA AA AA AA AA HC2.o.1 HI4.o.blk (by rw[HI4.o.size];decide) HC2.o.2 ?_);intro w5 hbw5 hSw5;have HBw5:=AQ hbw5;have HSw5:=AQ hSw5;clear hbw5 hSw5)
 obtain⟨M2,hM2⟩:∃M:aV,Hid (M= {M1 with prev:=P2}):=⟨_,rfl⟩
 have hSp:Save (· ≠p) w4 w5:=HSw5.o
 have HI5:Hid (eY w5 p M2):=by
  rw[Hid,hM2.o]
  refine⟨HBw5.o.trans ?_,HL2.o,HI4.o.t32⟩
  rw[hT2.o,show lZ (cM M1) 1 _=cM {M1 with prev:=P2} from vY HI4.o.p32 HL2.o]
 have HR5:=AQ (HR4.o.newer hSp HPT.o (by have:=HBP.o;omega))
 have H5:Hid (w5.heap[R]? =some (.cells Z 55 (0,0))∧Below w.heap.size w w5):=⟨(hSp.block R (Array.getElem?_eq_some_iff.1 H4.o.1).1 (by have:=HBB.o;have:=HBP.o;omega)).trans H4.o.1,H4.o.2.trans (hSp.below H4.o.2.size (fun k hk=>by have:=HBB.o;have:=HBP.o;have:=HRR.o;omega))⟩
 clear hSp HBw5 HSw5 HI4 HR4 H4 HC2
 obtain⟨n3,hn3⟩:=AU ((QO l).1)
 obtain⟨s3,hs3⟩:=AU ((QO l).2)
 have hk:=jH HR5.o
 rw[show s2.int=QO l by rw[hs2.o];rfl,←hn3.o,←hs3.o] at hk
 have HK:=AQ hk
 clear hk
 go_wp2_with fail
 refine(HK.o).mono ?_
 rintro e w6 ⟨rfl,hRd,hS6⟩
 have hpb:p≠b:=by have:=HBP.o;omega
 have hRb:R≠b:=by have:=HBB.o;omega
 have HI6:=AQ (HI5.o.save hS6 hpb)
 have HR6:=AQ hRd
 have H6:Hid (w6.heap[R]? =some (.cells Z 55 (0,0))∧Below w.heap.size w w6):=⟨(hS6.block R (Array.getElem?_eq_some_iff.1 H5.o.1).1 hRb).trans H5.o.1,H5.o.2.trans (hS6.below H5.o.2.size (fun k hk=>by have:=HBB.o;have:=HRR.o;omega))⟩
 have u33:=HI6.o.trial
 have z33:w6.frozen? ⟨p,33,none⟩=false:=by simp[World.frozen?,HI6.o.blk]
 clear hRd hS6 HK HI5 HR5 H5 hpb hRb
 obtain⟨w7,hw7⟩:=AV (w6.setCell ⟨p,33,none⟩ (.int .i64 n3.1))
 obtain⟨M3,hM3⟩:∃M:aV,Hid (M= {M2 with trial:=n3}):=⟨_,rfl⟩
 have hSp:Save (· ≠p) w6 w7:=by rw[hw7];exact Save.set
 have HI7:Hid (eY w7 p M3):=by rw[Hid,hw7,hM3.o];exact HI6.o.Aa n3
 have HR7:=AQ (HR6.o.newer hSp HPT.o (by have:=HBP.o;omega))
 have H7:Hid (w7.heap[R]? =some (.cells Z 55 (0,0))∧Below w.heap.size w w7):=⟨(hSp.block R (Array.getElem?_eq_some_iff.1 H6.o.1).1 (by have:=HBB.o;have:=HBP.o;omega)).trans H6.o.1,H6.o.2.trans (hSp.below H6.o.2.size (fun k hk=>by have:=HBB.o;have:=HBP.o;have:=HRR.o;omega))⟩
 obtain⟨X4,hX4⟩:=AU ((Nl l).1)
 obtain⟨s4,hs4⟩:=AU ((Nl l).2)
 have hk:=sW HR7.o
 rw[show s3.bytes=Nl l by rw[hs3.o];rfl,show Nl l=(X4,s4) by rw[hX4.o,hs4.o]] at hk
 have HK:=AQ hk
 clear hSp HI6 HR6 H6 hk
 go_upto_region 5 with fail
 rw[←hw7]
 clear hw7 u33 z33
 go_wp2_with fail
 refine(HK.o).mono ?_
 rintro e w8 ⟨a8,X8,c8,hX8,rfl,hM8,hRd,hS8⟩
 obtain rfl:X8=X4:=hX8.o
 have hpb:p≠b:=by have:=HBP.o;omega
 have hRb:R≠b:=by have:=HBB.o;omega
 have HI8:=AQ (HI7.o.save hS8 hpb)
 have HR8:Hid (iP w0.heap.size T w8 b s4):=hRd
 have H8:Hid (w8.heap[R]? =some (.cells Z 55 (0,0))∧Below w.heap.size w w8):=⟨(hS8.block R (Array.getElem?_eq_some_iff.1 H7.o.1).1 hRb).trans H7.o.1,H7.o.2.trans (hS8.below H7.o.2.size (fun k hk=>by have:=HBB.o;have:=HRR.o;omega))⟩
 obtain⟨E,hE⟩:=AU (uz X8)
 have hk:=Au w8 hM8.row
 rw[←hE.o] at hk
 have HK:=AQ hk
 clear hk hM8 hRd hS8 hpb hRb HI7 HR7 H7 hX8
 go_wp2_with fail
 refine(HK.o).mono ?_
 rintro e w9 ⟨U,rfl,hU,hFU,hb9⟩
 have HI9:=AQ (HI8.o.keep hb9)
 have HR9:=AQ (HR8.o.stay hb9)
 have H9:Hid (w9.heap[R]? =some (.cells Z 55 (0,0))∧Below w.heap.size w w9):=⟨aG H8.o.1 hb9,H8.o.2.trans (hb9.mono H8.o.2.size)⟩
 have HU:=AQ (And.intro hU hFU)
 have HWP:Hid (p<w8.heap.size):=HI8.o.lt
 obtain⟨q,hq⟩:=AV (w9.heap.size)
 obtain⟨wa,hwa⟩:=AV (w9.alloc (.cells #[.slice U.wa U.ws.length U.wc, .slice U.pa U.ps.length U.pc, .slice U.ca U.cs.length U.cc] 26))
 have hba:Below w9.heap.size w9 wa:=by rw[hwa];exact(Below.refl _ _).alloc (Nat.le_refl _) _
 have hQI:gU wa q U:=by rw[hwa,hq];exact dK w9 U _
 obtain⟨v0,v1,v2⟩:=hQI
 have HIa:=AQ (HI9.o.keep hba)
 have HRa:=AQ (HR9.o.stay hba)
 have Ha:Hid (wa.heap[R]? =some (.cells Z 55 (0,0))∧Below w.heap.size w wa):=⟨aG H9.o.1 hba,H9.o.2.trans (hba.mono H9.o.2.size)⟩
 have HUa:=AQ (HU.o.2.stay hba)
 have HCU:Hid ((#[.slice U.wa U.ws.length U.wc, .slice U.pa U.ps.length U.pc, .slice U.ca U.cs.length U.cc]:Array Value).all (·.oneCell')=true):=DL U
 clear hU hFU hb9 hba HK HI8 HR8 H8 HI9 HR9 H9
 go_upto_region 6 with fail
 rw[←hwa,←hq]
 clear hwa hq
 go_upto_region 7 with ((with_reducible refine dO (o:=⟨none, .store _ (.tmp 26) (.tmp 25),_,_,_,_⟩) (C:=cM M3) QL.info (.tmp 26) (.tmp 25) AA AA AA AA AA rfl HIa.o.blk (by rw[HIa.o.size];decide) HCU.o ?_);intro wb hbwb hSwb;have HBwb:=AQ hbwb;have HSwb:=AQ hSwb;clear hbwb hSwb)
 obtain⟨M4,hM4⟩:∃M:aV,Hid (M= {M3 with cfg:=U}):=⟨_,rfl⟩
 have hSp:Save (· ≠p) wa wb:=HSwb.o
 have HIb:Hid (eY wb p M4):=by
  rw[Hid,hM4.o]
  refine⟨HBwb.o.trans ?_,HIa.o.p32,HIa.o.t32⟩
  rw[show lZ (cM M3) 34 _=cM {M3 with cfg:=U} from yL HIa.o.p32 U]
 have HRb:=AQ (HRa.o.newer hSp HPT.o (by have:=HBP.o;omega))
 have Hb:Hid (wb.heap[R]? =some (.cells Z 55 (0,0))∧Below w.heap.size w wb):=⟨(hSp.block R (Array.getElem?_eq_some_iff.1 Ha.o.1).1 (by have:=HBB.o;have:=HBP.o;omega)).trans Ha.o.1,Ha.o.2.trans (hSp.below Ha.o.2.size (fun k hk=>by have:=HBB.o;have:=HBP.o;have:=HRR.o;omega))⟩
 have HUb:Hid (bV w8.heap.size wb U):=HUa.o.lg hSp (fun k hk=>by have:=HWP.o;omega)
 have HPb:Hid (T≤wb.heap.size):=by have:=HIb.o.lt;have:=HPT.o;rw[Hid];omega
 clear hSp HBwb HSwb HIa HRa Ha HUa HCU v0 v1 v2
 obtain⟨P5,hP5⟩:=AU ((Rh l).1)
 obtain⟨s5,hs5⟩:=AU ((Rh l).2)
 have HL5:Hid (P5.length=32):=by rw[Hid,hP5.o];exact yF _
 have hk:=uP HRb.o HPb.o (by have:=HBP.o;have:=HIb.o.lt;omega)
 rw[show s4.tag=Rh l by rw[hs4.o];rfl,←hP5.o,←hs5.o] at hk
 have HC5:=AQ (bP P5 HL5.o)
 obtain⟨T5,hT5⟩:=AU ((P5.map vb).toArray)
 rw[←hT5.o] at hk HC5
 have HK:=AQ hk
 clear hk
 go_wp2_with fail
 refine(HK.o).mono ?_
 rintro e wc ⟨rfl,hRd,hSc⟩
 have hpb:p≠b:=by have:=HBP.o;omega
 have hRb:R≠b:=by have:=HBB.o;omega
 have HIc:=AQ (HIb.o.save hSc hpb)
 have HRc:=AQ hRd
 have Hc:Hid (wc.heap[R]? =some (.cells Z 55 (0,0))∧Below w.heap.size w wc):=⟨(hSc.block R (Array.getElem?_eq_some_iff.1 Hb.o.1).1 hRb).trans Hb.o.1,Hb.o.2.trans (hSc.below Hb.o.2.size (fun k hk=>by have:=HBB.o;have:=HRR.o;omega))⟩
 have HUc:Hid (bV w8.heap.size wc U):=HUb.o.lg hSc (fun k hk=>by have:=HWP.o;have:=HBP.o;omega)
 clear hRd hSc HK HIb HRb Hb HUb hpb hRb
 go_upto_region 8 with ((with_reducible refine dO (o:=⟨none, .store _ (.tmp 29) (.tmp 28),_,_,_,_⟩) (C:=cM M4) dP.info (.tmp 29) (.tmp 28) AA AA AA AA AA HC5.o.1 HIc.o.blk (by rw[HIc.o.size];decide) HC5.o.2 ?_);intro wd hbwd hSwd;have HBwd:=AQ hbwd;have HSwd:=AQ hSwd;clear hbwd hSwd)
 obtain⟨M5,hM5⟩:∃M:aV,Hid (M= {M4 with tag:=P5}):=⟨_,rfl⟩
 have hSp:Save (· ≠p) wc wd:=HSwd.o
 have HId:Hid (eY wd p M5):=by
  rw[Hid,hM5.o]
  refine⟨HBwd.o.trans ?_,HIc.o.p32,HL5.o⟩
  rw[hT5.o,show lZ (cM M4) 37 _=cM {M4 with tag:=P5} from EX HIc.o.p32 HIc.o.t32 HL5.o]
 have HRd:=AQ (HRc.o.newer hSp HPT.o (by have:=HBP.o;omega))
 have Hd:Hid (wd.heap[R]? =some (.cells Z 55 (0,0))∧Below w.heap.size w wd):=⟨(hSp.block R (Array.getElem?_eq_some_iff.1 Hc.o.1).1 (by have:=HBB.o;have:=HBP.o;omega)).trans Hc.o.1,Hc.o.2.trans (hSp.below Hc.o.2.size (fun k hk=>by have:=HBB.o;have:=HBP.o;have:=HRR.o;omega))⟩
 have HUd:Hid (bV w8.heap.size wd U):=HUc.o.lg hSp (fun k hk=>by have:=HWP.o;omega)
 have HAd:Hid (M5.At wd):=⟨HId.o.p32,HId.o.t32,by rw[hM5.o,hM4.o];exact HUd.o.at⟩
 have HMR:Hid (M5.man=Hl l):=by
  rw[Hid,hM5.o,hM4.o,hM3.o,hM2.o,hM1.o,hP5.o,hn3.o,hP2.o,hn1.o]
  show(⟨_,_,_,U.cfg,_⟩:oZ)=_
  rw[HU.o.1,hX4.o];rfl
 have HWR:Hid (w.heap.size≤w8.heap.size):=by have:=HWP.o;have:=HBP.o;have:=HBB.o;have:=HRR.o;rw[Hid];omega
 clear hSp HBwd HSwd HIc HRc Hc HUc HC5
 obtain⟨C,hC⟩:=AU (cM M5)
 obtain⟨F,hF⟩:=AU s5.fin
 obtain⟨x,hx⟩:=AU (decide (F=0))
 obtain⟨y,hy⟩:=AU (decide (E=0))
 obtain⟨k,hk⟩:=AU (jK M5)
 obtain⟨ok,hok⟩:=AU (qY l)
 have HOK:Hid ((((!x) || (!y)) || (!k))=(!ok)):=by
  rw[Hid,hok.o,qY,←HMR.o,←iE,←hk.o,←hX4.o,←hE.o,←hy.o,←hs5.o,←hF.o,←hx.o]
  cases x<;>cases y<;>cases k<;>rfl
 have HX:Hid (((F:Int) !=0)= !x):=by rw[Hid,hx.o];rfl
 have HY:Hid (((E:Int) !=0)= !y):=by rw[Hid,hy.o];rfl
 have HE:Hid (∀q:After wd,Calls Tryz.prog 67 #[.pointer (some ⟨b,0,none⟩)] q.to fun e w'=>e= .returned (.int .i64 F)∧Below q.to.heap.size q.to w'):=fun q=>(xZ (HRd.o.stay q.bel)).mono fun e w' ⟨he,hw⟩=>⟨by rw[he,hF.o],hw.below _⟩
 have HC:Hid (∀q:After wd,Calls Tryz.prog 16 #[.agg C] q.to fun e w'=>e= .returned (.bool k)∧Below q.to.heap.size q.to w'):=fun q=>by rw[hC.o,hk.o];exact oh q.to M5 (HAd.o.stay q.bel)
 have C5:∀q:After wd,(Instr.loadAt 55 (.pointer (some ⟨p,0,none⟩))).run Tryz.prog q.to= .ok (.agg C) q.to:=fun q=>by rw[hC.o];exact(HId.o.keep q.bel).whole
 refine fQ (Uz b p C F E x y k) (Tt b p C F E x y k) [4,5,7] AB ⟨rfl,rfl,rfl,trivial⟩ ?_ ?_
 ·repeat' (first |exact aU |refine aI ?_ ?_)
  all_goals intro a hk
  ·
   exact .inl ⟨ah rfl,bZ (.tmp 4) rfl (hk.o 4)⟩
  ·
   exact .inl ⟨ah rfl,iD rfl rfl #[(.pointer (some ⟨b,0,none⟩))] (fun w=>AB) (by simp only[List.map_toArray,List.map_cons,List.map_nil,(show a.eval (.tmp 30)=(.pointer (some ⟨b,0,none⟩)) from hk.s 30)]) (v:=(.int .i64 F)) (fun q=>HE.o q) rfl⟩
  ·
   exact .inl ⟨ah rfl,jG rfl (hk.s 31) rfl (v:= .bool (((F:Int) !=0))) (fun w=>AB) (congrArg Value.bool (HX.o))⟩
  ·
   exact .inl ⟨ah rfl,bZ (.tmp 32) rfl (hk.s 32)⟩
  ·
   cases x<;>first |exact hk.no 33 false |skip
   exact .inl ⟨hk.yes 33 false,bZ (.tmp 7) rfl (hk.o 7)⟩
  ·
   cases x<;>first |exact hk.no 33 false |skip
   exact .inl ⟨hk.yes 33 false,jG rfl (hk.s 34) rfl (v:= .bool (((E:Int) !=0))) (fun w=>AB) (congrArg Value.bool (HY.o))⟩
  ·
   cases x with
   |
    true=>
    exact .inl ⟨ah rfl,aT rfl false (hk.s 33) (hk.s 35)⟩
   |
    false=>
    exact .inl ⟨ah rfl,aT rfl true (hk.s 33) rfl⟩
  ·
   exact .inl ⟨ah rfl,bZ (.tmp 36) rfl (hk.s 36)⟩
  ·
   cases x<;>cases y<;>first |exact hk.no 37 false |skip
   exact .inl ⟨hk.yes 37 false,dG (.tmp 5) rfl (hk.o 5) (v:=(.agg C)) (fun q=>C5 q) rfl⟩
  ·
   cases x<;>cases y<;>first |exact hk.no 37 false |skip
   exact .inl ⟨hk.yes 37 false,iD rfl rfl #[(.agg C)] (fun w=>AB) (by simp only[List.map_toArray,List.map_cons,List.map_nil,(show a.eval (.tmp 38)=(.agg C) from hk.s 38)]) (v:=(.bool k)) (fun q=>HC.o q) rfl⟩
  ·
   cases x<;>cases y<;>first |exact hk.no 37 false |skip
   exact .inl ⟨hk.yes 37 false,FK rfl _ (hk.s 39) rfl⟩
  ·
   cases x with
   |
    true=>
    cases y with
    |
     true=>
     exact .inl ⟨ah rfl,aT rfl false (hk.s 37) (hk.s 40)⟩
    |
     false=>
     exact .inl ⟨ah rfl,aT rfl true (hk.s 37) rfl⟩
   |
    false=>
    exact .inl ⟨ah rfl,aT rfl true (hk.s 37) rfl⟩
 intro a ⟨we,hbe⟩ hsame hall
 have he:=dn hsame [30,31,32,33,34,35,36,37,38,39,40,41] AB
 simp only[List.foldl_cons,List.foldl_nil] at he
 rw[show a.eval (.tmp 41)=(.bool (!ok)) from(hall 41 AB).trans (congrArg Value.bool HOK.o)] at he
 generalize a.eval (.tmp 30)=x30 at he
 generalize a.eval (.tmp 31)=x31 at he
 generalize a.eval (.tmp 32)=x32 at he
 generalize a.eval (.tmp 33)=x33 at he
 generalize a.eval (.tmp 34)=x34 at he
 generalize a.eval (.tmp 35)=x35 at he
 generalize a.eval (.tmp 36)=x36 at he
 generalize a.eval (.tmp 37)=x37 at he
 generalize a.eval (.tmp 38)=x38 at he
 generalize a.eval (.tmp 39)=x39 at he
 generalize a.eval (.tmp 40)=x40 at he
 simp only[fV] at he
 dsimp only[List.set_cons_zero,List.set_cons_succ] at he
 subst he
 clear hsame hall
 have HIe:=AQ (HId.o.keep hbe)
 have He:Hid (we.heap[R]? =some (.cells Z 55 (0,0))∧Below w.heap.size w we):=⟨aG Hd.o.1 hbe,Hd.o.2.trans (hbe.mono Hd.o.2.size)⟩
 have HUe:=AQ (HUd.o.stay hbe)
 have hw:=HIe.o.whole
 rw[←hC.o] at hw
 have HLe:=AQ hw
 have HCS:Hid (C.size=69∧C.all (·.oneCell')=true):=by rw[hC.o];exact⟨HIe.o.size,fP _⟩
 clear hw HE HC C5 HX HY HOK
 cases ok with
 |
  false=>
  go_wp2_with (first |((with_reducible refine aj (o:=⟨some 42, .build _ _,_,_,_,_⟩) AA (HBM.o _ _ _ _ _ _) ?_)) |((with_reducible refine ay (o:=⟨none, .store _ (.tmp 2) (.tmp 42),_,_,_,_⟩) iw (.tmp 2) (.tmp 42) AA AA AA AA AA He.o.1 HZS.o.1 HZS.o.1 HZS.o.2 ?_);intro wf hbwf hSwf;have HBwf:=AQ hbwf;have HSwf:=AQ hSwf;clear hbwf hSwf))
  refine bodyPost_ret (jS iw rfl rfl HBwf.o HZS.o.1) rfl ⟨zM, ?_, ?_,lI _ _, ?_⟩
  ·rw[hPE.o,nX,←hok.o,hZ.o];rfl
  ·rw[hPK.o,qy,←hok.o];rfl
  ·exact He.o.2.trans (HSwf.o.below He.o.2.size (fun k hk=>by have:=HRR.o;omega))
 |
  true=>
  go_wp2_with (first |(with_reducible refine aN (o:=⟨some 43, .load 55 (.tmp 5),_,_,_,_⟩) AA AA AA HLe.o ?_) |((with_reducible refine ay (o:=⟨none, .store _ (.tmp 2) (.tmp 43),_,_,_,_⟩) iw (.tmp 2) (.tmp 43) AA AA AA AA AA He.o.1 HZS.o.1 HCS.o.1 HCS.o.2 ?_);intro wf hbwf hSwf;have HBwf:=AQ hbwf;have HSwf:=AQ hSwf;clear hbwf hSwf))
  refine bodyPost_ret (jS iw rfl rfl HBwf.o HCS.o.1) rfl ⟨M5, ?_, ?_,⟨HIe.o.p32,HIe.o.t32, ?_⟩, ?_⟩
  ·rw[hPE.o,nX,←hok.o,hC.o];rfl
  ·rw[hPK.o,qy,←hok.o];exact HMR.o
  ·have:=HUe.o.lg HSwf.o (fun k hk=>by have:=HWP.o;have:=HBP.o;have:=HBB.o;omega)
   rw[hM5.o,hM4.o]
   exact this.low HWR.o
  ·exact He.o.2.trans (HSwf.o.below He.o.2.size (fun k hk=>by have:=HRR.o;omega))
instance:DecidableEq oZ:=fun a b=>if h:a.ver=b.ver∧a.prev=b.prev∧a.trial=b.trial∧a.cfg=b.cfg∧a.tag=b.tag then isTrue (by cases a;cases b;simp_all) else isFalse (by rintro rfl;simp at h)
theorem Gm:vW Tryz.prog 53 5 32 .u8:=⟨Tryz.underlying53,Tryz.underlying5,by kernel_rfl,by kernel_rfl,by kernel_rfl,by kernel_rfl⟩
def VA (B:Nat) (M N:aV) (S1 S2 T1 T2:Array Value) (x1 x2 x3 x4 x5:Bool):Nat→Value
 | 5=>(.pointer (some ⟨B,0,none⟩))
 | 6=>(.int .i64 M.ver.1)
 | 7=>(.pointer (some ⟨(B+1),0,none⟩))
 | 8=>(.int .i64 N.ver.1)
 | 9=>(.bool x1)
 | 10=>(.bool x1)
 | 11=>(bif x1 then (.pointer (some ⟨B,1,none⟩)) else undef)
 | 12=>(bif x1 then (.agg S1) else undef)
 | 13=>(bif x1 then (.pointer (some ⟨(B+1),1,none⟩)) else undef)
 | 14=>(bif x1 then (.agg S2) else undef)
 | 15=>(bif x1 then (.bool x2) else undef)
 | 16=>(.bool (x1 && x2))
 | 17=>(.bool (x1 && x2))
 | 18=>(bif (x1 && x2) then (.pointer (some ⟨B,33,none⟩)) else undef)
 | 19=>(bif (x1 && x2) then (.int .i64 M.trial.1) else undef)
 | 20=>(bif (x1 && x2) then (.pointer (some ⟨(B+1),33,none⟩)) else undef)
 | 21=>(bif (x1 && x2) then (.int .i64 N.trial.1) else undef)
 | 22=>(bif (x1 && x2) then (.bool x3) else undef)
 | 23=>(.bool ((x1 && x2) && x3))
 | 24=>(.bool ((x1 && x2) && x3))
 | 25=>(bif ((x1 && x2) && x3) then (.pointer (some ⟨B,37,none⟩)) else undef)
 | 26=>(bif ((x1 && x2) && x3) then (.agg T1) else undef)
 | 27=>(bif ((x1 && x2) && x3) then (.pointer (some ⟨(B+1),37,none⟩)) else undef)
 | 28=>(bif ((x1 && x2) && x3) then (.agg T2) else undef)
 | 29=>(bif ((x1 && x2) && x3) then (.bool x4) else undef)
 | 30=>(.bool (((x1 && x2) && x3) && x4))
 | 31=>(.bool (((x1 && x2) && x3) && x4))
 | 32=>(bif (((x1 && x2) && x3) && x4) then (.pointer (some ⟨B,34,none⟩)) else undef)
 | 33=>(bif (((x1 && x2) && x3) && x4) then (.agg #[.slice M.cfg.wa M.cfg.ws.length M.cfg.wc, .slice M.cfg.pa M.cfg.ps.length M.cfg.pc, .slice M.cfg.ca M.cfg.cs.length M.cfg.cc]) else undef)
 | 34=>(bif (((x1 && x2) && x3) && x4) then (.pointer (some ⟨(B+1),34,none⟩)) else undef)
 | 35=>(bif (((x1 && x2) && x3) && x4) then (.agg #[.slice N.cfg.wa N.cfg.ws.length N.cfg.wc, .slice N.cfg.pa N.cfg.ps.length N.cfg.pc, .slice N.cfg.ca N.cfg.cs.length N.cfg.cc]) else undef)
 | 36=>(bif (((x1 && x2) && x3) && x4) then (.bool x5) else undef)
 | 37=>(.bool ((((x1 && x2) && x3) && x4) && x5))
 | 4=>(.bool ((((x1 && x2) && x3) && x4) && x5))
 | _=>undef
def U0 (B:Nat) (_ _:aV) (_ _ _ _:Array Value) (_ _ _ _ _:Bool):Nat→Value
 | 2=>(.pointer (some ⟨B,0,none⟩))
 | 3=>(.pointer (some ⟨(B+1),0,none⟩))
 | _=>undef
theorem qG (w:World) (M N:aV) (h:M.At w) (h':N.At w):Calls Tryz.prog 23 #[.agg (cM M), .agg (cM N)] w fun e w'=>e= .returned (.bool (decide (M.man=N.man)))∧Below w.heap.size w w':=by
 obtain⟨C,hC⟩:=AU (cM M)
 obtain⟨D,hD⟩:=AU (cM N)
 obtain⟨w0,hw0⟩:=AV ((w.alloc (.cells C 55)).alloc (.cells D 55))
 have B1:Below (w.alloc (.cells C 55)).heap.size (w.alloc (.cells C 55)) w0:=by rw[hw0];exact(Below.refl _ _).alloc (Nat.le_refl _) _
 have Ba:Below w.heap.size w (w.alloc (.cells C 55)):=(Below.refl _ w).alloc (Nat.le_refl _) _
 have B0:Below w.heap.size w w0:=Ba.trans (B1.mono AO)
 have HI:Hid (eY w0 w.heap.size M∧eY w0 (w.heap.size+1) N):=by
  refine⟨?_, ?_⟩
  ·rw[hC.o] at B1;exact(eY.new w h).keep B1
  ·have:=eY.new (w.alloc (.cells C 55)) (h'.stay Ba)
   rw[hw0,hD.o]
   simpa using this
 have HC:Hid (∀q:After w0,Calls Tryz.prog 68 #[.agg #[.slice M.cfg.wa M.cfg.ws.length M.cfg.wc, .slice M.cfg.pa M.cfg.ps.length M.cfg.pc, .slice M.cfg.ca M.cfg.cs.length M.cfg.cc], .agg #[.slice N.cfg.wa N.cfg.ws.length N.cfg.wc, .slice N.cfg.pa N.cfg.ps.length N.cfg.pc, .slice N.cfg.ca N.cfg.cs.length N.cfg.cc]] q.to fun e w'=>e= .returned (.bool (decide (M.cfg.cfg=N.cfg.cfg)))∧Below q.to.heap.size q.to w'):=fun q=>En q.to M.cfg N.cfg ((h.stay B0).cfg.stay q.bel) ((h'.stay B0).cfg.stay q.bel)
 have HB0:=AQ B0
 obtain⟨x5,hx5⟩:=AU (decide (M.cfg.cfg=N.cfg.cfg))
 rw[←hx5.o] at HC
 obtain⟨x1,hx1⟩:=AU (decide (M.ver.1=N.ver.1))
 obtain⟨x2,hx2⟩:=AU (decide (M.prev=N.prev))
 obtain⟨x3,hx3⟩:=AU (decide (M.trial.1=N.trial.1))
 obtain⟨x4,hx4⟩:=AU (decide (M.tag=N.tag))
 obtain⟨R,hR⟩:=AU (decide (M.man=N.man))
 have HR:Hid (R=((((x1 && x2) && x3) && x4) && x5)):=by
  rw[Hid,hR.o,hx1.o,hx2.o,hx3.o,hx4.o,hx5.o,Bool.eq_iff_iff]
  simp only[Bool.and_eq_true,decide_eq_true_eq,aV.man,oZ.mk.injEq]
  constructor
  ·rintro⟨e1,e2,e3,e4,e5⟩;exact⟨⟨⟨⟨by rw[e1],e2⟩,by rw[e3]⟩,e5⟩,e4⟩
  ·rintro⟨⟨⟨⟨e1,e2⟩,e3⟩,e5⟩,e4⟩;exact⟨Subtype.ext e1,e2,Subtype.ext e3,e4,e5⟩
 have HX1:Hid (((M.ver.1:Int)==N.ver.1)=x1):=by rw[Hid,hx1.o];rfl
 have HX3:Hid (((M.trial.1:Int)==N.trial.1)=x3):=by rw[Hid,hx3.o];rfl
 obtain⟨S1,hS1⟩:=AU ((M.prev.map vb).toArray)
 obtain⟨S2,hS2⟩:=AU ((N.prev.map vb).toArray)
 obtain⟨T1,hT1⟩:=AU ((M.tag.map vb).toArray)
 obtain⟨T2,hT2⟩:=AU ((N.tag.map vb).toArray)
 have HX2:Hid (∀w:World,(do eqGuard .eql 53 (.tmp 12) (.tmp 14) (.agg S1) (.agg S2);binOp .eql 53 (.agg S1) (.agg S2):Sem Value).run Tryz.prog w= .ok (.bool x2) w):=fun w=>by
  rw[hS1.o,hS2.o,hx2.o];exact oO Gm.guard _ _ (lV Gm _ _ HI.o.1.p32 HI.o.2.p32) w
 have HX4:Hid (∀w:World,(do eqGuard .eql 53 (.tmp 26) (.tmp 28) (.agg T1) (.agg T2);binOp .eql 53 (.agg T1) (.agg T2):Sem Value).run Tryz.prog w= .ok (.bool x4) w):=fun w=>by
  rw[hT1.o,hT2.o,hx4.o];exact oO Gm.guard _ _ (lV Gm _ _ HI.o.1.t32 HI.o.2.t32) w
 have L1:∀q:After w0,(Instr.loadAt 53 (.pointer (some ⟨w.heap.size,1,none⟩))).run Tryz.prog q.to= .ok (.agg S1) q.to:=fun q=>by rw[hS1.o];exact(HI.o.1.keep q.bel).prev
 have L2:∀q:After w0,(Instr.loadAt 53 (.pointer (some ⟨w.heap.size+1,1,none⟩))).run Tryz.prog q.to= .ok (.agg S2) q.to:=fun q=>by rw[hS2.o];exact(HI.o.2.keep q.bel).prev
 have L3:∀q:After w0,(Instr.loadAt 53 (.pointer (some ⟨w.heap.size,37,none⟩))).run Tryz.prog q.to= .ok (.agg T1) q.to:=fun q=>by rw[hT1.o];exact(HI.o.1.keep q.bel).tag
 have L4:∀q:After w0,(Instr.loadAt 53 (.pointer (some ⟨w.heap.size+1,37,none⟩))).run Tryz.prog q.to= .ok (.agg T2) q.to:=fun q=>by rw[hT2.o];exact(HI.o.2.keep q.bel).tag
 rw[←hC.o,←hD.o,←hR.o]
 clear h h' B0 B1 Ba
 go_enter Tryz.func23,Tryz.ntmps23
 go_upto_region 1 with fail
 rw[←hw0]
 clear hw0
 refine fQ (VA w.heap.size M N S1 S2 T1 T2 x1 x2 x3 x4 x5) (U0 w.heap.size M N S1 S2 T1 T2 x1 x2 x3 x4 x5) [2,3] AB ⟨rfl,rfl,trivial⟩ ?_ ?_
 ·repeat' (first |exact aU |refine aI ?_ ?_)
  all_goals intro a hk
  ·
   exact .inl ⟨ah rfl,eP (.tmp 2) rfl (hk.o 2) (v:=(.pointer (some ⟨w.heap.size,0,none⟩))) (fun w=>AB) rfl⟩
  ·
   exact .inl ⟨ah rfl,dG (.tmp 5) rfl (hk.s 5) (v:=(.int .i64 M.ver.1)) (fun q=>bM (fun w=>AB) (HI.o.1.keep q.bel).ver) rfl⟩
  ·
   exact .inl ⟨ah rfl,eP (.tmp 3) rfl (hk.o 3) (v:=(.pointer (some ⟨(w.heap.size+1),0,none⟩))) (fun w=>AB) rfl⟩
  ·
   exact .inl ⟨ah rfl,dG (.tmp 7) rfl (hk.s 7) (v:=(.int .i64 N.ver.1)) (fun q=>bM (fun w=>AB) (HI.o.2.keep q.bel).ver) rfl⟩
  ·
   exact .inl ⟨ah rfl,jG rfl (hk.s 6) (hk.s 8) (v:= .bool (((M.ver.1:Int)==N.ver.1))) (fun w=>AB) (congrArg Value.bool (HX1.o))⟩
  ·
   exact .inl ⟨ah rfl,bZ (.tmp 9) rfl (hk.s 9)⟩
  ·
   cases x1<;>first |exact hk.no 10 true |skip
   exact .inl ⟨hk.yes 10 true,eP (.tmp 2) rfl (hk.o 2) (v:=(.pointer (some ⟨w.heap.size,1,none⟩))) (fun w=>AB) rfl⟩
  ·
   cases x1<;>first |exact hk.no 10 true |skip
   exact .inl ⟨hk.yes 10 true,dG (.tmp 11) rfl (hk.s 11) (v:=(.agg S1)) (fun q=>L1 q) rfl⟩
  ·
   cases x1<;>first |exact hk.no 10 true |skip
   exact .inl ⟨hk.yes 10 true,eP (.tmp 3) rfl (hk.o 3) (v:=(.pointer (some ⟨(w.heap.size+1),1,none⟩))) (fun w=>AB) rfl⟩
  ·
   cases x1<;>first |exact hk.no 10 true |skip
   exact .inl ⟨hk.yes 10 true,dG (.tmp 13) rfl (hk.s 13) (v:=(.agg S2)) (fun q=>L2 q) rfl⟩
  ·
   cases x1<;>first |exact hk.no 10 true |skip
   exact .inl ⟨hk.yes 10 true,jG rfl (hk.s 12) (hk.s 14) (v:=(.bool x2)) (fun w=>HX2.o w) rfl⟩
  ·
   cases x1 with
   |
    true=>
    exact .inl ⟨ah rfl,aT rfl true (hk.s 10) (hk.s 15)⟩
   |
    false=>
    exact .inl ⟨ah rfl,aT rfl false (hk.s 10) rfl⟩
  ·
   exact .inl ⟨ah rfl,bZ (.tmp 16) rfl (hk.s 16)⟩
  ·
   cases x1<;>cases x2<;>first |exact hk.no 17 true |skip
   exact .inl ⟨hk.yes 17 true,eP (.tmp 2) rfl (hk.o 2) (v:=(.pointer (some ⟨w.heap.size,33,none⟩))) (fun w=>AB) rfl⟩
  ·
   cases x1<;>cases x2<;>first |exact hk.no 17 true |skip
   exact .inl ⟨hk.yes 17 true,dG (.tmp 18) rfl (hk.s 18) (v:=(.int .i64 M.trial.1)) (fun q=>bM (fun w=>AB) (HI.o.1.keep q.bel).trial) rfl⟩
  ·
   cases x1<;>cases x2<;>first |exact hk.no 17 true |skip
   exact .inl ⟨hk.yes 17 true,eP (.tmp 3) rfl (hk.o 3) (v:=(.pointer (some ⟨(w.heap.size+1),33,none⟩))) (fun w=>AB) rfl⟩
  ·
   cases x1<;>cases x2<;>first |exact hk.no 17 true |skip
   exact .inl ⟨hk.yes 17 true,dG (.tmp 20) rfl (hk.s 20) (v:=(.int .i64 N.trial.1)) (fun q=>bM (fun w=>AB) (HI.o.2.keep q.bel).trial) rfl⟩
  ·
   cases x1<;>cases x2<;>first |exact hk.no 17 true |skip
   exact .inl ⟨hk.yes 17 true,jG rfl (hk.s 19) (hk.s 21) (v:= .bool (((M.trial.1:Int)==N.trial.1))) (fun w=>AB) (congrArg Value.bool (HX3.o))⟩
  ·
   cases x1 with
   |
    true=>
    cases x2 with
    |
     true=>
     exact .inl ⟨ah rfl,aT rfl true (hk.s 17) (hk.s 22)⟩
    |
     false=>
     exact .inl ⟨ah rfl,aT rfl false (hk.s 17) rfl⟩
   |
    false=>
    exact .inl ⟨ah rfl,aT rfl false (hk.s 17) rfl⟩
  ·
   exact .inl ⟨ah rfl,bZ (.tmp 23) rfl (hk.s 23)⟩
  ·
   cases x1<;>cases x2<;>cases x3<;>first |exact hk.no 24 true |skip
   exact .inl ⟨hk.yes 24 true,eP (.tmp 2) rfl (hk.o 2) (v:=(.pointer (some ⟨w.heap.size,37,none⟩))) (fun w=>AB) rfl⟩
  ·
   cases x1<;>cases x2<;>cases x3<;>first |exact hk.no 24 true |skip
   exact .inl ⟨hk.yes 24 true,dG (.tmp 25) rfl (hk.s 25) (v:=(.agg T1)) (fun q=>L3 q) rfl⟩
  ·
   cases x1<;>cases x2<;>cases x3<;>first |exact hk.no 24 true |skip
   exact .inl ⟨hk.yes 24 true,eP (.tmp 3) rfl (hk.o 3) (v:=(.pointer (some ⟨(w.heap.size+1),37,none⟩))) (fun w=>AB) rfl⟩
  ·
   cases x1<;>cases x2<;>cases x3<;>first |exact hk.no 24 true |skip
   exact .inl ⟨hk.yes 24 true,dG (.tmp 27) rfl (hk.s 27) (v:=(.agg T2)) (fun q=>L4 q) rfl⟩
  ·
   cases x1<;>cases x2<;>cases x3<;>first |exact hk.no 24 true |skip
   exact .inl ⟨hk.yes 24 true,jG rfl (hk.s 26) (hk.s 28) (v:=(.bool x4)) (fun w=>HX4.o w) rfl⟩
  ·
   cases x1 with
   |
    true=>
    cases x2 with
    |
     true=>
     cases x3 with
     |
      true=>
      exact .inl ⟨ah rfl,aT rfl true (hk.s 24) (hk.s 29)⟩
     |
      false=>
      exact .inl ⟨ah rfl,aT rfl false (hk.s 24) rfl⟩
    |
     false=>
     exact .inl ⟨ah rfl,aT rfl false (hk.s 24) rfl⟩
   |
    false=>
    exact .inl ⟨ah rfl,aT rfl false (hk.s 24) rfl⟩
  ·
   exact .inl ⟨ah rfl,bZ (.tmp 30) rfl (hk.s 30)⟩
  ·
   cases x1<;>cases x2<;>cases x3<;>cases x4<;>first |exact hk.no 31 true |skip
   exact .inl ⟨hk.yes 31 true,eP (.tmp 2) rfl (hk.o 2) (v:=(.pointer (some ⟨w.heap.size,34,none⟩))) (fun w=>AB) rfl⟩
  ·
   cases x1<;>cases x2<;>cases x3<;>cases x4<;>first |exact hk.no 31 true |skip
   exact .inl ⟨hk.yes 31 true,dG (.tmp 32) rfl (hk.s 32) (v:=(.agg #[.slice M.cfg.wa M.cfg.ws.length M.cfg.wc, .slice M.cfg.pa M.cfg.ps.length M.cfg.pc, .slice M.cfg.ca M.cfg.cs.length M.cfg.cc])) (fun q=>(HI.o.1.keep q.bel).Ph) rfl⟩
  ·
   cases x1<;>cases x2<;>cases x3<;>cases x4<;>first |exact hk.no 31 true |skip
   exact .inl ⟨hk.yes 31 true,eP (.tmp 3) rfl (hk.o 3) (v:=(.pointer (some ⟨(w.heap.size+1),34,none⟩))) (fun w=>AB) rfl⟩
  ·
   cases x1<;>cases x2<;>cases x3<;>cases x4<;>first |exact hk.no 31 true |skip
   exact .inl ⟨hk.yes 31 true,dG (.tmp 34) rfl (hk.s 34) (v:=(.agg #[.slice N.cfg.wa N.cfg.ws.length N.cfg.wc, .slice N.cfg.pa N.cfg.ps.length N.cfg.pc, .slice N.cfg.ca N.cfg.cs.length N.cfg.cc])) (fun q=>(HI.o.2.keep q.bel).Ph) rfl⟩
  ·
   cases x1<;>cases x2<;>cases x3<;>cases x4<;>first |exact hk.no 31 true |skip
   exact .inl ⟨hk.yes 31 true,iD rfl rfl #[(.agg #[.slice M.cfg.wa M.cfg.ws.length M.cfg.wc, .slice M.cfg.pa M.cfg.ps.length M.cfg.pc, .slice M.cfg.ca M.cfg.cs.length M.cfg.cc]),(.agg #[.slice N.cfg.wa N.cfg.ws.length N.cfg.wc, .slice N.cfg.pa N.cfg.ps.length N.cfg.pc, .slice N.cfg.ca N.cfg.cs.length N.cfg.cc])] (fun w=>AB) (by simp only[List.map_toArray,List.map_cons,List.map_nil,(show a.eval (.tmp 33)=(.agg #[.slice M.cfg.wa M.cfg.ws.length M.cfg.wc, .slice M.cfg.pa M.cfg.ps.length M.cfg.pc, .slice M.cfg.ca M.cfg.cs.length M.cfg.cc]) from hk.s 33),(show a.eval (.tmp 35)=(.agg #[.slice N.cfg.wa N.cfg.ws.length N.cfg.wc, .slice N.cfg.pa N.cfg.ps.length N.cfg.pc, .slice N.cfg.ca N.cfg.cs.length N.cfg.cc]) from hk.s 35)]) (v:=(.bool x5)) (fun q=>HC.o q) rfl⟩
  ·
   cases x1 with
   |
    true=>
    cases x2 with
    |
     true=>
     cases x3 with
     |
      true=>
      cases x4 with
      |
       true=>
       exact .inl ⟨ah rfl,aT rfl true (hk.s 31) (hk.s 36)⟩
      |
       false=>
       exact .inl ⟨ah rfl,aT rfl false (hk.s 31) rfl⟩
     |
      false=>
      exact .inl ⟨ah rfl,aT rfl false (hk.s 31) rfl⟩
    |
     false=>
     exact .inl ⟨ah rfl,aT rfl false (hk.s 31) rfl⟩
   |
    false=>
    exact .inl ⟨ah rfl,aT rfl false (hk.s 31) rfl⟩
  ·
   exact .inl ⟨ah rfl,nH (.tmp 37) rfl (hk.s 37)⟩
 intro a ⟨w3,hb3⟩ hsame hall
 have he:=dn hsame [5,6,7,8,9,10,11,12,13,14,15,16,17,18,19,20,21,22,23,24,25,26,27,28,29,30,31,32,33,34,35,36,37,4] AB
 simp only[List.foldl_cons,List.foldl_nil] at he
 rw[show a.eval (.tmp 4)=(.bool R) from(hall 4 AB).trans (congrArg Value.bool HR.o.symm)] at he
 generalize a.eval (.tmp 5)=x5 at he
 generalize a.eval (.tmp 6)=x6 at he
 generalize a.eval (.tmp 7)=x7 at he
 generalize a.eval (.tmp 8)=x8 at he
 generalize a.eval (.tmp 9)=x9 at he
 generalize a.eval (.tmp 10)=x10 at he
 generalize a.eval (.tmp 11)=x11 at he
 generalize a.eval (.tmp 12)=x12 at he
 generalize a.eval (.tmp 13)=x13 at he
 generalize a.eval (.tmp 14)=x14 at he
 generalize a.eval (.tmp 15)=x15 at he
 generalize a.eval (.tmp 16)=x16 at he
 generalize a.eval (.tmp 17)=x17 at he
 generalize a.eval (.tmp 18)=x18 at he
 generalize a.eval (.tmp 19)=x19 at he
 generalize a.eval (.tmp 20)=x20 at he
 generalize a.eval (.tmp 21)=x21 at he
 generalize a.eval (.tmp 22)=x22 at he
 generalize a.eval (.tmp 23)=x23 at he
 generalize a.eval (.tmp 24)=x24 at he
 generalize a.eval (.tmp 25)=x25 at he
 generalize a.eval (.tmp 26)=x26 at he
 generalize a.eval (.tmp 27)=x27 at he
 generalize a.eval (.tmp 28)=x28 at he
 generalize a.eval (.tmp 29)=x29 at he
 generalize a.eval (.tmp 30)=x30 at he
 generalize a.eval (.tmp 31)=x31 at he
 generalize a.eval (.tmp 32)=x32 at he
 generalize a.eval (.tmp 33)=x33 at he
 generalize a.eval (.tmp 34)=x34 at he
 generalize a.eval (.tmp 35)=x35 at he
 generalize a.eval (.tmp 36)=x36 at he
 generalize a.eval (.tmp 37)=x37 at he
 simp only[fV] at he
 dsimp only[List.set_cons_zero,List.set_cons_succ] at he
 subst he
 clear hsame hall
 go_wp2_with fail
 go_ret
 exact⟨rfl,HB0.o.trans (hb3.mono HB0.o.size)⟩
end Go.Proofs.YtlholdllibghbaaGreat
