/- Texts of the proof, one behind the other: ManParse, Plain12. No condition but those that each names. -/
import Derived.Test.YtlholdllibghbaaGreatG31
import Derived.Test.YtlholdllibghbaaGreatG21
import Derived.Test.YtlholdllibghbaaGreatG13
import Derived.Test.YtlholdllibghbaaGreatKit
set_option maxRecDepth 100000
set_option maxHeartbeats 8000000
namespace Go.Proofs.YtlholdllibghbaaGreat
open Go Go.RowKit Go.Cit
def St.tag (s:St):List UInt8×St:=s.read 32 pW aH
theorem yF (s:St):s.tag.1.length=32:=zA s
theorem xM {base top w b s} (h:dU base top w b s) (ht:top≤w.heap.size):Calls Tryz.prog 58 #[.pointer (some ⟨b,0,none⟩)] w fun r w'=>r= .returned (.agg (s.tag.1.map vb).toArray)∧dU base top w' b s.tag.2∧Save (· ≠b) w w':=by
 obtain⟨a,c,h⟩:=h
 exact Jd h ht
def Q9 (l:List UInt8):I64×St:=(St.new l).int
def QY (l:List UInt8):List UInt8×St:=(Q9 l).2.tag
def QO (l:List UInt8):I64×St:=(QY l).2.int
def Nl (l:List UInt8):List UInt8×St:=(QO l).2.bytes
def Rh (l:List UInt8):List UInt8×St:=(Nl l).2.tag
def Hl (l:List UInt8):oZ:=⟨(Q9 l).1,(QY l).1,(QO l).1,xk (Nl l).1,(Rh l).1⟩
def Tn:oZ:=⟨⟨0,by decide⟩,aH,⟨0,by decide⟩,⟨[],[],[]⟩,aH⟩
def qY (l:List UInt8):Bool:=(decide ((Rh l).2.fin=0) && decide (uz (Nl l).1=0)) && yU (Hl l)
def qy (l:List UInt8):oZ:=if qY l then Hl l else Tn
def nX (l:List UInt8):Int:=if qY l then 0 else 140
def RS (n:I64):aV:=⟨n,aH,⟨0,by decide⟩,vZ,aH⟩
theorem CV (ρ:Operand→Value) (x:Operand) (n:I64) (e:ρ x= .int .i64 n.1) (d:Option Tmp) (ty:TypeId) (ps:String) {af} (w:World):
 (execOp ρ {dst:=d,op:=Op.build 55 #[(0,x)],type:=ty,pos:=ps,after:=af,guard:=none}).run Tryz.prog w= .ok (.value (.agg (cM (RS n)))) w:=by
 unfold execOp
 simp only[List.map_toArray,List.map_cons,List.map_nil,e]
 kernel_rfl
structure lQ (B:Nat) (w:World) (M:aV):Prop where
 p32:M.prev.length=32
 t32:M.tag.length=32
 cfg:bV B w M.cfg
theorem lQ.at {B:Nat} {w:World} {M:aV} (h:lQ B w M):M.At w:=⟨h.p32,h.t32,h.cfg.at⟩
theorem lI (B:Nat) (w:World):lQ B w zM:=⟨rfl,rfl,ou B w⟩
def VO (b _:Nat) (C:Array Value) (F E:Int) (x y k:Bool):Nat→Value
 | 30=>(.pointer (some ⟨b,0,none⟩))
 | 31=>(.int .i64 F)
 | 32=>(.bool (!x))
 | 33=>(.bool (!x))
 | 34=>(bif (!(!x)) then (.int .i64 E) else undef)
 | 35=>(bif (!(!x)) then (.bool (!y)) else undef)
 | 36=>(.bool ((!x) || (!y)))
 | 37=>(.bool ((!x) || (!y)))
 | 38=>(bif (!((!x) || (!y))) then (.agg C) else undef)
 | 39=>(bif (!((!x) || (!y))) then (.bool k) else undef)
 | 40=>(bif (!((!x) || (!y))) then (.bool (!k)) else undef)
 | 41=>(.bool (((!x) || (!y)) || (!k)))
 | _=>undef
def UA (b p:Nat) (_:Array Value) (_ E:Int) (_ _ _:Bool):Nat→Value
 | 4=>(.pointer (some ⟨b,0,none⟩))
 | 5=>(.pointer (some ⟨p,0,none⟩))
 | 7=>(.int .i64 E)
 | _=>undef
theorem vU (w:World) {a:Option Addr} {l:List UInt8} {c:Nat} (h:Row w a l c):Calls Tryz.prog 21 #[.slice a l.length c] w fun e w'=>∃S:aV,e= .returned (.tuple #[.agg (cM S), .int .i64 (nX l)])∧S.man=qy l∧lQ w.heap.size w' S∧Below w.heap.size w w':=by
 have HAM:=AQ (fun ρ d ty ps af w=>gV ρ d ty ps (af:=af) w)
 have HBM:=AQ (fun ρ d ty ps af w=>wW ρ d ty ps (af:=af) w)
 obtain⟨Z,hZ⟩:=AU (cM zM)
 rw[←hZ.o] at HAM HBM
 have HZS:Hid (Z.size=69∧Z.all (·.oneCell')=true):=by rw[hZ.o];exact⟨fM rfl rfl,fP _⟩
 obtain⟨R,hR⟩:=AV (w.heap.size)
 obtain⟨w0,hw0⟩:=AV (w.alloc (.cells Z 55))
 have B0:Below w.heap.size w w0:=by rw[hw0];exact(Below.refl _ w).alloc (Nat.le_refl _) _
 have hxR:w0.heap[R]? =some (.cells Z 55 (0,0)):=by rw[hw0,hR];exact heap_alloc_new _ _
 have HN:=AQ (qp w0 (h.stay B0))
 have H0:=AQ (And.intro hxR B0)
 have HRR:=AQ hR
 have HR1:Hid (w0.heap.size=R+1):=by rw[Hid,hw0,hR];simp
 obtain⟨PE,hPE⟩:=AU (nX l)
 obtain⟨PK,hPK⟩:=AU (qy l)
 rw[←hPE.o,←hPK.o]
 clear h hxR B0
 go_enter Tryz.func21,Tryz.ntmps21
 go_upto_region 1 with (((with_reducible refine aj (o:=⟨some 2, .alloc _,_,_,_,_⟩) AA (HAM.o _ _ _ _ _ _) ?_)))
 rw[←hw0,←hR]
 clear hw0 hR
 go_wp2_with fail
 refine(HN.o).mono ?_
 rintro e w1 ⟨rfl,hRd,hb1⟩
 obtain⟨b,hb⟩:=AV (w0.heap.size)
 rw[←hb] at hRd
 obtain⟨n1,hn1⟩:=AU ((Q9 l).1)
 obtain⟨s1,hs1⟩:=AU ((Q9 l).2)
 have hk:=eF hRd
 rw[show(St.new l).int=Q9 l from rfl,←hn1.o,←hs1.o] at hk
 have HK:=AQ hk
 have HT:Hid (b<w1.heap.size):=hRd.lt
 have H1:=AQ (And.intro (aG H0.o.1 hb1) (H0.o.2.trans (hb1.mono H0.o.2.size)))
 have HBB:Hid (b=R+1):=by rw[Hid,hb,HR1.o]
 obtain⟨T,hT⟩:=AU w1.heap.size
 rw[←hT.o] at HK
 clear hRd hb1 hk HN
 rw[←hb]
 clear hb
 go_wp2_with fail
 refine(HK.o).mono ?_
 rintro e w2 ⟨rfl,hRd,hS2⟩
 obtain⟨p,hp⟩:=AV (w2.heap.size)
 have HPT:Hid (T≤p):=by rw[Hid,hT.o,hp];exact hS2.size
 have HBP:Hid (b<p):=by rw[Hid,hp];have:=HT.o;have:=hS2.size;omega
 have HR2:=AQ hRd
 have H2:Hid (w2.heap[R]? =some (.cells Z 55 (0,0))∧Below w.heap.size w w2):=⟨(hS2.block R (Array.getElem?_eq_some_iff.1 H1.o.1).1 (by have:=HBB.o;omega)).trans H1.o.1,H1.o.2.trans (hS2.below H1.o.2.size (fun k hk=>by have:=HBB.o;have:=HRR.o;omega))⟩
 obtain⟨M1,hM1⟩:∃M:aV,Hid (M=RS n1):=⟨_,rfl⟩
 obtain⟨C1,hC1⟩:=AU (cM M1)
 have hbv:=fun ρ x e d ty ps af w=>CV ρ x n1 e d ty ps (af:=af) w
 rw[←hM1.o,←hC1.o] at hbv
 have HBV:=AQ hbv
 have HC1:Hid (C1.size=69∧C1.all (·.oneCell')=true):=by rw[hC1.o,hM1.o];exact⟨fM rfl rfl,fP _⟩
 have HNW:=AQ (heap_alloc_new w2 (.cells Z 55))
 clear hRd hS2 hbv HK H1
 go_upto_region 3 with (first |((with_reducible refine aj (o:=⟨some 5, .alloc _,_,_,_,_⟩) AA (HAM.o _ _ _ _ _ _) ?_)) |((with_reducible refine aj (o:=⟨some 12, .build _ _,_,_,_,_⟩) AA (HBV.o _ _ AA _ _ _ _ _) ?_)) |((with_reducible refine ay (o:=⟨none, .store _ (.tmp 5) (.tmp 12),_,_,_,_⟩) iw (.tmp 5) (.tmp 12) AA AA AA AA AA HNW.o HZS.o.1 HC1.o.1 HC1.o.2 ?_);intro w3 hbw3 hSw3;have HBw3:=AQ hbw3;have HSw3:=AQ hSw3;clear hbw3 hSw3))
 have hwa:Save (· ≠p) w2 w3:=by
  have h1:Save (· ≠p) w2 (w2.alloc (.cells Z 55)):=Save.alloc w2 _
  exact h1.trans (HSw3.o.less (fun k _ hk=>by rw[←hp];exact hk))
 have HS3:Hid (Save (fun _=>True) w2 w3):=by
  have h1:Below w2.heap.size w2 (w2.alloc (.cells Z 55)):=(Below.refl _ _).alloc (Nat.le_refl _) _
  exact Save.of (h1.trans (HSw3.o.below AO (fun k hk=>by omega)))
 have HI3:Hid (eY w3 p M1):=by rw[Hid,hp];exact⟨by rw[←hC1.o];exact HBw3.o,by rw[hM1.o];rfl,by rw[hM1.o];rfl⟩
 have HR3:=AQ (HR2.o.save HS3.o trivial (fun _ _ _=>trivial))
 have H3:Hid (w3.heap[R]? =some (.cells Z 55 (0,0))∧Below w.heap.size w w3):=⟨(HS3.o.block R (Array.getElem?_eq_some_iff.1 H2.o.1).1 trivial).trans H2.o.1,H2.o.2.trans (HS3.o.below H2.o.2.size (fun _ _=>trivial))⟩
 have HP3:Hid (T≤w3.heap.size):=by have:=HI3.o.lt;have:=HPT.o;rw[Hid];omega
 rw[←hp]
 clear hwa HS3 HBw3 HSw3 HR2 H2 HBV HC1 HNW hp
 obtain⟨P2,hP2⟩:=AU ((QY l).1)
 obtain⟨s2,hs2⟩:=AU ((QY l).2)
 have HL2:Hid (P2.length=32):=by rw[Hid,hP2.o];exact yF _
 have hk:=xM HR3.o HP3.o
 rw[show s1.tag=QY l by rw[hs1.o];rfl,←hP2.o,←hs2.o] at hk
 have HC2:=AQ (bP P2 HL2.o)
 obtain⟨T2,hT2⟩:=AU ((P2.map vb).toArray)
 rw[←hT2.o] at hk HC2
 have HK:=AQ hk
 have f1:=mf1 p
 have f2:=mf2 p
 have f3:=OQ p
 have f4:=Uy p
 clear hk
 go_wp2_with fail
 refine(HK.o).mono ?_
 rintro e w4 ⟨rfl,hRd,hS4⟩
 have hpb:p≠b:=by have:=HBP.o;omega
 have hRb:R≠b:=by have:=HBB.o;omega
 have HI4:=AQ (HI3.o.save hS4 hpb)
 have HR4:=AQ hRd
 have H4:Hid (w4.heap[R]? =some (.cells Z 55 (0,0))∧Below w.heap.size w w4):=⟨(hS4.block R (Array.getElem?_eq_some_iff.1 H3.o.1).1 hRb).trans H3.o.1,H3.o.2.trans (hS4.below H3.o.2.size (fun k hk=>by have:=HBB.o;have:=HRR.o;omega))⟩
 clear hRd hS4 HK HI3 HR3 H3 hpb hRb
 go_upto_region 4 with ((with_reducible refine dO (o:=⟨none, .store _ (.tmp 15) (.tmp 14),_,_,_,_⟩) (C:=cM M1) dP.info (.tmp 15) (.tmp 14) AA AA AA AA AA HC2.o.1 HI4.o.blk (by rw[HI4.o.size];decide) HC2.o.2 ?_);intro w5 hbw5 hSw5;have HBw5:=AQ hbw5;have HSw5:=AQ hSw5;clear hbw5 hSw5)
 obtain⟨M2,hM2⟩:∃M:aV,Hid (M= {M1 with prev:=P2}):=⟨_,rfl⟩
 have hSp:Save (· ≠p) w4 w5:=HSw5.o
 have HI5:Hid (eY w5 p M2):=by
  rw[Hid,hM2.o]
  refine⟨HBw5.o.trans ?_,HL2.o,HI4.o.t32⟩
  rw[hT2.o,show lZ (cM M1) 1 _=cM {M1 with prev:=P2} from vY HI4.o.p32 HL2.o]
 have HR5:=AQ (HR4.o.newer hSp HPT.o (by have:=HBP.o;omega))
 have H5:Hid (w5.heap[R]? =some (.cells Z 55 (0,0))∧Below w.heap.size w w5):=⟨(hSp.block R (Array.getElem?_eq_some_iff.1 H4.o.1).1 (by have:=HBB.o;have:=HBP.o;omega)).trans H4.o.1,H4.o.2.trans (hSp.below H4.o.2.size (fun k hk=>by have:=HBB.o;have:=HBP.o;have:=HRR.o;omega))⟩
 clear hSp HBw5 HSw5 HI4 HR4 H4 HC2
 obtain⟨n3,hn3⟩:=AU ((QO l).1)
 obtain⟨s3,hs3⟩:=AU ((QO l).2)
 have hk:=eF HR5.o
 rw[show s2.int=QO l by rw[hs2.o];rfl,←hn3.o,←hs3.o] at hk
 have HK:=AQ hk
 clear hk
 go_wp2_with fail
 refine(HK.o).mono ?_
 rintro e w6 ⟨rfl,hRd,hS6⟩
 have hpb:p≠b:=by have:=HBP.o;omega
 have hRb:R≠b:=by have:=HBB.o;omega
 have HI6:=AQ (HI5.o.save hS6 hpb)
 have HR6:=AQ hRd
 have H6:Hid (w6.heap[R]? =some (.cells Z 55 (0,0))∧Below w.heap.size w w6):=⟨(hS6.block R (Array.getElem?_eq_some_iff.1 H5.o.1).1 hRb).trans H5.o.1,H5.o.2.trans (hS6.below H5.o.2.size (fun k hk=>by have:=HBB.o;have:=HRR.o;omega))⟩
 have u33:=HI6.o.trial
 have z33:w6.frozen? ⟨p,33,none⟩=false:=by simp[World.frozen?,HI6.o.blk]
 clear hRd hS6 HK HI5 HR5 H5 hpb hRb
 obtain⟨w7,hw7⟩:=AV (w6.setCell ⟨p,33,none⟩ (.int .i64 n3.1))
 obtain⟨M3,hM3⟩:∃M:aV,Hid (M= {M2 with trial:=n3}):=⟨_,rfl⟩
 have hSp:Save (· ≠p) w6 w7:=by rw[hw7];exact Save.set
 have HI7:Hid (eY w7 p M3):=by rw[Hid,hw7,hM3.o];exact HI6.o.Aa n3
 have HR7:=AQ (HR6.o.newer hSp HPT.o (by have:=HBP.o;omega))
 have H7:Hid (w7.heap[R]? =some (.cells Z 55 (0,0))∧Below w.heap.size w w7):=⟨(hSp.block R (Array.getElem?_eq_some_iff.1 H6.o.1).1 (by have:=HBB.o;have:=HBP.o;omega)).trans H6.o.1,H6.o.2.trans (hSp.below H6.o.2.size (fun k hk=>by have:=HBB.o;have:=HBP.o;have:=HRR.o;omega))⟩
 obtain⟨X4,hX4⟩:=AU ((Nl l).1)
 obtain⟨s4,hs4⟩:=AU ((Nl l).2)
 have hk:=tq HR7.o
 rw[show s3.bytes=Nl l by rw[hs3.o];rfl,show Nl l=(X4,s4) by rw[hX4.o,hs4.o]] at hk
 have HK:=AQ hk
 clear hSp HI6 HR6 H6 hk
 go_upto_region 5 with fail
 rw[←hw7]
 clear hw7 u33 z33
 go_wp2_with fail
 refine(HK.o).mono ?_
 rintro e w8 ⟨a8,X8,c8,hX8,rfl,hM8,hRd,hS8⟩
 obtain rfl:X8=X4:=hX8.o
 have hpb:p≠b:=by have:=HBP.o;omega
 have hRb:R≠b:=by have:=HBB.o;omega
 have HI8:=AQ (HI7.o.save hS8 hpb)
 have HR8:=AQ hRd
 have H8:Hid (w8.heap[R]? =some (.cells Z 55 (0,0))∧Below w.heap.size w w8):=⟨(hS8.block R (Array.getElem?_eq_some_iff.1 H7.o.1).1 hRb).trans H7.o.1,H7.o.2.trans (hS8.below H7.o.2.size (fun k hk=>by have:=HBB.o;have:=HRR.o;omega))⟩
 obtain⟨E,hE⟩:=AU (uz X8)
 have hk:=GN w8 hM8.row
 rw[←hE.o] at hk
 have HK:=AQ hk
 clear hk hM8 hRd hS8 hpb hRb HI7 HR7 H7 hX8
 go_wp2_with fail
 refine(HK.o).mono ?_
 rintro e w9 ⟨U,rfl,hU,hFU,hb9⟩
 have HI9:=AQ (HI8.o.keep hb9)
 have HR9:=AQ (HR8.o.stay hb9)
 have H9:Hid (w9.heap[R]? =some (.cells Z 55 (0,0))∧Below w.heap.size w w9):=⟨aG H8.o.1 hb9,H8.o.2.trans (hb9.mono H8.o.2.size)⟩
 have HU:=AQ (And.intro hU hFU)
 have HWP:Hid (p<w8.heap.size):=HI8.o.lt
 obtain⟨q,hq⟩:=AV (w9.heap.size)
 obtain⟨wa,hwa⟩:=AV (w9.alloc (.cells #[.slice U.wa U.ws.length U.wc, .slice U.pa U.ps.length U.pc, .slice U.ca U.cs.length U.cc] 26))
 have hba:Below w9.heap.size w9 wa:=by rw[hwa];exact(Below.refl _ _).alloc (Nat.le_refl _) _
 have hQI:gU wa q U:=by rw[hwa,hq];exact dK w9 U _
 obtain⟨v0,v1,v2⟩:=hQI
 have HIa:=AQ (HI9.o.keep hba)
 have HRa:=AQ (HR9.o.stay hba)
 have Ha:Hid (wa.heap[R]? =some (.cells Z 55 (0,0))∧Below w.heap.size w wa):=⟨aG H9.o.1 hba,H9.o.2.trans (hba.mono H9.o.2.size)⟩
 have HUa:=AQ (HU.o.2.stay hba)
 have HCU:Hid ((#[.slice U.wa U.ws.length U.wc, .slice U.pa U.ps.length U.pc, .slice U.ca U.cs.length U.cc]:Array Value).all (·.oneCell')=true):=DL U
 clear hU hFU hb9 hba HK HI8 HR8 H8 HI9 HR9 H9
 go_upto_region 6 with fail
 rw[←hwa,←hq]
 clear hwa hq
 go_upto_region 7 with ((with_reducible refine dO (o:=⟨none, .store _ (.tmp 26) (.tmp 25),_,_,_,_⟩) (C:=cM M3) QL.info (.tmp 26) (.tmp 25) AA AA AA AA AA rfl HIa.o.blk (by rw[HIa.o.size];decide) HCU.o ?_);intro wb hbwb hSwb;have HBwb:=AQ hbwb;have HSwb:=AQ hSwb;clear hbwb hSwb)
 obtain⟨M4,hM4⟩:∃M:aV,Hid (M= {M3 with cfg:=U}):=⟨_,rfl⟩
 have hSp:Save (· ≠p) wa wb:=HSwb.o
 have HIb:Hid (eY wb p M4):=by
  rw[Hid,hM4.o]
  refine⟨HBwb.o.trans ?_,HIa.o.p32,HIa.o.t32⟩
  rw[show lZ (cM M3) 34 _=cM {M3 with cfg:=U} from yL HIa.o.p32 U]
 have HRb:=AQ (HRa.o.newer hSp HPT.o (by have:=HBP.o;omega))
 have Hb:Hid (wb.heap[R]? =some (.cells Z 55 (0,0))∧Below w.heap.size w wb):=⟨(hSp.block R (Array.getElem?_eq_some_iff.1 Ha.o.1).1 (by have:=HBB.o;have:=HBP.o;omega)).trans Ha.o.1,Ha.o.2.trans (hSp.below Ha.o.2.size (fun k hk=>by have:=HBB.o;have:=HBP.o;have:=HRR.o;omega))⟩
 have HUb:Hid (bV w8.heap.size wb U):=HUa.o.lg hSp (fun k hk=>by have:=HWP.o;omega)
 have HPb:Hid (T≤wb.heap.size):=by have:=HIb.o.lt;have:=HPT.o;rw[Hid];omega
 clear hSp HBwb HSwb HIa HRa Ha HUa HCU v0 v1 v2
 obtain⟨P5,hP5⟩:=AU ((Rh l).1)
 obtain⟨s5,hs5⟩:=AU ((Rh l).2)
 have HL5:Hid (P5.length=32):=by rw[Hid,hP5.o];exact yF _
 have hk:=xM HRb.o HPb.o
 rw[show s4.tag=Rh l by rw[hs4.o];rfl,←hP5.o,←hs5.o] at hk
 have HC5:=AQ (bP P5 HL5.o)
 obtain⟨T5,hT5⟩:=AU ((P5.map vb).toArray)
 rw[←hT5.o] at hk HC5
 have HK:=AQ hk
 clear hk
 go_wp2_with fail
 refine(HK.o).mono ?_
 rintro e wc ⟨rfl,hRd,hSc⟩
 have hpb:p≠b:=by have:=HBP.o;omega
 have hRb:R≠b:=by have:=HBB.o;omega
 have HIc:=AQ (HIb.o.save hSc hpb)
 have HRc:=AQ hRd
 have Hc:Hid (wc.heap[R]? =some (.cells Z 55 (0,0))∧Below w.heap.size w wc):=⟨(hSc.block R (Array.getElem?_eq_some_iff.1 Hb.o.1).1 hRb).trans Hb.o.1,Hb.o.2.trans (hSc.below Hb.o.2.size (fun k hk=>by have:=HBB.o;have:=HRR.o;omega))⟩
 have HUc:Hid (bV w8.heap.size wc U):=HUb.o.lg hSc (fun k hk=>by have:=HWP.o;have:=HBP.o;omega)
 clear hRd hSc HK HIb HRb Hb HUb hpb hRb
 go_upto_region 8 with ((with_reducible refine dO (o:=⟨none, .store _ (.tmp 29) (.tmp 28),_,_,_,_⟩) (C:=cM M4) dP.info (.tmp 29) (.tmp 28) AA AA AA AA AA HC5.o.1 HIc.o.blk (by rw[HIc.o.size];decide) HC5.o.2 ?_);intro wd hbwd hSwd;have HBwd:=AQ hbwd;have HSwd:=AQ hSwd;clear hbwd hSwd)
 obtain⟨M5,hM5⟩:∃M:aV,Hid (M= {M4 with tag:=P5}):=⟨_,rfl⟩
 have hSp:Save (· ≠p) wc wd:=HSwd.o
 have HId:Hid (eY wd p M5):=by
  rw[Hid,hM5.o]
  refine⟨HBwd.o.trans ?_,HIc.o.p32,HL5.o⟩
  rw[hT5.o,show lZ (cM M4) 37 _=cM {M4 with tag:=P5} from EX HIc.o.p32 HIc.o.t32 HL5.o]
 have HRd:=AQ (HRc.o.newer hSp HPT.o (by have:=HBP.o;omega))
 have Hd:Hid (wd.heap[R]? =some (.cells Z 55 (0,0))∧Below w.heap.size w wd):=⟨(hSp.block R (Array.getElem?_eq_some_iff.1 Hc.o.1).1 (by have:=HBB.o;have:=HBP.o;omega)).trans Hc.o.1,Hc.o.2.trans (hSp.below Hc.o.2.size (fun k hk=>by have:=HBB.o;have:=HBP.o;have:=HRR.o;omega))⟩
 have HUd:Hid (bV w8.heap.size wd U):=HUc.o.lg hSp (fun k hk=>by have:=HWP.o;omega)
 have HAd:Hid (M5.At wd):=⟨HId.o.p32,HId.o.t32,by rw[hM5.o,hM4.o];exact HUd.o.at⟩
 have HMR:Hid (M5.man=Hl l):=by
  rw[Hid,hM5.o,hM4.o,hM3.o,hM2.o,hM1.o,hP5.o,hn3.o,hP2.o,hn1.o]
  show(⟨_,_,_,U.cfg,_⟩:oZ)=_
  rw[HU.o.1,hX4.o];rfl
 have HWR:Hid (w.heap.size≤w8.heap.size):=by have:=HWP.o;have:=HBP.o;have:=HBB.o;have:=HRR.o;rw[Hid];omega
 clear hSp HBwd HSwd HIc HRc Hc HUc HC5
 obtain⟨C,hC⟩:=AU (cM M5)
 obtain⟨F,hF⟩:=AU s5.fin
 obtain⟨x,hx⟩:=AU (decide (F=0))
 obtain⟨y,hy⟩:=AU (decide (E=0))
 obtain⟨k,hk⟩:=AU (jK M5)
 obtain⟨ok,hok⟩:=AU (qY l)
 have HOK:Hid ((((!x) || (!y)) || (!k))=(!ok)):=by
  rw[Hid,hok.o,qY,←HMR.o,←iE,←hk.o,←hX4.o,←hE.o,←hy.o,←hs5.o,←hF.o,←hx.o]
  cases x<;>cases y<;>cases k<;>rfl
 have HX:Hid (((F:Int) !=0)= !x):=by rw[Hid,hx.o];rfl
 have HY:Hid (((E:Int) !=0)= !y):=by rw[Hid,hy.o];rfl
 have HE:Hid (∀q:After wd,Calls Tryz.prog 61 #[.pointer (some ⟨b,0,none⟩)] q.to fun e w'=>e= .returned (.int .i64 F)∧Below q.to.heap.size q.to w'):=fun q=>(xP (HRd.o.stay q.bel)).mono fun e w' ⟨he,hw⟩=>⟨by rw[he,hF.o],by rw[←hw];exact Below.refl _ _⟩
 have HC:Hid (∀q:After wd,Calls Tryz.prog 17 #[.agg C] q.to fun e w'=>e= .returned (.bool k)∧Below q.to.heap.size q.to w'):=fun q=>by rw[hC.o,hk.o];exact jM q.to M5 (HAd.o.stay q.bel)
 have C5:∀q:After wd,(Instr.loadAt 55 (.pointer (some ⟨p,0,none⟩))).run Tryz.prog q.to= .ok (.agg C) q.to:=fun q=>by rw[hC.o];exact(HId.o.keep q.bel).whole
 refine fQ (VO b p C F E x y k) (UA b p C F E x y k) [4,5,7] AB ⟨rfl,rfl,rfl,trivial⟩ ?_ ?_
 ·repeat' (first |exact aU |refine aI ?_ ?_)
  all_goals intro a hk
  ·
   exact .inl ⟨ah rfl,bZ (.tmp 4) rfl (hk.o 4)⟩
  ·
   exact .inl ⟨ah rfl,iD rfl rfl #[(.pointer (some ⟨b,0,none⟩))] (fun w=>AB) (by simp only[List.map_toArray,List.map_cons,List.map_nil,(show a.eval (.tmp 30)=(.pointer (some ⟨b,0,none⟩)) from hk.s 30)]) (v:=(.int .i64 F)) (fun q=>HE.o q) rfl⟩
  ·
   exact .inl ⟨ah rfl,jG rfl (hk.s 31) rfl (v:= .bool (((F:Int) !=0))) (fun w=>AB) (congrArg Value.bool (HX.o))⟩
  ·
   exact .inl ⟨ah rfl,bZ (.tmp 32) rfl (hk.s 32)⟩
  ·
   cases x<;>first |exact hk.no 33 false |skip
   exact .inl ⟨hk.yes 33 false,bZ (.tmp 7) rfl (hk.o 7)⟩
  ·
   cases x<;>first |exact hk.no 33 false |skip
   exact .inl ⟨hk.yes 33 false,jG rfl (hk.s 34) rfl (v:= .bool (((E:Int) !=0))) (fun w=>AB) (congrArg Value.bool (HY.o))⟩
  ·
   cases x with
   |
    true=>
    exact .inl ⟨ah rfl,aT rfl false (hk.s 33) (hk.s 35)⟩
   |
    false=>
    exact .inl ⟨ah rfl,aT rfl true (hk.s 33) rfl⟩
  ·
   exact .inl ⟨ah rfl,bZ (.tmp 36) rfl (hk.s 36)⟩
  ·
   cases x<;>cases y<;>first |exact hk.no 37 false |skip
   exact .inl ⟨hk.yes 37 false,dG (.tmp 5) rfl (hk.o 5) (v:=(.agg C)) (fun q=>C5 q) rfl⟩
  ·
   cases x<;>cases y<;>first |exact hk.no 37 false |skip
   exact .inl ⟨hk.yes 37 false,iD rfl rfl #[(.agg C)] (fun w=>AB) (by simp only[List.map_toArray,List.map_cons,List.map_nil,(show a.eval (.tmp 38)=(.agg C) from hk.s 38)]) (v:=(.bool k)) (fun q=>HC.o q) rfl⟩
  ·
   cases x<;>cases y<;>first |exact hk.no 37 false |skip
   exact .inl ⟨hk.yes 37 false,FK rfl _ (hk.s 39) rfl⟩
  ·
   cases x with
   |
    true=>
    cases y with
    |
     true=>
     exact .inl ⟨ah rfl,aT rfl false (hk.s 37) (hk.s 40)⟩
    |
     false=>
     exact .inl ⟨ah rfl,aT rfl true (hk.s 37) rfl⟩
   |
    false=>
    exact .inl ⟨ah rfl,aT rfl true (hk.s 37) rfl⟩
 intro a ⟨we,hbe⟩ hsame hall
 have he:=dn hsame [30,31,32,33,34,35,36,37,38,39,40,41] AB
 simp only[List.foldl_cons,List.foldl_nil] at he
 rw[show a.eval (.tmp 41)=(.bool (!ok)) from(hall 41 AB).trans (congrArg Value.bool HOK.o)] at he
 generalize a.eval (.tmp 30)=x30 at he
 generalize a.eval (.tmp 31)=x31 at he
 generalize a.eval (.tmp 32)=x32 at he
 generalize a.eval (.tmp 33)=x33 at he
 generalize a.eval (.tmp 34)=x34 at he
 generalize a.eval (.tmp 35)=x35 at he
 generalize a.eval (.tmp 36)=x36 at he
 generalize a.eval (.tmp 37)=x37 at he
 generalize a.eval (.tmp 38)=x38 at he
 generalize a.eval (.tmp 39)=x39 at he
 generalize a.eval (.tmp 40)=x40 at he
 simp only[fV] at he
 dsimp only[List.set_cons_zero,List.set_cons_succ] at he
 subst he
 clear hsame hall
 have HIe:=AQ (HId.o.keep hbe)
 have He:Hid (we.heap[R]? =some (.cells Z 55 (0,0))∧Below w.heap.size w we):=⟨aG Hd.o.1 hbe,Hd.o.2.trans (hbe.mono Hd.o.2.size)⟩
 have HUe:=AQ (HUd.o.stay hbe)
 have hw:=HIe.o.whole
 rw[←hC.o] at hw
 have HLe:=AQ hw
 have HCS:Hid (C.size=69∧C.all (·.oneCell')=true):=by rw[hC.o];exact⟨HIe.o.size,fP _⟩
 clear hw HE HC C5 HX HY HOK
 cases ok with
 |
  false=>
  go_wp2_with (first |((with_reducible refine aj (o:=⟨some 42, .build _ _,_,_,_,_⟩) AA (HBM.o _ _ _ _ _ _) ?_)) |((with_reducible refine ay (o:=⟨none, .store _ (.tmp 2) (.tmp 42),_,_,_,_⟩) iw (.tmp 2) (.tmp 42) AA AA AA AA AA He.o.1 HZS.o.1 HZS.o.1 HZS.o.2 ?_);intro wf hbwf hSwf;have HBwf:=AQ hbwf;have HSwf:=AQ hSwf;clear hbwf hSwf))
  refine bodyPost_ret (jS iw rfl rfl HBwf.o HZS.o.1) rfl ⟨zM, ?_, ?_,lI _ _, ?_⟩
  ·rw[hPE.o,nX,←hok.o,hZ.o];rfl
  ·rw[hPK.o,qy,←hok.o];rfl
  ·exact He.o.2.trans (HSwf.o.below He.o.2.size (fun k hk=>by have:=HRR.o;omega))
 |
  true=>
  go_wp2_with (first |(with_reducible refine aN (o:=⟨some 43, .load 55 (.tmp 5),_,_,_,_⟩) AA AA AA HLe.o ?_) |((with_reducible refine ay (o:=⟨none, .store _ (.tmp 2) (.tmp 43),_,_,_,_⟩) iw (.tmp 2) (.tmp 43) AA AA AA AA AA He.o.1 HZS.o.1 HCS.o.1 HCS.o.2 ?_);intro wf hbwf hSwf;have HBwf:=AQ hbwf;have HSwf:=AQ hSwf;clear hbwf hSwf))
  refine bodyPost_ret (jS iw rfl rfl HBwf.o HCS.o.1) rfl ⟨M5, ?_, ?_,⟨HIe.o.p32,HIe.o.t32, ?_⟩, ?_⟩
  ·rw[hPE.o,nX,←hok.o,hC.o];rfl
  ·rw[hPK.o,qy,←hok.o];exact HMR.o
  ·have:=HUe.o.lg HSwf.o (fun k hk=>by have:=HWP.o;have:=HBP.o;have:=HBB.o;omega)
   rw[hM5.o,hM4.o]
   exact this.low HWR.o
  ·exact He.o.2.trans (HSwf.o.below He.o.2.size (fun k hk=>by have:=HRR.o;omega))
open Go Go.RowKit Go.Cit
theorem Fa {α:Type} (p:α→Bool) (l:List α) (k:Nat) (h:k<l.length):(l.take (k+1)).any p=((l.take k).any p || p l[k]):=by
 rw[List.take_succ_eq_append_getElem h,List.any_append];simp
end Go.Proofs.YtlholdllibghbaaGreat
