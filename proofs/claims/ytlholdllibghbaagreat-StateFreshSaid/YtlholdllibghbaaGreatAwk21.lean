/- citadellaw21.awake: walked. -/
import Derived.Test.YtlholdllibghbaaGreatG22
import Derived.Test.YtlholdllibghbaaGreatKit
set_option maxRecDepth 100000
set_option maxHeartbeats 8000000
namespace Go.Proofs.YtlholdllibghbaaGreat
open Go Go.RowKit Go.Cit
theorem qY:kZ Tryz.prog 32 3 #[.int .i64 0, .slice none 0 0, .slice none 0 0]:=⟨rfl,fun _ _ _ _ _ _=>AB⟩
def FU (x:qg) (y:fV):Bool:=decide (x.id.1=y.id.1∧x.size.1=y.reg.size.1∧x.keep=y.keep)
theorem zy:∀(l:List aK) (m:List fV),iP yh l m=iP FU (l.map aK.prt) m
 | [],[]=>rfl
 | x::l,y::m=>by rw[iP,List.map_cons,iP,zy l m];rfl
 | [],_::_=>rfl
 | _::_,[]=>rfl
def isS (s:Ah) (V:aZ):Bool:=(iP FU s.ps V.ps && decide (s.qs.map (·.ch)=V.cs)) && (jR s && fitsV V)
theorem zF (s:bU) (V:aZ):Ic s V=isS s.fG V:=by
 unfold Ic isS bU.fG
 rw[zy]
 congr 2
 rw[List.map_map]
 rfl
def V0 (B:Nat):aZ:=⟨some ⟨B,0,none⟩,[⟨⟨1,by decide⟩,⟨1,by decide⟩⟩],1,some ⟨B+1,0,none⟩,[⟨⟨1,by decide⟩,⟨⟨0,by decide⟩,⟨16,by decide⟩⟩,true,none,[],0⟩],1,none,[],0⟩
theorem zH (B:Nat):fitsV (V0 B)=true:=by kernel_rfl
theorem Hf (B:Nat):isS S0 (V0 B)=true:=by kernel_rfl
theorem wo (B:Nat):fA (V0 B):=⟨by show 1≤_;decide,by show 1≤_;decide,by show 0≤_;decide,fun x hx=>by
 obtain rfl:x=⟨⟨1,by decide⟩,⟨⟨0,by decide⟩,⟨16,by decide⟩⟩,true,none,[],0⟩:=by simpa[V0] using hx
 show 0≤_;decide⟩
theorem y3 {s:bU} {Y:Array Value} (h:Y=(dO s).toArray):Y.size=3∧Y.all (·.oneCell')=true:=by rw[h];exact⟨rfl,by simp[Value.oneCell']⟩
theorem rE {w:World} {p:Nat} {s:bU} {Y:Array Value} (h:Y=(dO s).toArray) (hc:w.heap[p]? =some (.cells Y 32 (0,0))):(Instr.loadAt 32 (.pointer (some ⟨p,0,none⟩))).run Tryz.prog w= .ok (.agg Y) w:=by
 subst h
 exact jG (fun w=>AB) (fun w=>AB) (ak hc 0 rfl) (ak hc 1 rfl) (ak hc 2 rfl)
def I8 (N:Nat):Array Value:= #[.slice (some ⟨N,0,none⟩) 1 1, .slice (some ⟨N+1,0,none⟩) 1 1, .slice none 0 0]
theorem tC (w:World) (N:Nat) (hV:(V0 N).At w) {CV:Array Value} (hC:CV=I8 N):Calls Tryz.prog 10 #[.agg CV] w fun e w'=>∃s:bU,∃Y,Hid (Y=(dO s).toArray)∧e= .returned (.tuple #[.agg Y, .int .i64 0])∧Hid (s.fG=S0)∧s.At w'∧Below w.heap.size w w':=by
 have hk:=nX w (V0 N) hV (wo N)
 rw[if_pos (zH N),if_pos (zH N)] at hk
 rw[hC]
 exact hk.mono fun e w' ⟨s,h1,h2,h3,h4⟩=>⟨s,_,rfl,h1,h2,h3,h4⟩
theorem tV (w:World) {s:bU} {Y:Array Value} (hY:Y=(dO s).toArray) (hs:s.At w) (e:s.fG=S0):Calls Tryz.prog 32 #[.agg Y] w fun e w'=>∃a X c,Hid (X=B0)∧e= .returned (.tuple #[.slice a X.length c, .int .i64 0])∧Row w' a X c∧Below w.heap.size w w':=by
 rw[hY]
 refine(lH w s hs).mono ?_
 rintro r w' ⟨hb,h1,_⟩
 obtain⟨a,X,c,hX,rfl,hm⟩:=h1 (by rw[e];exact dn.2.1)
 exact⟨a,X,c,by rw[Hid,hX.o,e];rfl,rfl,hm.row,hb⟩
theorem tX (w:World) {a:Option Addr} {X:List UInt8} {c:Nat} (h:Row w a X c) (hX:X=B0):Calls Tryz.prog 33 #[.slice a X.length c] w fun e w'=>∃s:bU,∃Y,Hid (Y=(dO s).toArray)∧e= .returned (.tuple #[.agg Y, .int .i64 0])∧Hid (s.fG=S0)∧s.At w'∧Below w.heap.size w w':=by
 have ho:ny X=true:=by rw[hX];exact dn.2.2.2.1
 have hS:FD X=S0:=by rw[hX];exact dn.2.2.2.2.1
 have hk:=kR w h (fun _=>by rw[show(FC X).1=(FD X).qs from rfl,hS];rfl)
 rw[if_pos ho,if_pos ho,hS] at hk
 exact hk.mono fun e w' ⟨s,h1,h2,h3,h4⟩=>⟨s,_,rfl,h1,h2,h3,h4⟩
theorem jc (w:World) {a:Option Addr} {X:List UInt8} {c:Nat} (h:Row w a X c) (ho:ny X=false):Calls Tryz.prog 33 #[.slice a X.length c] w fun e w'=>∃Y:Array Value,Hid (Y.size=3∧Y.all (·.oneCell')=true)∧e= .returned (.tuple #[.agg Y, .int .i64 210])∧Below w.heap.size w w':=by
 have hk:=kR w h (fun h1=>by rw[ho] at h1;exact absurd h1 AP)
 rw[if_neg (by rw[ho];decide),if_neg (by rw[ho];decide)] at hk
 exact hk.mono fun e w' ⟨s,h1,_,_,h4⟩=>⟨_,y3 rfl,h1,h4⟩
theorem iL (w:World):Calls Tryz.prog 9 #[] w fun e w'=>e= .returned (.bool true)∧Below w.heap.size w w':=by
 obtain⟨N,hN⟩:=AV (w.heap.size)
 obtain⟨w1,hw1⟩:=AV (((w.alloc (.cells #[.int .i64 1, .int .i64 1] 77)).alloc (.cells #[.int .i64 1, .int .i64 0, .int .i64 16, .bool true, .slice none 0 0] 46)).alloc (.cells #[.slice (some ⟨N,0,none⟩) 1 1, .slice (some ⟨N+1,0,none⟩) 1 1, .slice none 0 0] 26))
 have b1:Below w.heap.size w (w.alloc (.cells #[.int .i64 1, .int .i64 1] 77)):=(Below.refl _ w).alloc (Nat.le_refl _) _
 have b2:Below w.heap.size w ((w.alloc (.cells #[.int .i64 1, .int .i64 1] 77)).alloc (.cells #[.int .i64 1, .int .i64 0, .int .i64 16, .bool true, .slice none 0 0] 46)):=b1.alloc b1.size _
 have B1:Below w.heap.size w w1:=by rw[hw1];exact b2.alloc b2.size _
 have hV:(V0 N).At w1:=by
  have h1:=tY w #[.int .i64 1, .int .i64 1] 77 2 (V0 N).ws lI rfl (by simp[V0])
  have h2:=tY (w.alloc (.cells #[.int .i64 1, .int .i64 1] 77)) #[.int .i64 1, .int .i64 0, .int .i64 16, .bool true, .slice none 0 0] 46 5 (V0 N).ps jZ rfl (by simp[V0])
  rw[World.size_alloc] at h2
  rw[←hN] at h1 h2
  have k1:Below (w.alloc (.cells #[.int .i64 1, .int .i64 1] 77)).heap.size (w.alloc (.cells #[.int .i64 1, .int .i64 1] 77)) w1:=by rw[hw1];exact((Below.refl _ _).alloc (Nat.le_refl _) _).alloc AO _
  have k2:Below ((w.alloc (.cells #[.int .i64 1, .int .i64 1] 77)).alloc (.cells #[.int .i64 1, .int .i64 0, .int .i64 16, .bool true, .slice none 0 0] 46)).heap.size ((w.alloc (.cells #[.int .i64 1, .int .i64 1] 77)).alloc (.cells #[.int .i64 1, .int .i64 0, .int .i64 16, .bool true, .slice none 0 0] 46)) w1:=by rw[hw1];exact(Below.refl _ _).alloc (Nat.le_refl _) _
  exact⟨h1.stay lI k1,h2.stay jZ k2,Vec.nil_ _,fun x hx=>by
   obtain rfl:x=⟨⟨1,by decide⟩,⟨⟨0,by decide⟩,⟨16,by decide⟩⟩,true,none,[],0⟩:=by simpa[V0] using hx
   exact Row.nil_ _⟩
 obtain⟨CV,hCV⟩:∃CV:Array Value,Hid (CV= #[.slice (some ⟨N,0,none⟩) 1 1, .slice (some ⟨N+1,0,none⟩) 1 1, .slice none 0 0]):=⟨_,rfl⟩
 have hc1:w1.heap[N+2]? =some (.cells CV 26 (0,0)):=by
  have:=heap_alloc_new ((w.alloc (.cells #[.int .i64 1, .int .i64 1] 77)).alloc (.cells #[.int .i64 1, .int .i64 0, .int .i64 16, .bool true, .slice none 0 0] 46)) (.cells #[.slice (some ⟨N,0,none⟩) 1 1, .slice (some ⟨N+1,0,none⟩) 1 1, .slice none 0 0] 26)
  rw[World.size_alloc,World.size_alloc,←hN] at this
  rw[hw1,hCV.o];exact this
 have HLC:Hid (∀W,W.heap[N+2]? =some (.cells CV 26 (0,0))→(Instr.loadAt 26 (.pointer (some ⟨N+2,0,none⟩))).run Tryz.prog W= .ok (.agg CV) W):=fun W hc=>by
  rw[hCV.o] at hc ⊢
  exact jG (fun w=>AB) (fun w=>AB) (ak hc 0 rfl) (ak hc 1 rfl) (ak hc 2 rfl)
 have hk0:=lH w1 jL ⟨Vec.nil_ _,fun x hx=>by simp at hx,Vec.nil_ _,fun x hx=>by simp at hx⟩
 have HK0:=AQ hk0
 have H1:=AQ (And.intro hV (And.intro hc1 B1))
 clear b1 b2 B1 hV hc1 hk0
 go_enter Tryz.func9,Tryz.ntmps9
 go_upto_region 2 with fail
 rw[←hN,←hw1]
 have HNN:=AQ hN
 clear hN hw1
 go_wp2_with fail
 refine(HK0.o).mono ?_
 rintro e w2 ⟨hb2,h2,_⟩
 obtain⟨a2,X2,c2,HX2,rfl,_⟩:=h2 dn.1.1
 have hx2:(X2.length:Int)=24:=by rw[HX2.o,dn.1.2];rfl
 have H2:=AQ (And.intro (H1.o.1.stay hb2) (And.intro (ay H1.o.2.1 hb2) (H1.o.2.2.trans (hb2.mono H1.o.2.2.size))))
 have L1:=AQ (HLC.o w2 H2.o.2.1)
 have HK:=AQ (tC w2 N H2.o.1 hCV.o)
 clear hb2 h2 HK0
 go_upto_region 3 with fail
 go_wp2_with (with_reducible refine ku (o:=⟨some 32, .load _ (.tmp 1),_,_,_,_⟩) L1.o ?_)
 refine(HK.o).mono ?_
 rintro e w3 ⟨s,Y4,HY4,rfl,Hs,hsA,hb3⟩
 obtain⟨p4,hp4⟩:=AV (w3.heap.size)
 obtain⟨w4,hw4⟩:=AV (w3.alloc (.cells Y4 32))
 have hb4:Below w3.heap.size w3 w4:=by rw[hw4];exact(Below.refl _ _).alloc (Nat.le_refl _) _
 have hc4:w4.heap[p4]? =some (.cells Y4 32 (0,0)):=by rw[hw4,hp4];exact heap_alloc_new _ _
 have HZ4:=AQ (y3 HY4.o)
 have h4:=ay (ay H2.o.2.1 hb3) hb4
 have H4:=AQ (And.intro ((H2.o.1.stay hb3).stay hb4) (And.intro h4 (And.intro hc4 (And.intro (hsA.stay hb4) ((H2.o.2.2.trans (hb3.mono H2.o.2.2.size)).trans (hb4.mono (Nat.le_trans H2.o.2.2.size hb3.size)))))))
 have L4:=AQ (rE HY4.o hc4)
 have HK2:=AQ (tV w4 HY4.o H4.o.2.2.2.1 Hs.o)
 clear hsA hb3 hb4 hc4 h4 HK L1
 go_upto_region 4 with (with_reducible refine yU (d:=4) (X:=Y4) dF qY HZ4.o.1 HZ4.o.2 ?_)
 rw[←hw4,←hp4]
 clear hw4 hp4
 go_wp2_with (with_reducible refine ku (o:=⟨some 37, .load _ (.tmp 4),_,_,_,_⟩) L4.o ?_)
 refine(HK2.o).mono ?_
 rintro e w5 ⟨a6,X6,c6,HX6,rfl,hr6,hb5⟩
 have hx6:(X6.length:Int)=134:=by rw[HX6.o,dn.2.2.1];rfl
 have H5:=AQ (And.intro (H4.o.1.stay hb5) (And.intro (ay H4.o.2.1 hb5) (And.intro (ay H4.o.2.2.1 hb5) (And.intro (H4.o.2.2.2.1.stay hb5) (And.intro (H4.o.2.2.2.2.trans (hb5.mono H4.o.2.2.2.2.size)) hr6)))))
 have HK3:=AQ (tX w5 hr6 HX6.o)
 clear hb5 hr6 HK2 L4
 go_upto_region 5 with fail
 go_wp2_with fail
 refine(HK3.o).mono ?_
 rintro e w6 ⟨u,Y8,HY8,rfl,Hu,huA,hb6⟩
 obtain⟨p8,hp8⟩:=AV (w6.heap.size)
 obtain⟨w7,hw7⟩:=AV (w6.alloc (.cells Y8 32))
 have hb7:Below w6.heap.size w6 w7:=by rw[hw7];exact(Below.refl _ _).alloc (Nat.le_refl _) _
 have hc7:w7.heap[p8]? =some (.cells Y8 32 (0,0)):=by rw[hw7,hp8];exact heap_alloc_new _ _
 have HZ8:=AQ (y3 HY8.o)
 have hb57:Below w5.heap.size w5 w7:=hb6.trans (hb7.mono hb6.size)
 have H7:=AQ (And.intro (H5.o.1.stay hb57) (And.intro (ay H5.o.2.1 hb57) (And.intro (ay H5.o.2.2.1 hb57) (And.intro (H5.o.2.2.2.1.stay hb57) (And.intro (H5.o.2.2.2.2.1.trans (hb57.mono H5.o.2.2.2.2.1.size)) (And.intro (H5.o.2.2.2.2.2.stay hb57) (And.intro hc7 (huA.stay hb7))))))))
 clear huA hb6 hb7 hc7 hb57 HK3
 go_upto_region 6 with (with_reducible refine yU (d:=8) (X:=Y8) dF qY HZ8.o.1 HZ8.o.2 ?_)
 rw[←hw7,←hp8]
 clear hw7 hp8
 have LA:=AQ (rE HY4.o H7.o.2.2.1)
 have LB:=AQ (rE HY8.o H7.o.2.2.2.2.2.2.1)
 have hk:Calls Tryz.prog 12 #[.agg Y4, .agg Y8] w7 fun e w'=>e= .returned (.bool true)∧Below w7.heap.size w7 w':=by
  rw[HY4.o,HY8.o]
  have:=nP w7 s u H7.o.2.2.2.1 H7.o.2.2.2.2.2.2.2
  rw[decide_eq_true (Hs.o.trans Hu.o.symm)] at this
  exact this
 have HK:=AQ hk
 clear hk
 go_wp2_with (first
  | (with_reducible refine oz (o:=⟨some 71, .load _ (.tmp 4),_,_,_,_⟩) LA.o ?_)
  | (with_reducible refine oz (o:=⟨some 72, .load _ (.tmp 8),_,_,_,_⟩) LB.o ?_))
 refine(HK.o).mono ?_
 rintro e w8 ⟨rfl,hb8⟩
 have H8:=AQ (And.intro (H7.o.1.stay hb8) (And.intro (ay H7.o.2.1 hb8) (And.intro (ay H7.o.2.2.1 hb8) (And.intro (H7.o.2.2.2.1.stay hb8) (And.intro (H7.o.2.2.2.2.1.trans (hb8.mono H7.o.2.2.2.2.1.size)) (H7.o.2.2.2.2.2.1.stay hb8))))))
 have LA:=AQ (rE HY4.o H8.o.2.2.1)
 have LC:=AQ (HLC.o w8 H8.o.2.1)
 have hk:Calls Tryz.prog 13 #[.agg Y4, .agg CV] w8 fun e w'=>e= .returned (.bool true)∧Below w8.heap.size w8 w':=by
  have:=qZ w8 s (V0 N) H8.o.2.2.2.1 H8.o.1 (wo N)
  rw[zF,Hs.o,Hf] at this
  rw[HY4.o,hCV.o]
  exact this
 have HK:=AQ hk
 clear hb8 hk LB
 go_wp2_with (first
  | (with_reducible refine oz (o:=⟨some 77, .load _ (.tmp 4),_,_,_,_⟩) LA.o ?_)
  | (with_reducible refine oz (o:=⟨some 78, .load _ (.tmp 1),_,_,_,_⟩) LC.o ?_))
 refine(HK.o).mono ?_
 rintro e w9 ⟨rfl,hb9⟩
 have H9:=AQ (And.intro (ay H8.o.2.2.1 hb9) (And.intro (H8.o.2.2.2.1.stay hb9) (And.intro (H8.o.2.2.2.2.1.trans (hb9.mono H8.o.2.2.2.2.1.size)) (H8.o.2.2.2.2.2.stay hb9))))
 have hsp:(s.ps.length:Int)=1:=by
  have h1:s.fG.ps.length=S0.ps.length:=by rw[Hs.o]
  have h2:s.fG.ps.length=s.ps.length:=by unfold bU.fG;simp
  rw[←h2,h1];rfl
 have d4:w9.cell? ⟨p4,1,none⟩=some (.slice s.pa s.ps.length s.pc):=by
  have:=H9.o.1
  rw[HY4.o] at this
  exact ak this 1 rfl
 clear hb9 HK LA LC
 go_upto_region 8 with fail
 clear d4
 have HX9:Hid (X6≠ []∧X6.length≤1000000000):=by rw[HX6.o];exact⟨by intro h;have:=dn.2.2.1;rw[h] at this;exact absurd this AP,by rw[dn.2.2.1];decide⟩
 have HROW:=AQ H9.o.2.2.2
 have HXL:Hid (([]:List UInt8).length+X6.length≤1000000000):=by rw[Hid,List.length_nil,Nat.zero_add];exact HX9.o.2
 have HO10:=AQ (uh w9 #[] 5 [] rfl AP)
 have HA10:Hid (Below w9.heap.size w9 (w9.alloc (.cells #[] 5))):=(Below.refl _ w9).alloc (Nat.le_refl _) _
 have HR10:=AQ (HROW.o.stay HA10.o)
 go_upto_region 9 with ((with_reducible refine iO (o:=⟨some 90, .call _,_,_,_,_⟩) uN (.tmp 88) (.tmp 89) AA AA HO10.o HR10.o HXL.o HA10.o.size AA AA ?_);intro a10 k10 y10 hO10 hg10;obtain⟨X10,hX10⟩:∃Z:List UInt8,Hid (Z=[]++X6):=⟨[]++X6,AQ rfl⟩;rw[←hX10.o] at hO10 ⊢;have HP10:=AQ (And.intro hO10.mine hg10);clear hO10 hg10)
 have HX10:Hid (X10=X6):=hX10.o.trans (List.nil_append _)
 have HL10:Hid (32<X10.length):=by rw[Hid,HX10.o,HX6.o,dn.2.2.1];decide
 have HB10:Hid (Below w9.heap.size w9 y10):=HA10.o.trans (grown_below HP10.o.2 HA10.o.size fun j hj=>by have:=HO10.o.aQ hj;exact this.1)
 have ix:∀W:World,(Instr.indexAt 40 (.slice a10 X10.length k10) (.int .i64 32)).run Tryz.prog W= .ok (.pointer (some (ad a10 32))) W:=HP10.o.1.row.index uN.slice uN.sz 32 HL10.o
 have ce:y10.cell? (ad a10 32)=some (vb (X10[32]'HL10.o)):=HP10.o.1.cellOf HL10.o
 have fe:y10.frozen? (ad a10 32)=false:=HP10.o.1.free 32 HL10.o
 have hst:Row (y10.setCell (ad a10 32) (.int .u8 2)) a10 (X10.set 32 2) k10:=(HP10.o.1.stored 32 HL10.o 2).1.row
 have hbz:Below w9.heap.size w9 (y10.setCell (ad a10 32) (.int .u8 2)):=HB10.o.trans (HP10.o.1.stored 32 HL10.o 2).2.2
 obtain⟨w10,hw10⟩:=AV (y10.setCell (ad a10 32) (.int .u8 2))
 rw[←hw10] at hst hbz
 have HBZ:=AQ hbz
 have HSET10:Hid (X10.set 32 2=B0.set 32 2):=by rw[Hid,HX10.o,HX6.o]
 have HLEN10:Hid ((X10.set 32 2).length=X10.length):=List.length_set
 have HM10:=AQ hst
 clear hbz hst
 go_upto_region 10 with fail
 rw[←hw10]
 clear hw10 ix ce fe
 have HROW:=AQ (HROW.o.stay HBZ.o)
 have H10:=AQ (And.intro (ay H9.o.1 HBZ.o) (And.intro (H9.o.2.1.stay HBZ.o) (H9.o.2.2.1.trans (HBZ.o.mono H9.o.2.2.1.size))))
 clear HO10 HA10 HR10 HB10 HBZ H9
 have HO11:=AQ (uh w10 #[] 5 [] rfl AP)
 have HA11:Hid (Below w10.heap.size w10 (w10.alloc (.cells #[] 5))):=(Below.refl _ w10).alloc (Nat.le_refl _) _
 have HR11:=AQ (HROW.o.stay HA11.o)
 go_upto_region 11 with ((with_reducible refine iO (o:=⟨some 95, .call _,_,_,_,_⟩) uN (.tmp 93) (.tmp 94) AA AA HO11.o HR11.o HXL.o HA11.o.size AA AA ?_);intro a11 k11 y11 hO11 hg11;obtain⟨X11,hX11⟩:∃Z:List UInt8,Hid (Z=[]++X6):=⟨[]++X6,AQ rfl⟩;rw[←hX11.o] at hO11 ⊢;have HP11:=AQ (And.intro hO11.mine hg11);clear hO11 hg11)
 have HX11:Hid (X11=X6):=hX11.o.trans (List.nil_append _)
 have HL11:Hid (100<X11.length):=by rw[Hid,HX11.o,HX6.o,dn.2.2.1];decide
 have HB11:Hid (Below w10.heap.size w10 y11):=HA11.o.trans (grown_below HP11.o.2 HA11.o.size fun j hj=>by have:=HO11.o.aQ hj;exact this.1)
 have ix:∀W:World,(Instr.indexAt 40 (.slice a11 X11.length k11) (.int .i64 100)).run Tryz.prog W= .ok (.pointer (some (ad a11 100))) W:=HP11.o.1.row.index uN.slice uN.sz 100 HL11.o
 have ce:y11.cell? (ad a11 100)=some (vb (X11[100]'HL11.o)):=HP11.o.1.cellOf HL11.o
 have fe:y11.frozen? (ad a11 100)=false:=HP11.o.1.free 100 HL11.o
 have hst:Row (y11.setCell (ad a11 100) (.int .u8 1)) a11 (X11.set 100 1) k11:=(HP11.o.1.stored 100 HL11.o 1).1.row
 have hbz:Below w10.heap.size w10 (y11.setCell (ad a11 100) (.int .u8 1)):=HB11.o.trans (HP11.o.1.stored 100 HL11.o 1).2.2
 obtain⟨w11,hw11⟩:=AV (y11.setCell (ad a11 100) (.int .u8 1))
 rw[←hw11] at hst hbz
 have HBZ:=AQ hbz
 have HSET11:Hid (X11.set 100 1=B0.set 100 1):=by rw[Hid,HX11.o,HX6.o]
 have HLEN11:Hid ((X11.set 100 1).length=X11.length):=List.length_set
 have HM11:=AQ hst
 clear hbz hst
 go_upto_region 12 with fail
 rw[←hw11]
 clear hw11 ix ce fe
 have HROW:=AQ (HROW.o.stay HBZ.o)
 have H11:=AQ (And.intro (ay H10.o.1 HBZ.o) (And.intro (H10.o.2.1.stay HBZ.o) (H10.o.2.2.trans (HBZ.o.mono H10.o.2.2.size))))
 have HM10:=AQ (HM10.o.stay HBZ.o)
 clear HO11 HA11 HR11 HB11 HBZ H10
 have hk:=jc w11 HM10.o (by rw[HSET10.o];exact dn.2.2.2.2.2.1)
 rw[HLEN10.o] at hk
 have HK:=AQ hk
 clear hk
 go_upto_region 12 with fail
 go_wp2_with fail
 refine(HK.o).mono ?_
 rintro e w12 ⟨Y12,HY12,rfl,hb12⟩
 obtain⟨p12,hp12⟩:=AV (w12.heap.size)
 obtain⟨w13,hw13⟩:=AV (w12.alloc (.cells Y12 32))
 have hb13:Below w12.heap.size w12 w13:=by rw[hw13];exact(Below.refl _ _).alloc (Nat.le_refl _) _
 have hbb:Below w11.heap.size w11 w13:=hb12.trans (hb13.mono hb12.size)
 have H13:=AQ (And.intro (ay H11.o.1 hbb) (And.intro (H11.o.2.1.stay hbb) (H11.o.2.2.trans (hbb.mono H11.o.2.2.size))))
 have HROW:=AQ (HROW.o.stay hbb)
 have hk:=jc w13 (HM11.o.stay hbb) (by rw[HSET11.o];exact dn.2.2.2.2.2.2.1)
 rw[HLEN11.o] at hk
 have HK:=AQ hk
 clear hk hb12 hb13 hbb
 go_upto_region 13 with (with_reducible refine yU (d:=12) (X:=Y12) dF qY HY12.o.1 HY12.o.2 ?_)
 rw[←hw13,←hp12]
 clear hw13 hp12
 go_wp2_with fail
 refine(HK.o).mono ?_
 rintro e w14 ⟨Y14,HY14,rfl,hb14⟩
 obtain⟨p14,hp14⟩:=AV (w14.heap.size)
 obtain⟨w15,hw15⟩:=AV (w14.alloc (.cells Y14 32))
 have hb15:Below w14.heap.size w14 w15:=by rw[hw15];exact(Below.refl _ _).alloc (Nat.le_refl _) _
 have hbb:Below w13.heap.size w13 w15:=hb14.trans (hb15.mono hb14.size)
 have H15:=AQ (And.intro (ay H13.o.1 hbb) (And.intro (H13.o.2.1.stay hbb) (H13.o.2.2.trans (hbb.mono H13.o.2.2.size))))
 obtain⟨aU,U,cU,hU,hsl,hrU⟩:=(HROW.o.stay hbb).upto uN.slice uN.sz 133 (by rw[HX6.o,dn.2.2.1];decide)
 have sl:∀W:World,(Instr.sliceAt 40 (.slice a6 X6.length c6) none (some (.int .i64 133)) none).run Tryz.prog W= .ok (.slice aU U.length cU) W:=hsl
 have hk:=jc w15 hrU (by rw[hU,HX6.o];exact dn.2.2.2.2.2.2.2)
 have HK:=AQ hk
 clear hk hb14 hb15 hbb hU hsl hrU
 go_upto_region 14 with (with_reducible refine yU (d:=14) (X:=Y14) dF qY HY14.o.1 HY14.o.2 ?_)
 rw[←hw15,←hp14]
 clear hw15 hp14
 go_wp2_with fail
 refine(HK.o).mono ?_
 rintro e w16 ⟨Y16,HY16,rfl,hb16⟩
 obtain⟨p16,hp16⟩:=AV (w16.heap.size)
 obtain⟨w17,hw17⟩:=AV (w16.alloc (.cells Y16 32))
 have hb17:Below w16.heap.size w16 w17:=by rw[hw17];exact(Below.refl _ _).alloc (Nat.le_refl _) _
 have hbb:Below w15.heap.size w15 w17:=hb16.trans (hb17.mono hb16.size)
 have H17:=AQ (And.intro (ay H15.o.1 hbb) (And.intro (H15.o.2.1.stay hbb) (H15.o.2.2.trans (hbb.mono H15.o.2.2.size))))
 obtain⟨x,hx⟩:∃x,s.ps=[x]:=List.length_eq_one_iff.1 (by exact_mod_cast hsp)
 have hxp:x.prt=fM ⟨⟨1,by decide⟩,⟨⟨0,by decide⟩,⟨16,by decide⟩⟩,true,[]⟩:=by
  have h1:s.fG.ps=S0.ps:=by rw[Hs.o]
  have h2:s.fG.ps=[x.prt]:=by unfold bU.fG;rw[hx];rfl
  rw[h2] at h1
  exact List.head_eq_of_cons_eq h1
 have hid:x.id.1=1:=congrArg (fun p:qg=>p.id.1) hxp
 have hkp:x.keep=true:=congrArg (fun p:qg=>p.keep) hxp
 have hmm:x.mem=jJ 16 []:=congrArg (fun p:qg=>p.mem) hxp
 have hml:x.mem.length=16:=by rw[hmm];rfl
 have hk:=vN w17 s H17.o.2.1 x [] hx ⟨1,by decide⟩ hid (by rw[hml];decide)
 rw[←HY4.o] at hk
 have HK:=AQ hk
 have LA:=AQ (rE HY4.o H17.o.1)
 have HXF:=AQ (And.intro hkp hml)
 clear hk hb16 hb17 hbb hx hxp hid hkp hmm hml hsp sl
 go_upto_region 15 with (with_reducible refine yU (d:=16) (X:=Y16) dF qY HY16.o.1 HY16.o.2 ?_)
 rw[←hw17,←hp16]
 clear hw17 hp16
 go_wp2_with (with_reducible refine ku (o:=⟨some 115, .load _ (.tmp 4),_,_,_,_⟩) LA.o ?_)
 refine(HK.o).mono ?_
 rintro e w18 ⟨a18,c18,rfl,hb18⟩
 obtain⟨X18,hX18⟩:=AU (cP (x.new a18 c18))
 rw[←hX18.o]
 have HX18:Hid (X18.size=14∧X18.all (·.oneCell')=true):=by rw[hX18.o];exact⟨dZ _,jO _⟩
 obtain⟨p18,hp18⟩:=AV (w18.heap.size)
 obtain⟨w19,hw19⟩:=AV (w18.alloc (.cells X18 42))
 have hb19:Below w18.heap.size w18 w19:=by rw[hw19];exact(Below.refl _ _).alloc (Nat.le_refl _) _
 have hc19:w19.heap[p18]? =some (.cells (cP (x.new a18 c18)) 42 (0,0)):=by rw[hw19,hp18,←hX18.o];exact heap_alloc_new _ _
 have d13:w19.cell? ⟨p18,13,none⟩=some (.slice a18 16 c18):=by
  have:=ak hc19 13 (Gi _ (k:=2) rfl)
  rw[this]
  show some (Value.slice a18 x.mem.length c18)=_
  rw[HXF.o.2]
 have d2:w19.cell? ⟨p18,2,none⟩=some (.bool true):=by
  have:=ak hc19 2 (show(cP (x.new a18 c18))[2]? =some (.bool x.keep) from rfl)
  rw[this,HXF.o.1]
 have HEND:=AQ ((H17.o.2.2.trans (hb18.mono H17.o.2.2.size)).trans (hb19.mono (Nat.le_trans H17.o.2.2.size hb18.size)))
 clear hb18 hb19 hc19 HK LA
 go_upto_region 16 with (with_reducible refine yU (d:=18) (X:=X18) dR oh HX18.o.1 HX18.o.2 ?_)
 rw[←hw19,←hp18]
 clear hw19 hp18
 go_wp2_with fail
 go_ret
 exact⟨rfl,HEND.o⟩
end Go.Proofs.YtlholdllibghbaaGreat
