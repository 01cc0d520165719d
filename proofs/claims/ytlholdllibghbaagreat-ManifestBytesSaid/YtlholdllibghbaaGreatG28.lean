/- Texts of the proof, one behind the other: Ints, RefForm, RowsOwn, RefShaN. No condition but those that each names. -/
import Derived.Test.YtlholdllibghbaaGreatG27
import Derived.Lib.ConvBytes
import Derived.Deep.AppendSrc
import Derived.Deep.MidRow
import Derived.Deep.Upon
import Derived.Test.YtlholdllibghbaaGreatG01
import Derived.Test.YtlholdllibghbaaGreatG23
import Derived.Test.YtlholdllibghbaaGreatG02
import Derived.Test.YtlholdllibghbaaGreatG05
import Derived.StillTailTactics
import Derived.Deep.RegionLaw
import Derived.BigRegion
import Derived.Test.YtlholdllibghbaaGreatKit
set_option maxRecDepth 100000
set_option maxHeartbeats 8000000
namespace Go.Proofs.YtlholdllibghbaaGreat
open Go Go.RowKit Go.Cit
structure Ints (w:World) (a:Option Addr) (zs:List Int) (cap:Nat):Prop where
 le:zs.length≤cap
 top:cap≤maxLen
 spot:zs≠ []→∃b off,a=some ⟨b,off,none⟩
 cell:∀i (h:i<zs.length),w.cell? (ad a i)=some (.int .i64 zs[i])
 rng:∀i (h:i<zs.length), -9223372036854775808≤zs[i]∧zs[i]≤9223372036854775807
theorem Ints.bK {w a zs cap} (h:Ints w a zs cap):zs.length≤9223372036854775807:=by
 have h1:=h.le;have h2:=h.top;unfold maxLen at h2;omega
theorem Ints.stay {w w':World} {a zs cap} (h:Ints w a zs cap) (hb:Below w.heap.size w w'):Ints w' a zs cap:=
 ⟨h.le,h.top,h.spot,fun i hi=>(hb.cell (World.block_lt_of_cell? w _ (h.cell i hi))).trans (h.cell i hi),h.rng⟩
theorem Vx:∀w,(sizeOf 3).run Tryz.prog w= .ok 1 w:=by intro w;kernel_rfl
theorem Ints.index {w a zs cap} (h:Ints w a zs cap) (i:Nat) (hi:i<zs.length):
 ∀w,(Instr.indexAt 199 (.slice a zs.length cap) (.int .i64 (i:Int))).run Tryz.prog w= .ok (.pointer (some (ad a i))) w:=by
 intro w
 obtain⟨b,off,rfl⟩:=h.spot (by intro h0;simp[h0] at hi)
 have hT:Tryz.prog.underlying 199=some (.slice 3):=Tryz.underlying199
 have he:Tryz.prog.elem 199=3:=by simp[Program.elem,hT]
 rw[run_indexAt_slice w _ _ _ _ _ _ (by rw[he];exact hT),if_pos AL,he,Vx]
 simp only[Result.andThen,ad,Addr.add]
 by_cases h0:i=0
 ·subst h0;simp
 ·simp[h0]
theorem BJ (w:World) (l:List UInt8) (hl:l.length≤1000000000):∃c w',(convert 9 40 (.string ⟨l.toArray⟩)).run Tryz.prog w= .ok (.slice (some ⟨w.heap.size,0,none⟩) l.length c) w'∧Row w' (some ⟨w.heap.size,0,none⟩) l c∧Below w.heap.size w w':=by
 have hr:=Lib.run_convert_string_bytes (P:=Tryz.prog) w 9 40 5 ⟨l.toArray⟩ Tryz.underlying9 Tryz.underlying40 Tryz.underlying5
 have hz:(⟨l.toArray⟩:ByteArray).size=l.length:=by simp[ByteArray.size]
 refine⟨_,_,by rw[hz] at hr;exact hr,⟨by rw[←hz];exact grownCap_ge _ _ _ _,grownCap_le_maxLen _ _ _ _ (by unfold maxLen;omega),fun h=>by simp at h,fun _=>⟨_,_,rfl⟩,fun i hi=> ?_⟩,⟨?_, ?_, ?_, ?_,fun k hk=>Lib.bytesWorld_at_old w _ _ k hk⟩⟩
 ·simp only[ad,Nat.zero_add]
  rw[Lib.bytesWorld_cell w _ _ i (by rw[hz];exact hi)]
  simp[List.getD,hi]
 ·unfold Lib.bytesWorld World.freeze;split<;>rfl
 ·unfold Lib.bytesWorld World.freeze;split<;>rfl
 ·unfold Lib.bytesWorld World.freeze;split<;>rfl
 ·rw[Lib.bytesWorld_size];omega
end Go.Proofs.YtlholdllibghbaaGreat
namespace Go.Cit
open Go Go.RowKit
end Go.Cit
namespace Go.Proofs.YtlholdllibghbaaGreat
open Go Go.RowKit Go.Cit
def PS (z:Int):UInt64:=UInt64.ofNat (z%18446744073709551616).toNat
theorem RF (z:Int):IntKind.u64.wrap z=((PS z).toNat:Int):=by
 unfold PS
 have h1:IntKind.u64.wrap z=z%18446744073709551616:=by simp[IntKind.wrap,IntKind.signed,IntKind.bits]
 rw[h1]
 have h2:(z%18446744073709551616).toNat<18446744073709551616:=by omega
 have h3:(UInt64.ofNat (z%18446744073709551616).toNat).toNat=(z%18446744073709551616).toNat:=by simp;omega
 rw[h3]
 omega
def vV (s:List UInt8) (zs:List Int):List UInt8:=s++ [0]++(zs.map fun z=>rowB (PS z) 8).flatten
open Go Go.RowKit Go.Cit
@[reducible] def sf (d:Sl UInt8):List Value:=[sv d]
theorem JI:∀d,(sf d).length=1:=fun _=>rfl
theorem RU:∀d,∀u∈sf d,u.oneCell'=true:=by
 intro d u hu;obtain rfl:u=sv d:=by simpa using hu
 rfl
@[reducible] def UC:Sl UInt8:=⟨none,0,[]⟩
theorem Q8:bT Tryz.prog 49 40 1 24 (sv UC):=⟨Tryz.underlying49,KE,QT,rfl,by decide,by decide⟩
theorem Rows.vec {w:World} {a:Option Addr} {ds:List (Sl UInt8)} {c:Nat} (h:Rows w a ds c):Vec sf 1 w a ds c:=Vec.Uo (v:=sv) h.le h.top h.nil h.spot h.cell
open Go Go.RowKit Go.Cit
theorem RP (x:UInt32):Hz x (wI 8)=MG 3 x:=by
 unfold Hz wI
 apply UInt32.toNat_inj.1
 rw[UInt32.toNat_div,tX];rfl
theorem Lh (x:UInt32):Hz x (wI 1024)=MG 10 x:=by
 unfold Hz wI
 apply UInt32.toNat_inj.1
 rw[UInt32.toNat_div,tX];rfl
theorem TL (b:List UInt8) (hb:b.length=64) (k:Nat) (hk:k<16):gX b ((4*k:Nat):Int) 4=(dS ((b.drop (4*k)).take 4),true):=by
 unfold gX
 rw[if_pos AL,Int.toNat_natCast]
theorem mV {w:World} {B:Nat} {a:Option Addr} {S:List UInt32} {c:Nat} (h:aS cw 1 38 B w a S c) (i:Nat) (hi:i<S.length):∀n,({w with drawn:=n}:World).cell? (ad a i)=some (vw (S.getD i 0)):=by
 intro n
 have h1:w.cell? (ad a i)=some (vw S[i]):=(h.vec jD).cell1 i hi
 have h2:S.getD i 0=S[i]:=by simp[hi]
 rw[h2]
 exact h1
theorem BG (w:World) (a:Option Addr) (b:List UInt8) (c:Nat) (hr:Row w a b c) (hb:b.length=64):
 Calls Tryz.prog 201 #[.slice a 64 c] w fun e w'=>∃a' c',e= .returned (.slice a' 64 c')∧aS cw 1 38 w.heap.size w' a' (sched b 64) c'∧Below w.heap.size w w':=by
 have HBL:=AQ hb
 clear hb
 go_enter Tryz.func201,Tryz.ntmps201
 go_wp2_with fail
 go_loopw [3,4] (fun v i wr=>∃(k:Nat) (S:List UInt32) (a':Option Addr) (c':Nat),k≤64∧i= .int .i64 k∧v= .slice a' S.length c'∧Hid (S=sched b k)∧aS cw 1 38 w.heap.size wr a' S c'∧Below w.heap.size w wr) (fun _ i _=>64-(intOf i).toNat)
 case atStart=>exact⟨0,[],none,0,by omega,rfl,rfl,rfl,aS.nil_ _ _ _ _ _,Below.refl _ _⟩
 case round=>
  obtain⟨k,S,a',c',hk,rfl,rfl,HL,hO,B⟩:=hrel
  have HSL:Hid (S.length=k):=by rw[Hid,HL.o,fE]
  have hrr:=hr.stay B
  by_cases hlt:k<64
  ·have d1:decide ((k:Int)<64)=true:=by simp;omega
   by_cases h16:k<16
   ·have d2:decide ((k:Int)<16)=true:=by simp;omega
    have e4:IntKind.i64.wrap (4*(k:Int))=((4*k:Nat):Int):=by rw[show(4:Int)*k=((4*k:Nat):Int) by omega];exact IntWalk.i64_in _ AL
    have hld:=Ci wr a b c ((4*k:Nat):Int) 4 4 rfl AP AP AL hrr
    rw[HBL.o,TL b HBL.o k h16] at hld
    dsimp only at hld
    obtain⟨y,hy⟩:∃y,dS ((b.drop (4*k)).take 4)=y:=⟨_,rfl⟩
    rw[hy] at hld
    have HLS:Hid (S++ [sK y]=sched b (k+1)):=by rw[Hid,sched,if_pos h16,hy,←HL.o]
    have HLD:=AQ hld
    have h9:S.length+1≤1000000000:=by rw[HSL.o];omega
    clear hy hld
    go_wp2_with fail
    refine HLD.o.mono ?_
    rintro e w' ⟨rfl,rfl⟩
    go_wp2_with (first
     | ((with_reducible refine dA (o:=⟨some 26, .call _,_,_,_,_⟩) jJ jD NJ (y:=sK y) (.tmp 22) (.tmp 25) AA AA hO AA h9 B.size AA AA ?_);intro a2 c2 w2 hO2 hg2 hn2;have HO2:=AQ hO2;have HB2:=AQ (B.trans (hO.grown hg2 B.size));clear hO2 hg2 hn2))
    go_roundw
    case rel=>exact⟨k+1,_,_,_,by omega,by go_num,by simp,HLS,HO2.o,HB2.o⟩
    case measure=>simp[intOf];omega
   ·have d2:decide ((k:Int)<16)=false:=by simp;omega
    obtain⟨m16,hm16⟩:∃m,k=m+16:=⟨k-16,by omega⟩
    have w16:IntKind.i64.wrap ((k:Int)-16)=((m16:Nat):Int):=by rw[show(k:Int)-16=((m16:Nat):Int) by omega];exact IntWalk.i64_in _ AL
    obtain⟨m7,hm7⟩:=AV (m16+9)
    obtain⟨m15,hm15⟩:=AV (m16+1)
    obtain⟨m2,hm2⟩:=AV (m16+14)
    have w7:IntKind.i64.wrap ((k:Int)-7)=(m7:Int):=by rw[show(k:Int)-7=(m7:Int) by omega];exact IntWalk.i64_in _ AL
    have w15:IntKind.i64.wrap ((k:Int)-15)=(m15:Int):=by rw[show(k:Int)-15=(m15:Int) by omega];exact IntWalk.i64_in _ AL
    have w2':IntKind.i64.wrap ((k:Int)-2)=(m2:Int):=by rw[show(k:Int)-2=(m2:Int) by omega];exact IntWalk.i64_in _ AL
    have HKS:=HSL.o
    have ix:=fun (i:Nat) (hi:i<S.length) (W:World)=>(hO.vec jD).lS jJ i hi W
    have i16:=ix m16 AL
    have i7:=ix m7 AL
    have i15:=ix m15 AL
    have i2:=ix m2 AL
    have c16:=mV hO m16 AL
    have c7:=mV hO m7 AL
    have c15:=mV hO m15 AL
    have c2:=mV hO m2 AL
    obtain⟨x,hx⟩:=AV (dH (dH (dH (S.getD m16 0) (S.getD m7 0)) (pY 7 18 3 (S.getD m15 0))) (pY 17 19 10 (S.getD m2 0)))
    have HLS:Hid (S++ [x]=sched b (k+1)):=by
     rw[Hid,sched,if_neg AL,←HL.o,hx,show k-16=m16 by omega,show k-7=m7 by omega,show k-15=m15 by omega,show k-2=m2 by omega]
    obtain⟨y16,hy16⟩:∃y,S.getD m16 0=y:=⟨_,rfl⟩
    obtain⟨y7,hy7⟩:∃y,S.getD m7 0=y:=⟨_,rfl⟩
    obtain⟨y15,hy15⟩:∃y,S.getD m15 0=y:=⟨_,rfl⟩
    obtain⟨y2,hy2⟩:∃y,S.getD m2 0=y:=⟨_,rfl⟩
    rw[hy16,hy7,hy15,hy2] at hx
    rw[hy16] at c16
    rw[hy7] at c7
    rw[hy15] at c15
    rw[hy2] at c2
    unfold pY zZ at hx
    rw[←RP,←Lh] at hx
    have h9:S.length+1≤1000000000:=by rw[HSL.o];omega
    have HX:=AQ hx
    have HM:=AQ (And.intro hm16 hm7)
    have HY:=AQ (And.intro hy16 hy7)
    clear hm16 hm7 hm15 hm2 hy16 hy7 hy15 hy2 hx HKS ix
    go_wp2_with fail
    go_quiet (fail)
    go_wp2_with fail
    refine(nG _ y15 7 AP AP).mono ?_
    rintro e w1 ⟨rfl,rfl⟩
    go_wp2_with fail
    refine(nG _ y15 18 AP AP).mono ?_
    rintro e w1 ⟨rfl,rfl⟩
    go_wp2_with fail
    refine(nG _ y2 17 AP AP).mono ?_
    rintro e w1 ⟨rfl,rfl⟩
    go_wp2_with fail
    refine(nG _ y2 19 AP AP).mono ?_
    rintro e w1 ⟨rfl,rfl⟩
    go_wp2_with fail
    have hOd:aS cw 1 38 w.heap.size (wr.drewN nq) a' S c':=hO.save (Save.drewN (S:=fun _=>True) _ _) (fun _ _=>trivial)
    have Bd:Below w.heap.size w (wr.drewN nq):=B.trans (below_drewN _ _ _)
    have hwa:∀x y:UInt32,IntKind.u32.wrap ((x.toNat:Int)+y.toNat)=((dH x y).toNat:Int):=jI
    clear c16 c7 c15 c2
    generalize wr.drewN nq=W at hOd Bd ⊢
    have c16:=mV hOd m16 (by have:=HSL.o;have:=HM.o;omega)
    have c7:=mV hOd m7 (by have:=HSL.o;have:=HM.o;omega)
    rw[HY.o.1] at c16
    rw[HY.o.2] at c7
    go_region_law (refine IV jJ jD NJ (y:=x) (.tmp 53) (.tmp 69) rfl rfl hOd (by rw[HX.o]) h9 Bd.size rfl rfl ?_;intro a2 c2 w2 hO2 hg2 hn2)
    all_goals
     simp only[Act.put]
     have HO2:=AQ hO2
     have HB2:=AQ (Bd.trans (hOd.grown hg2 Bd.size))
     clear hO2 hg2 hn2
     go_wp2_with fail
     go_roundw
     case rel=>exact⟨k+1,_,_,_,by omega,by go_num,by simp,HLS,HO2.o,HB2.o⟩
     case measure=>simp[intOf];omega
  ·have hk2:k=64:=by omega
   have d1:decide ((k:Int)<64)=false:=by simp;omega
   have HS2:Hid (S=sched b 64):=by rw[Hid,HL.o,hk2]
   have HSL2:Hid (S.length=64):=by rw[Hid,HSL.o,hk2]
   clear hk2
   go_wp2_with fail
   go_ret
   refine⟨a',c', ?_, ?_,B⟩
   ·show Ending.returned (.slice a' S.length c')=_
    rw[HSL2.o]
   ·rw[←HS2.o];exact hO
end Go.Proofs.YtlholdllibghbaaGreat
