/- Texts of the proof, one behind the other: StQ, Line, LineX, WrLine. No condition but those that each names. -/
import Derived.Test.YtlholdllibghbaaGreatG17
import Derived.Test.YtlholdllibghbaaGreatG10
import Derived.Test.YtlholdllibghbaaGreatG14
import Derived.Test.YtlholdllibghbaaGreatKit
set_option maxRecDepth 100000
set_option maxHeartbeats 8000000
namespace Go.Proofs.YtlholdllibghbaaGreat
open Go Go.RowKit Go.Cit
@[reducible] def BQ (x:aK):List UInt8:=qJ x.prt
@[reducible] def oG (d:Sl UInt8):List UInt8:=jm d.l
@[reducible] def xW (x:bF):List UInt8:=yT x.kC
theorem ER (x:aK):(BQ x).length=94+x.mem.length:=by
 unfold BQ qJ aK.prt
 simp only[List.length_append,kG,x.r.2]
 simp[oC,int8,aF,eH,aO]
 omega
theorem CQ (x:bF):xW x=FI x.ch++(int8 x.ms.length++x.ms.flatMap oG):=by
 unfold xW yT bF.kC
 simp[List.flatMap_map]
theorem Fb (x:bF):(xW x).length=40+(8+(x.ms.flatMap oG).length):=by
 rw[CQ];simp[FI,int8,aF];omega
theorem uH {base w b a l c} (h:Wr base w b a l c 0) (hbase:base≤w.heap.size) (g:Nat) (hg:w.heap[g]? =some (.cells #[.pointer (some ⟨b,0,none⟩)] 94 (0,0))) {w0:World} (hOld:Below w0.heap.size w0 w) (hB0:w0.heap.size≤base) {a1:Option Addr} {L:List aK} {c1:Nat} (hv:Vec bG 14 w0 a1 L c1) (himg:∀x∈L,Row w0 x.a x.mem x.c) (hroom:l.length+8+(L.flatMap BQ).length≤65536):
 Calls Tryz.prog 85 #[.pointer (some ⟨b,0,none⟩), .slice a1 L.length c1, .func (.func 86) #[] #[.pointer (some ⟨g,0,none⟩)]] w fun e w'=>e= .returned (.tuple #[])∧∃a' X c',Hid (X=l++(int8 L.length++L.flatMap BQ))∧Wr base w' b a' X c' 0∧Save (Off b a) w w'∧dP w.heap.size a a':=by
 have hBel:∀k,k<w0.heap.size→Off b a k:=fun k hk=>⟨by have:=h.ge;omega,fun e=>by have:=(h.own.aQ e.symm).1;omega⟩
 have hgo:Off b a g:=⟨by rintro rfl;have:=h.blk;rw[hg] at this;simp at this,fun e=>own_ne h.own hg AP e.symm⟩
 have hglt:g<w.heap.size:=(Array.getElem?_eq_some_iff.1 hg).1
 have hln:=hv.aI
 have HH:=AQ (And.intro h (And.intro hg hOld))
 have hK:=bH h hbase (L.length:Int) AL
 have HK:=AQ hK
 have HV:=AQ hv
 clear h hg hK
 go_enter Tryz.func85,Tryz.ntmps85
 go_wp2_with fail
 refine(HK.o).mono ?_
 rintro e w1 ⟨a2,X2,c2,H2,rfl,hW2,hS2,hN2⟩
 have HW2:=AQ (And.intro hW2 (And.intro hS2 hN2))
 have H2:Hid (X2=l++int8 L.length):=H2
 clear hW2 hS2 hN2 HK
 go_wp2_with fail
 go_loopw [14] (fun i wr=>∃(k:Nat) (a':Option Addr) (X:List UInt8) (c':Nat),i= .int .i64 (k:Int)∧k≤L.length∧Hid (X=l++(int8 L.length++(L.take k).flatMap BQ))∧Wr base wr b a' X c' 0∧Save (Off b a) w wr∧dP w.heap.size a a') (fun i _=>L.length-(intOf i).toNat)
 case atStart=>exact⟨0,a2,X2,c2,rfl,Nat.zero_le _,by rw[Hid,H2.o];simp,HW2.o.1,HW2.o.2.1,HW2.o.2.2⟩
 case round=>
  obtain⟨k,a3,X3,c3,rfl,hk,H3,hW3,hS3,hN3⟩:=hrel
  have HW3:=AQ (And.intro hW3 (And.intro hS3 hN3))
  by_cases hlt:k<L.length
  ·have hB3:Below w0.heap.size w0 wr:=HH.o.2.2.trans (hS3.below HH.o.2.2.size hBel)
   have HS:=AQ (jY BQ L k hlt)
   have hfl:=uI BQ L (k+1)
   rw[HS.o] at hfl
   simp only[List.length_append] at hfl
   have hl3:X3.length=l.length+8+((L.take k).flatMap BQ).length:=by rw[H3.o];simp[int8,aF];omega
   have hgr:=(hS3.block g hglt hgo).trans HH.o.2.1
   obtain⟨x,hx⟩:∃x,Hid (x=L[k]):=⟨L[k],rfl⟩
   rw[←hx.o] at HS hfl
   obtain⟨X,hX⟩:∃X:Array Value,Hid (X=cP x):=⟨_,rfl⟩
   have HX:=AQ (And.intro (show X.size=14 by rw[hX.o];exact dZ _) (show X.all (·.oneCell')=true by rw[hX.o];exact jO _))
   have i0:=HV.o.index dD k hlt
   have L1:Hid ((Instr.loadAt 42 (.pointer (some (ad a1 (k*14))))).run Tryz.prog wr= .ok (.agg X) wr):=by rw[hX.o,hx.o];exact HV.o.gV dD jo aH hB3 k hlt
   obtain⟨wb,hwb⟩:=AV (wr.alloc (.cells X 42))
   have hbb:Below wr.heap.size wr wb:=by rw[hwb];exact(Below.refl _ _).alloc (Nat.le_refl _) _
   have L2:Hid ((Instr.loadAt 42 (.pointer (some ⟨wr.heap.size,0,none⟩))).run Tryz.prog wb= .ok (.agg X) wb):=fE (C:=X.toList) jo dD.sz (by rw[Array.length_toList];exact HX.o.1) (fun j v hv=>by rw[show(⟨wr.heap.size,0,none⟩:Addr).add j=⟨wr.heap.size,j,none⟩ by unfold Addr.add;split<;>simp_all];rw[World.cell?,hwb,heap_alloc_new];simpa using hv)
   have hbs:base≤wb.heap.size:=Nat.le_trans hbase (Nat.le_trans hS3.size hbb.size)
   have hOldb:=hB3.trans (hbb.mono hB3.size)
   have hkc:=yJ (hW3.stay hbb) hbs g (ay hgr hbb) x hOldb (by rw[hx.o];exact himg _ (List.getElem_mem hlt)) hB0 (by have:=ER x;omega)
   rw[←hX.o] at hkc
   have HKC:=AQ hkc
   have HBB:=AQ hbb
   clear hW3 hS3 hN3 hB3 hbb hgr hbs hfl hOldb hkc
   go_upto_region 4 with (first
    | (with_reducible refine ku (o:=⟨some 17, .load _ (.tmp 16),_,_,_,_⟩) L1.o ?_)
    | (with_reducible refine yU (d:=7) (X:=X) dR oh HX.o.1 HX.o.2 ?_))
   rw[←hwb]
   clear hwb L1 i0
   go_wp2_with (with_reducible refine ku (o:=⟨some 19, .load _ (.tmp 7),_,_,_,_⟩) L2.o ?_)
   refine(HKC.o).mono ?_
   rintro e w5 ⟨rfl,a5,X5,c5,H5,hW5,hS5,hN5⟩
   have HW5:=AQ (And.intro hW5 (And.intro (Save.off HW3.o.2.1 HW3.o.2.2 ((Save.of HBB.o).trans hS5)) (HW3.o.2.2.trans (fun g hg=>(hN5 g hg).imp id (fun h=>Nat.le_trans HBB.o.size h)) HW3.o.2.1.size)))
   have HN5:Hid (X5=l++(int8 L.length++(L.take (k+1)).flatMap BQ)):=by rw[Hid,H5.o,H3.o,HS.o];simp
   have HLT:=AQ hlt
   clear hW5 hS5 hN5 HKC
   go_wp2_with fail
   go_roundw
   case rel=>exact⟨k+1,a5,X5,c5,by go_num,HLT.o,HN5.o,HW5.o.1,HW5.o.2.1,HW5.o.2.2⟩
   case measure=>have:=HLT.o;simp[intOf];omega
  ·have hk2:k=L.length:=by omega
   have HN:Hid (X3=l++(int8 L.length++L.flatMap BQ)):=by rw[Hid,H3.o,hk2,List.take_length]
   clear hW3 hS3 hN3 hk2
   go_wp2_with fail
   go_end0
   exact⟨rfl,a3,X3,c3,HN.o,HW3.o.1,HW3.o.2.1,HW3.o.2.2⟩
theorem uP {base w b a l c} (h:Wr base w b a l c 0) (hbase:base≤w.heap.size) (g:Nat) (hg:w.heap[g]? =some (.cells #[.pointer (some ⟨b,0,none⟩)] 94 (0,0))) (d:Sl UInt8) {w0:World} (hOld:Below w0.heap.size w0 w) (hR:Row w0 d.a d.l d.c) (hroom:l.length+4+d.l.length≤65536):
 Calls Tryz.prog 93 (#[.slice d.a d.l.length d.c]++ #[.pointer (some ⟨g,0,none⟩)]) w fun e w'=>e= .returned (.tuple #[])∧∃a' X c',Hid (X=l++jm d.l)∧Wr base w' b a' X c' 0∧Save (Off b a) w w'∧dP w.heap.size a a':=by
 show Calls Tryz.prog 93 #[.slice d.a d.l.length d.c, .pointer (some ⟨g,0,none⟩)] w _
 have c0:=ak hg 0 rfl
 have HK:=AQ (lW h hbase (hR.stay hOld) AL)
 clear h hg hR hOld
 go_enter Tryz.func93,Tryz.ntmps93
 go_wp2_with fail
 refine(HK.o).mono ?_
 rintro e w5 ⟨a5,X5,c5,H5,rfl,hW5,hS5,hN5⟩
 go_wp2_with fail
 go_end0
 exact⟨rfl,a5,X5,c5,H5,hW5,hS5,hN5⟩
theorem sK {base w b a l c} (h:Wr base w b a l c 0) (hbase:base≤w.heap.size) (g:Nat) (hg:w.heap[g]? =some (.cells #[.pointer (some ⟨b,0,none⟩)] 94 (0,0))) {w0:World} (hOld:Below w0.heap.size w0 w) (hB0:w0.heap.size≤base) {a1:Option Addr} {L:List (Sl UInt8)} {c1:Nat} (hv:Rows w0 a1 L c1) (hroom:l.length+8+(L.flatMap oG).length≤65536):
 Calls Tryz.prog 92 #[.pointer (some ⟨b,0,none⟩), .slice a1 L.length c1, .func (.func 93) #[] #[.pointer (some ⟨g,0,none⟩)]] w fun e w'=>e= .returned (.tuple #[])∧∃a' X c',Hid (X=l++(int8 L.length++L.flatMap oG))∧Wr base w' b a' X c' 0∧Save (Off b a) w w'∧dP w.heap.size a a':=by
 have hBel:∀k,k<w0.heap.size→Off b a k:=fun k hk=>⟨by have:=h.ge;omega,fun e=>by have:=(h.own.aQ e.symm).1;omega⟩
 have hgo:Off b a g:=⟨by rintro rfl;have:=h.blk;rw[hg] at this;simp at this,fun e=>own_ne h.own hg AP e.symm⟩
 have hglt:g<w.heap.size:=(Array.getElem?_eq_some_iff.1 hg).1
 have hln:=hv.aI
 have HH:=AQ (And.intro h (And.intro hg hOld))
 have hK:=bH h hbase (L.length:Int) AL
 have HK:=AQ hK
 have HV:=AQ hv
 clear h hg hK
 go_enter Tryz.func92,Tryz.ntmps92
 go_wp2_with fail
 refine(HK.o).mono ?_
 rintro e w1 ⟨a2,X2,c2,H2,rfl,hW2,hS2,hN2⟩
 have HW2:=AQ (And.intro hW2 (And.intro hS2 hN2))
 have H2:Hid (X2=l++int8 L.length):=H2
 clear hW2 hS2 hN2 HK
 go_wp2_with fail
 go_loopw [14] (fun i wr=>∃(k:Nat) (a':Option Addr) (X:List UInt8) (c':Nat),i= .int .i64 (k:Int)∧k≤L.length∧Hid (X=l++(int8 L.length++(L.take k).flatMap oG))∧Wr base wr b a' X c' 0∧Save (Off b a) w wr∧dP w.heap.size a a') (fun i _=>L.length-(intOf i).toNat)
 case atStart=>exact⟨0,a2,X2,c2,rfl,Nat.zero_le _,by rw[Hid,H2.o];simp,HW2.o.1,HW2.o.2.1,HW2.o.2.2⟩
 case round=>
  obtain⟨k,a3,X3,c3,rfl,hk,H3,hW3,hS3,hN3⟩:=hrel
  have HW3:=AQ (And.intro hW3 (And.intro hS3 hN3))
  by_cases hlt:k<L.length
  ·have hB3:Below w0.heap.size w0 wr:=HH.o.2.2.trans (hS3.below HH.o.2.2.size hBel)
   have HS:=AQ (jY oG L k hlt)
   have hfl:=uI oG L (k+1)
   rw[HS.o] at hfl
   simp only[List.length_append] at hfl
   have hl3:X3.length=l.length+8+((L.take k).flatMap oG).length:=by rw[H3.o];simp[int8,aF];omega
   have hgr:=(hS3.block g hglt hgo).trans HH.o.2.1
   obtain⟨x,hx⟩:∃x,Hid (x=L[k]):=⟨L[k],rfl⟩
   rw[←hx.o] at HS hfl
   have i0:=HV.o.vec.index rZ k hlt
   rw[Nat.mul_one] at i0
   have e0:=(gJ (HV.o.vec.stay jh hB3) fun d hd=>(HV.o.row d hd).stay hB3).cell k hlt
   rw[←hx.o] at e0
   have hbs:base≤wr.heap.size:=Nat.le_trans hbase hS3.size
   have HKC:=AQ (uP hW3 hbs g hgr x hB3 (by rw[hx.o];exact HV.o.row _ (List.getElem_mem hlt)) (by have:(oG x).length=x.l.length+4:=aO _;omega))
   have HBB:=AQ (Below.refl wr.heap.size wr)
   clear hW3 hS3 hN3 hB3 hgr hbs hfl
   go_wp2_with fail
   refine(HKC.o).mono ?_
   rintro e w5 ⟨rfl,a5,X5,c5,H5,hW5,hS5,hN5⟩
   clear i0 e0
   have HW5:=AQ (And.intro hW5 (And.intro (Save.off HW3.o.2.1 HW3.o.2.2 ((Save.of HBB.o).trans hS5)) (HW3.o.2.2.trans (fun g hg=>(hN5 g hg).imp id (fun h=>Nat.le_trans HBB.o.size h)) HW3.o.2.1.size)))
   have HN5:Hid (X5=l++(int8 L.length++(L.take (k+1)).flatMap oG)):=by rw[Hid,H5.o,H3.o,HS.o];simp
   have HLT:=AQ hlt
   clear hW5 hS5 hN5 HKC
   go_wp2_with fail
   go_roundw
   case rel=>exact⟨k+1,a5,X5,c5,by go_num,HLT.o,HN5.o,HW5.o.1,HW5.o.2.1,HW5.o.2.2⟩
   case measure=>have:=HLT.o;simp[intOf];omega
  ·have hk2:k=L.length:=by omega
   have HN:Hid (X3=l++(int8 L.length++L.flatMap oG)):=by rw[Hid,H3.o,hk2,List.take_length]
   clear hW3 hS3 hN3 hk2
   go_wp2_with fail
   go_end0
   exact⟨rfl,a3,X3,c3,HN.o,HW3.o.1,HW3.o.2.1,HW3.o.2.2⟩
def I4 (x:bF) (b g q:Nat):Nat→Value
 | 6=>(.pointer (some ⟨b,0,none⟩))
 | 7=>(.pointer (some ⟨q,0,none⟩))
 | 8=>(.int .i64 x.ch.id.1)
 | 9=>(.pointer (some ⟨b,0,none⟩))
 | 10=>(.pointer (some ⟨q,1,none⟩))
 | 11=>(.int .i64 x.ch.src.1)
 | 12=>(.pointer (some ⟨b,0,none⟩))
 | 13=>(.pointer (some ⟨q,2,none⟩))
 | 14=>(.int .i64 x.ch.dst.1)
 | 15=>(.pointer (some ⟨b,0,none⟩))
 | 16=>(.pointer (some ⟨q,3,none⟩))
 | 17=>(.int .i64 x.ch.cap.1)
 | 18=>(.pointer (some ⟨b,0,none⟩))
 | 19=>(.pointer (some ⟨q,4,none⟩))
 | 20=>(.int .i64 x.ch.size.1)
 | 21=>(.pointer (some ⟨b,0,none⟩))
 | _=>undef
def Ij (x:bF) (b g q:Nat):Nat→Value
 | 1=>(.pointer (some ⟨g,0,none⟩))
 | 3=>(.pointer (some ⟨q,0,none⟩))
 | _=>undef
theorem zh {base w b a l c} (h:Wr base w b a l c 0) (hbase:base≤w.heap.size) (g:Nat) (hg:w.heap[g]? =some (.cells #[.pointer (some ⟨b,0,none⟩)] 94 (0,0))) (x:bF) {w0:World} (hOld:Below w0.heap.size w0 w) (hR:x.At w0) (hB0:w0.heap.size≤base) (hroom:l.length+(xW x).length≤65536):
 Calls Tryz.prog 91 (#[.agg (bZ x).toArray]++ #[.pointer (some ⟨g,0,none⟩)]) w fun e w'=>e= .returned (.tuple #[])∧∃a' X c',Hid (X=l++xW x)∧Wr base w' b a' X c' 0∧Save (Off b a) w w'∧dP w.heap.size a a':=by
 show Calls Tryz.prog 91 #[.agg #[.int .i64 x.ch.id.1, .int .i64 x.ch.src.1, .int .i64 x.ch.dst.1, .int .i64 x.ch.cap.1, .int .i64 x.ch.size.1, .slice x.a x.ms.length x.c], .pointer (some ⟨g,0,none⟩)] w _
 obtain⟨wa,hwa⟩:=AV (w.alloc (.cells #[.int .i64 x.ch.id.1, .int .i64 x.ch.src.1, .int .i64 x.ch.dst.1, .int .i64 x.ch.cap.1, .int .i64 x.ch.size.1, .slice x.a x.ms.length x.c] 51))
 obtain⟨p,hp⟩:=AV (w.heap.size)
 have hba:Below w.heap.size w wa:=by rw[hwa];exact(Below.refl _ w).alloc (Nat.le_refl _) _
 have hpa:wa.heap[p]? =some (.cells #[.int .i64 x.ch.id.1, .int .i64 x.ch.src.1, .int .i64 x.ch.dst.1, .int .i64 x.ch.cap.1, .int .i64 x.ch.size.1, .slice x.a x.ms.length x.c] 51 (0,0)):=by rw[hwa,hp];exact heap_alloc_new _ _
 obtain⟨w1,hw1⟩:=AV (wa.alloc (.cells #[.int .i64 x.ch.id.1, .int .i64 x.ch.src.1, .int .i64 x.ch.dst.1, .int .i64 x.ch.cap.1, .int .i64 x.ch.size.1] 48))
 obtain⟨q,hq⟩:=AV (wa.heap.size)
 have hbb:Below wa.heap.size wa w1:=by rw[hw1];exact(Below.refl _ _).alloc (Nat.le_refl _) _
 have hqx:w1.heap[q]? =some (.cells #[.int .i64 x.ch.id.1, .int .i64 x.ch.src.1, .int .i64 x.ch.dst.1, .int .i64 x.ch.cap.1, .int .i64 x.ch.size.1] 48 (0,0)):=by rw[hw1,hq];exact heap_alloc_new _ _
 have hb1:Below w.heap.size w w1:=hba.trans (hbb.mono hba.size)
 have L1:=AQ (show(Instr.loadAt 48 (.pointer (some ⟨p,0,none⟩))).run Tryz.prog wa= .ok (.agg #[.int .i64 x.ch.id.1, .int .i64 x.ch.src.1, .int .i64 x.ch.dst.1, .int .i64 x.ch.cap.1, .int .i64 x.ch.size.1]) wa from Cm (fun w=>AB) (fun w=>AB) (ak hpa 0 rfl) (ak hpa 1 rfl) (ak hpa 2 rfl) (ak hpa 3 rfl) (ak hpa 4 rfl))
 have HWS:=AQ (h.stay hb1)
 have HGw1:=AQ (ay hg hb1)
 have HQw1:=AQ hqx
 have HPw1:=AQ (ay hpa hbb)
 have HB1:=AQ hb1
 have HGB:Hid (g≠b):=by rintro rfl;have:=h.blk;rw[hg] at this;simp at this
 have HPP:Hid (p≠b∧q≠b):=by have:=h.lt;have:=hba.size;exact⟨by omega,by omega⟩
 have HPB:Hid (q≠b):=HPP.o.2
 have hbs:base≤w1.heap.size:=Nat.le_trans hbase hb1.size
 have HROW0:Hid (x.At w0):=hR
 have HBEL:Hid (∀(a':Option Addr) (X':List UInt8) (c':Nat) (W:World),Wr base W b a' X' c' 0→∀k,k<w0.heap.size→Off b a' k):=fun a' X' c' W hw k hk=>⟨by have:=h.ge;omega,fun e=>by have:=(hw.own.aQ e.symm).1;omega⟩
 have HOLD:=AQ (hOld.trans (hb1.mono hOld.size))
 have hrm:l.length+(40+(8+(x.ms.flatMap oG).length))≤65536:=by have:=Fb x;omega
 have HRM:=AQ hrm
 have HBS:=AQ hbs
 have G0:∀wx,Save (Off b a) w1 wx→wx.cell? ⟨g,0,none⟩=some (.pointer (some ⟨b,0,none⟩)):=fun wx hs=>(hs.cell (p:=⟨g,0,none⟩) (Array.getElem?_eq_some_iff.1 HGw1.o).1 ⟨HGB.o,fun e=>own_ne HWS.o.own HGw1.o AP e.symm⟩).trans (ak HGw1.o 0 rfl)
 have C0:∀wx,Save (Off b a) w1 wx→wx.cell? ⟨q,0,none⟩=some (.int .i64 x.ch.id.1):=fun wx hs=>(hs.cell (p:=⟨q,0,none⟩) (Array.getElem?_eq_some_iff.1 HQw1.o).1 ⟨HPB.o,fun e=>own_ne HWS.o.own HQw1.o AP e.symm⟩).trans (ak HQw1.o 0 rfl)
 have C1:∀wx,Save (Off b a) w1 wx→wx.cell? ⟨q,1,none⟩=some (.int .i64 x.ch.src.1):=fun wx hs=>(hs.cell (p:=⟨q,1,none⟩) (Array.getElem?_eq_some_iff.1 HQw1.o).1 ⟨HPB.o,fun e=>own_ne HWS.o.own HQw1.o AP e.symm⟩).trans (ak HQw1.o 1 rfl)
 have C2:∀wx,Save (Off b a) w1 wx→wx.cell? ⟨q,2,none⟩=some (.int .i64 x.ch.dst.1):=fun wx hs=>(hs.cell (p:=⟨q,2,none⟩) (Array.getElem?_eq_some_iff.1 HQw1.o).1 ⟨HPB.o,fun e=>own_ne HWS.o.own HQw1.o AP e.symm⟩).trans (ak HQw1.o 2 rfl)
 have C3:∀wx,Save (Off b a) w1 wx→wx.cell? ⟨q,3,none⟩=some (.int .i64 x.ch.cap.1):=fun wx hs=>(hs.cell (p:=⟨q,3,none⟩) (Array.getElem?_eq_some_iff.1 HQw1.o).1 ⟨HPB.o,fun e=>own_ne HWS.o.own HQw1.o AP e.symm⟩).trans (ak HQw1.o 3 rfl)
 have C4:∀wx,Save (Off b a) w1 wx→wx.cell? ⟨q,4,none⟩=some (.int .i64 x.ch.size.1):=fun wx hs=>(hs.cell (p:=⟨q,4,none⟩) (Array.getElem?_eq_some_iff.1 HQw1.o).1 ⟨HPB.o,fun e=>own_ne HWS.o.own HQw1.o AP e.symm⟩).trans (ak HQw1.o 4 rfl)
 clear h hg hpa hqx hb1 hba hbb hOld hR hroom
 go_enter Tryz.func91,Tryz.ntmps91
 go_upto_region 1 with fail
 rw[←hwa,←hp]
 clear hwa hp
 go_upto_region 2 with (first
  | (with_reducible refine ku (o:=⟨some 5, .load _ (.tmp 4),_,_,_,_⟩) L1.o ?_)
  | (with_reducible refine yU (d:=3) (X:= #[.int .i64 x.ch.id.1, .int .i64 x.ch.src.1, .int .i64 x.ch.dst.1, .int .i64 x.ch.cap.1, .int .i64 x.ch.size.1]) yA Fp rfl rfl ?_))
 rw[←hw1,←hq]
 clear hw1 hq L1
 have St_save:∀ {k wx},(∃a' X c',Hid (X=l++(List.take k [int8 x.ch.id.1,int8 x.ch.src.1,int8 x.ch.dst.1,int8 x.ch.cap.1,int8 x.ch.size.1]).flatten)∧Wr base wx b a' X c' 0∧Save (Off b a) w1 wx∧dP w1.heap.size a a')→Save (Off b a) w1 wx:=fun⟨_,_,_,_,_,h,_⟩=>h
 refine gQ (I4 x b g q) (Ij x b g q) [1,3] [3,6,9,12,15] (fun k wx=>∃a' X c',Hid (X=l++(List.take k [int8 x.ch.id.1,int8 x.ch.src.1,int8 x.ch.dst.1,int8 x.ch.cap.1,int8 x.ch.size.1]).flatten)∧Wr base wx b a' X c' 0∧Save (Off b a) w1 wx∧dP w1.heap.size a a') AB AB AB ⟨rfl,rfl,trivial⟩ (fun w' hb hh=>⟨a,l,c,by simp[Hid],HWS.o.stay hb,Save.of hb,dP.refl _ _⟩) ?_ ?_
 ·refine ah ?_ (ah ?_ (ah ?_ (ah ?_ (ah ?_ (ah ?_ (ah ?_ (ah ?_ (ah ?_ (ah ?_ (ah ?_ (ah ?_ (ah ?_ (ah ?_ (ah ?_ (ah ?_ dL)))))))))))))))
  all_goals intro ac hk
  ·exact⟨aj rfl, .inr ⟨by decide,fun k wx hk9 hst=>bP (.tmp 1) rfl (show ac.eval (.tmp 1)=(.pointer (some ⟨g,0,none⟩)) from hk.old 1 AB) (v:= .pointer (some ⟨b,0,none⟩)) (bg (fun w=>AB) (G0 wx (St_save hst))) ⟨rfl,rfl⟩⟩⟩
  ·exact⟨aj rfl, .inr ⟨by decide,fun k wx hk9 hst=>dh (.tmp 3) rfl (show ac.eval (.tmp 3)=(.pointer (some ⟨q,0,none⟩)) from hk.old 3 AB) (v:= .pointer (some ⟨q,0,none⟩)) (fun w=>AB) ⟨rfl,rfl⟩⟩⟩
  ·exact⟨aj rfl, .inr ⟨by decide,fun k wx hk9 hst=>bP (.tmp 7) rfl (show ac.eval (.tmp 7)=(.pointer (some ⟨q,0,none⟩)) from hk.slot 7 AB) (v:= .int .i64 x.ch.id.1) (bg (fun w=>AB) (C0 wx (St_save hst))) ⟨rfl,rfl⟩⟩⟩
  ·refine⟨aj rfl, .inl ⟨0,rfl,fun wx hst=> ?_⟩⟩
   have hst0:=hst
   obtain⟨a',X,c',HX,hW,hS,hN⟩:=hst
   have hlen:X.length=l.length+0:=by rw[HX.o];simp[int8,aF,eH,aO]
   refine dw rfl rfl #[.pointer (some ⟨b,0,none⟩), .int .i64 x.ch.id.1] (fun w=>AB) (by simp only[List.map_toArray,List.map_cons,List.map_nil,(show ac.eval (.tmp 6)=(.pointer (some ⟨b,0,none⟩)) from hk.slot 6 AB),(show ac.eval (.tmp 8)=(.int .i64 x.ch.id.1) from hk.slot 8 AB)]) ((bH hW (Nat.le_trans hbs hS.size) x.ch.id.1 AL).mono ?_)
   rintro e w' ⟨a2,X2,c2,H2,rfl,hW2,hS2,hN2⟩
   exact⟨_,rfl,⟨a2,X2,c2,by rw[Hid,H2.o,HX.o];simp[int8],hW2,Save.off hS hN hS2,hN.trans hN2 hS.size⟩,rfl⟩
  ·exact⟨aj rfl, .inr ⟨by decide,fun k wx hk9 hst=>dh (.tmp 3) rfl (show ac.eval (.tmp 3)=(.pointer (some ⟨q,0,none⟩)) from hk.old 3 AB) (v:= .pointer (some ⟨q,1,none⟩)) (fun w=>AB) ⟨rfl,rfl⟩⟩⟩
  ·exact⟨aj rfl, .inr ⟨by decide,fun k wx hk9 hst=>bP (.tmp 10) rfl (show ac.eval (.tmp 10)=(.pointer (some ⟨q,1,none⟩)) from hk.slot 10 AB) (v:= .int .i64 x.ch.src.1) (bg (fun w=>AB) (C1 wx (St_save hst))) ⟨rfl,rfl⟩⟩⟩
  ·refine⟨aj rfl, .inl ⟨1,rfl,fun wx hst=> ?_⟩⟩
   have hst0:=hst
   obtain⟨a',X,c',HX,hW,hS,hN⟩:=hst
   have hlen:X.length=l.length+0+8:=by rw[HX.o];simp[int8,aF,eH,aO]
   refine dw rfl rfl #[.pointer (some ⟨b,0,none⟩), .int .i64 x.ch.src.1] (fun w=>AB) (by simp only[List.map_toArray,List.map_cons,List.map_nil,(show ac.eval (.tmp 9)=(.pointer (some ⟨b,0,none⟩)) from hk.slot 9 AB),(show ac.eval (.tmp 11)=(.int .i64 x.ch.src.1) from hk.slot 11 AB)]) ((bH hW (Nat.le_trans hbs hS.size) x.ch.src.1 AL).mono ?_)
   rintro e w' ⟨a2,X2,c2,H2,rfl,hW2,hS2,hN2⟩
   exact⟨_,rfl,⟨a2,X2,c2,by rw[Hid,H2.o,HX.o];simp[int8],hW2,Save.off hS hN hS2,hN.trans hN2 hS.size⟩,rfl⟩
  ·exact⟨aj rfl, .inr ⟨by decide,fun k wx hk9 hst=>dh (.tmp 3) rfl (show ac.eval (.tmp 3)=(.pointer (some ⟨q,0,none⟩)) from hk.old 3 AB) (v:= .pointer (some ⟨q,2,none⟩)) (fun w=>AB) ⟨rfl,rfl⟩⟩⟩
  ·exact⟨aj rfl, .inr ⟨by decide,fun k wx hk9 hst=>bP (.tmp 13) rfl (show ac.eval (.tmp 13)=(.pointer (some ⟨q,2,none⟩)) from hk.slot 13 AB) (v:= .int .i64 x.ch.dst.1) (bg (fun w=>AB) (C2 wx (St_save hst))) ⟨rfl,rfl⟩⟩⟩
  ·refine⟨aj rfl, .inl ⟨2,rfl,fun wx hst=> ?_⟩⟩
   have hst0:=hst
   obtain⟨a',X,c',HX,hW,hS,hN⟩:=hst
   have hlen:X.length=l.length+0+8+8:=by rw[HX.o];simp[int8,aF,eH,aO]
   refine dw rfl rfl #[.pointer (some ⟨b,0,none⟩), .int .i64 x.ch.dst.1] (fun w=>AB) (by simp only[List.map_toArray,List.map_cons,List.map_nil,(show ac.eval (.tmp 12)=(.pointer (some ⟨b,0,none⟩)) from hk.slot 12 AB),(show ac.eval (.tmp 14)=(.int .i64 x.ch.dst.1) from hk.slot 14 AB)]) ((bH hW (Nat.le_trans hbs hS.size) x.ch.dst.1 AL).mono ?_)
   rintro e w' ⟨a2,X2,c2,H2,rfl,hW2,hS2,hN2⟩
   exact⟨_,rfl,⟨a2,X2,c2,by rw[Hid,H2.o,HX.o];simp[int8],hW2,Save.off hS hN hS2,hN.trans hN2 hS.size⟩,rfl⟩
  ·exact⟨aj rfl, .inr ⟨by decide,fun k wx hk9 hst=>dh (.tmp 3) rfl (show ac.eval (.tmp 3)=(.pointer (some ⟨q,0,none⟩)) from hk.old 3 AB) (v:= .pointer (some ⟨q,3,none⟩)) (fun w=>AB) ⟨rfl,rfl⟩⟩⟩
  ·exact⟨aj rfl, .inr ⟨by decide,fun k wx hk9 hst=>bP (.tmp 16) rfl (show ac.eval (.tmp 16)=(.pointer (some ⟨q,3,none⟩)) from hk.slot 16 AB) (v:= .int .i64 x.ch.cap.1) (bg (fun w=>AB) (C3 wx (St_save hst))) ⟨rfl,rfl⟩⟩⟩
  ·refine⟨aj rfl, .inl ⟨3,rfl,fun wx hst=> ?_⟩⟩
   have hst0:=hst
   obtain⟨a',X,c',HX,hW,hS,hN⟩:=hst
   have hlen:X.length=l.length+0+8+8+8:=by rw[HX.o];simp[int8,aF,eH,aO]<;>omega
   refine dw rfl rfl #[.pointer (some ⟨b,0,none⟩), .int .i64 x.ch.cap.1] (fun w=>AB) (by simp only[List.map_toArray,List.map_cons,List.map_nil,(show ac.eval (.tmp 15)=(.pointer (some ⟨b,0,none⟩)) from hk.slot 15 AB),(show ac.eval (.tmp 17)=(.int .i64 x.ch.cap.1) from hk.slot 17 AB)]) ((bH hW (Nat.le_trans hbs hS.size) x.ch.cap.1 AL).mono ?_)
   rintro e w' ⟨a2,X2,c2,H2,rfl,hW2,hS2,hN2⟩
   exact⟨_,rfl,⟨a2,X2,c2,by rw[Hid,H2.o,HX.o];simp[int8],hW2,Save.off hS hN hS2,hN.trans hN2 hS.size⟩,rfl⟩
  ·exact⟨aj rfl, .inr ⟨by decide,fun k wx hk9 hst=>dh (.tmp 3) rfl (show ac.eval (.tmp 3)=(.pointer (some ⟨q,0,none⟩)) from hk.old 3 AB) (v:= .pointer (some ⟨q,4,none⟩)) (fun w=>AB) ⟨rfl,rfl⟩⟩⟩
  ·exact⟨aj rfl, .inr ⟨by decide,fun k wx hk9 hst=>bP (.tmp 19) rfl (show ac.eval (.tmp 19)=(.pointer (some ⟨q,4,none⟩)) from hk.slot 19 AB) (v:= .int .i64 x.ch.size.1) (bg (fun w=>AB) (C4 wx (St_save hst))) ⟨rfl,rfl⟩⟩⟩
  ·refine⟨aj rfl, .inl ⟨4,rfl,fun wx hst=> ?_⟩⟩
   have hst0:=hst
   obtain⟨a',X,c',HX,hW,hS,hN⟩:=hst
   have hlen:X.length=l.length+0+8+8+8+8:=by rw[HX.o];simp[int8,aF,eH,aO]<;>omega
   refine dw rfl rfl #[.pointer (some ⟨b,0,none⟩), .int .i64 x.ch.size.1] (fun w=>AB) (by simp only[List.map_toArray,List.map_cons,List.map_nil,(show ac.eval (.tmp 18)=(.pointer (some ⟨b,0,none⟩)) from hk.slot 18 AB),(show ac.eval (.tmp 20)=(.int .i64 x.ch.size.1) from hk.slot 20 AB)]) ((bH hW (Nat.le_trans hbs hS.size) x.ch.size.1 AL).mono ?_)
   rintro e w' ⟨a2,X2,c2,H2,rfl,hW2,hS2,hN2⟩
   exact⟨_,rfl,⟨a2,X2,c2,by rw[Hid,H2.o,HX.o];simp[int8],hW2,Save.off hS hN hS2,hN.trans hN2 hS.size⟩,rfl⟩
 intro a9 w2 hst hsame hall
 obtain⟨a2,X2,c2,HXw2,hWw2,hSw2,hNw2⟩:=hst
 have he:=fB hsame [6,7,8,9,10,11,12,13,14,15,16,17,18,19,20,21] AB
 simp only[List.foldl_cons,List.foldl_nil] at he
 generalize a9.eval (.tmp 6)=y6 at he
 generalize a9.eval (.tmp 7)=y7 at he
 generalize a9.eval (.tmp 8)=y8 at he
 generalize a9.eval (.tmp 9)=y9 at he
 generalize a9.eval (.tmp 10)=y10 at he
 generalize a9.eval (.tmp 11)=y11 at he
 generalize a9.eval (.tmp 12)=y12 at he
 generalize a9.eval (.tmp 13)=y13 at he
 generalize a9.eval (.tmp 14)=y14 at he
 generalize a9.eval (.tmp 15)=y15 at he
 generalize a9.eval (.tmp 16)=y16 at he
 generalize a9.eval (.tmp 17)=y17 at he
 generalize a9.eval (.tmp 18)=y18 at he
 generalize a9.eval (.tmp 19)=y19 at he
 generalize a9.eval (.tmp 20)=y20 at he
 generalize a9.eval (.tmp 21)=y21 at he
 simp only[iK] at he
 dsimp only[List.set_cons_zero,List.set_cons_succ] at he
 subst he
 clear hsame hall St_save
 have HX2:Hid (X2=l++FI x.ch):=by rw[Hid,HXw2.o];simp[FI,int8]
 have HGw2:=AQ ((hSw2.block g (Array.getElem?_eq_some_iff.1 HGw1.o).1 ⟨HGB.o,fun e=>own_ne HWS.o.own HGw1.o AP e.symm⟩).trans HGw1.o)
 have HPw2:=AQ ((hSw2.block p (Array.getElem?_eq_some_iff.1 HPw1.o).1 ⟨HPP.o.1,fun e=>own_ne HWS.o.own HPw1.o AP e.symm⟩).trans HPw1.o)
 have hOLD2:=HOLD.o.trans (hSw2.below HOLD.o.size (HBEL.o _ _ _ _ HWS.o))
 have hx2l:X2.length=l.length+40:=by rw[HX2.o];simp[FI,int8,aF]
 have HK:=AQ (sK hWw2 (Nat.le_trans hbs hSw2.size) g HGw2.o hOLD2 hB0 HROW0.o.rows (by have:=HRM.o;omega))
 have HS2:=AQ (And.intro hSw2 hNw2)
 have c0:=ak HGw2.o 0 rfl
 have c5:=ak HPw2.o 5 rfl
 clear hWw2 hSw2 hNw2 HXw2 G0 C0 C1 C2 C3 C4 hOLD2 hbs hx2l hrm
 go_wp2_with fail
 refine(HK.o).mono ?_
 rintro e w5 ⟨rfl,a5,X5,c5',H5,hW5,hS5,hN5⟩
 have HZ:Hid (∃a' X c',Hid (X=l++xW x)∧Wr base w5 b a' X c' 0∧Save (Off b a) w w5∧dP w.heap.size a a'):=⟨a5,X5,c5',by rw[Hid,H5.o,HX2.o,CQ];simp,hW5,(Save.of HB1.o).trans (Save.off HS2.o.1 HS2.o.2 hS5),fun g hg=>((HS2.o.2.trans hN5 HS2.o.1.size) g hg).imp id (fun h=>Nat.le_trans HB1.o.size h)⟩
 clear hW5 hS5 hN5 HK
 go_wp2_with fail
 go_end0
 exact⟨rfl,HZ.o⟩
theorem uM {base w b a l c} (h:Wr base w b a l c 0) (hbase:base≤w.heap.size) (g:Nat) (hg:w.heap[g]? =some (.cells #[.pointer (some ⟨b,0,none⟩)] 94 (0,0))) {w0:World} (hOld:Below w0.heap.size w0 w) (hB0:w0.heap.size≤base) {a1:Option Addr} {L:List bF} {c1:Nat} (hv:Vec bZ 6 w0 a1 L c1) (himg:∀x∈L,x.At w0) (hroom:l.length+8+(L.flatMap xW).length≤65536):
 Calls Tryz.prog 90 #[.pointer (some ⟨b,0,none⟩), .slice a1 L.length c1, .func (.func 91) #[] #[.pointer (some ⟨g,0,none⟩)]] w fun e w'=>e= .returned (.tuple #[])∧∃a' X c',Hid (X=l++(int8 L.length++L.flatMap xW))∧Wr base w' b a' X c' 0∧Save (Off b a) w w'∧dP w.heap.size a a':=by
 have hBel:∀k,k<w0.heap.size→Off b a k:=fun k hk=>⟨by have:=h.ge;omega,fun e=>by have:=(h.own.aQ e.symm).1;omega⟩
 have hgo:Off b a g:=⟨by rintro rfl;have:=h.blk;rw[hg] at this;simp at this,fun e=>own_ne h.own hg AP e.symm⟩
 have hglt:g<w.heap.size:=(Array.getElem?_eq_some_iff.1 hg).1
 have hln:=hv.aI
 have HH:=AQ (And.intro h (And.intro hg hOld))
 have hK:=bH h hbase (L.length:Int) AL
 have HK:=AQ hK
 have HV:=AQ hv
 clear h hg hK
 go_enter Tryz.func90,Tryz.ntmps90
 go_wp2_with fail
 refine(HK.o).mono ?_
 rintro e w1 ⟨a2,X2,c2,H2,rfl,hW2,hS2,hN2⟩
 have HW2:=AQ (And.intro hW2 (And.intro hS2 hN2))
 have H2:Hid (X2=l++int8 L.length):=H2
 clear hW2 hS2 hN2 HK
 go_wp2_with fail
 go_loopw [14] (fun i wr=>∃(k:Nat) (a':Option Addr) (X:List UInt8) (c':Nat),i= .int .i64 (k:Int)∧k≤L.length∧Hid (X=l++(int8 L.length++(L.take k).flatMap xW))∧Wr base wr b a' X c' 0∧Save (Off b a) w wr∧dP w.heap.size a a') (fun i _=>L.length-(intOf i).toNat)
 case atStart=>exact⟨0,a2,X2,c2,rfl,Nat.zero_le _,by rw[Hid,H2.o];simp,HW2.o.1,HW2.o.2.1,HW2.o.2.2⟩
 case round=>
  obtain⟨k,a3,X3,c3,rfl,hk,H3,hW3,hS3,hN3⟩:=hrel
  have HW3:=AQ (And.intro hW3 (And.intro hS3 hN3))
  by_cases hlt:k<L.length
  ·have hB3:Below w0.heap.size w0 wr:=HH.o.2.2.trans (hS3.below HH.o.2.2.size hBel)
   have HS:=AQ (jY xW L k hlt)
   have hfl:=uI xW L (k+1)
   rw[HS.o] at hfl
   simp only[List.length_append] at hfl
   have hl3:X3.length=l.length+8+((L.take k).flatMap xW).length:=by rw[H3.o];simp[int8,aF];omega
   have hgr:=(hS3.block g hglt hgo).trans HH.o.2.1
   obtain⟨x,hx⟩:∃x,Hid (x=L[k]):=⟨L[k],rfl⟩
   rw[←hx.o] at HS hfl
   obtain⟨X,hX⟩:∃X:Array Value,Hid (X=(bZ x).toArray):=⟨_,rfl⟩
   have HX:=AQ (And.intro (show X.size=6 by rw[hX.o];rfl) (show X.all (·.oneCell')=true by rw[hX.o];exact Array.all_eq_true_iff_forall_mem.2 fun v hv=>fZ _ v (by simpa using hv)))
   have i0:=HV.o.index fF k hlt
   have L1:Hid ((Instr.loadAt 51 (.pointer (some (ad a1 (k*6))))).run Tryz.prog wr= .ok (.agg X) wr):=by rw[hX.o,hx.o];exact HV.o.gV fF pI aT hB3 k hlt
   obtain⟨wb,hwb⟩:=AV (wr.alloc (.cells X 51))
   have hbb:Below wr.heap.size wr wb:=by rw[hwb];exact(Below.refl _ _).alloc (Nat.le_refl _) _
   have L2:Hid ((Instr.loadAt 51 (.pointer (some ⟨wr.heap.size,0,none⟩))).run Tryz.prog wb= .ok (.agg X) wb):=fE (C:=X.toList) pI fF.sz (by rw[Array.length_toList];exact HX.o.1) (fun j v hv=>by rw[show(⟨wr.heap.size,0,none⟩:Addr).add j=⟨wr.heap.size,j,none⟩ by unfold Addr.add;split<;>simp_all];rw[World.cell?,hwb,heap_alloc_new];simpa using hv)
   have hbs:base≤wb.heap.size:=Nat.le_trans hbase (Nat.le_trans hS3.size hbb.size)
   have hOldb:=hB3.trans (hbb.mono hB3.size)
   have hkc:=zh (hW3.stay hbb) hbs g (ay hgr hbb) x hOldb (by rw[hx.o];exact himg _ (List.getElem_mem hlt)) hB0 AL
   rw[←hX.o] at hkc
   have HKC:=AQ hkc
   have HBB:=AQ hbb
   clear hW3 hS3 hN3 hB3 hbb hgr hbs hfl hOldb hkc
   go_upto_region 4 with (first
    | (with_reducible refine ku (o:=⟨some 17, .load _ (.tmp 16),_,_,_,_⟩) L1.o ?_)
    | (with_reducible refine yU (d:=7) (X:=X) iM vG HX.o.1 HX.o.2 ?_))
   rw[←hwb]
   clear hwb L1 i0
   go_wp2_with (with_reducible refine ku (o:=⟨some 19, .load _ (.tmp 7),_,_,_,_⟩) L2.o ?_)
   refine(HKC.o).mono ?_
   rintro e w5 ⟨rfl,a5,X5,c5,H5,hW5,hS5,hN5⟩
   have HW5:=AQ (And.intro hW5 (And.intro (Save.off HW3.o.2.1 HW3.o.2.2 ((Save.of HBB.o).trans hS5)) (HW3.o.2.2.trans (fun g hg=>(hN5 g hg).imp id (fun h=>Nat.le_trans HBB.o.size h)) HW3.o.2.1.size)))
   have HN5:Hid (X5=l++(int8 L.length++(L.take (k+1)).flatMap xW)):=by rw[Hid,H5.o,H3.o,HS.o];simp
   have HLT:=AQ hlt
   clear hW5 hS5 hN5 HKC
   go_wp2_with fail
   go_roundw
   case rel=>exact⟨k+1,a5,X5,c5,by go_num,HLT.o,HN5.o,HW5.o.1,HW5.o.2.1,HW5.o.2.2⟩
   case measure=>have:=HLT.o;simp[intOf];omega
  ·have hk2:k=L.length:=by omega
   have HN:Hid (X3=l++(int8 L.length++L.flatMap xW)):=by rw[Hid,H3.o,hk2,List.take_length]
   clear hW3 hS3 hN3 hk2
   go_wp2_with fail
   go_end0
   exact⟨rfl,a3,X3,c3,HN.o,HW3.o.1,HW3.o.2.1,HW3.o.2.2⟩
end Go.Proofs.YtlholdllibghbaaGreat
namespace Go.Cit
open Go Go.RowKit
section
variable {P:Program} {ops:Array Oper} {Q:Exit→Act→World→Prop}
def uz (ops:Array Oper) (idx:List Nat) (j d:Nat):Bool:=match idx[j]? with |some i=>(match ops[i]? with |some o=>decide (o.dst=some d) |none=>false) |none=>false
def zS (ops:Array Oper) (idx:List Nat) (d:Nat):Bool:=(List.range idx.length).any fun j=>uz ops idx j d
theorem wU {idx:List Nat} {j i d:Nat} {o:Oper} (hj:idx[j]? =some i) (ho:ops[i]? =some o) (hd:o.dst=some d):zS ops idx d=true:=
 List.any_eq_true.2 ⟨j,List.mem_range.2 (List.getElem?_eq_some_iff.1 hj).1,by unfold uz;rw[hj];dsimp only;rw[ho];simp[hd]⟩
theorem kE {idx:List Nat} {j d:Nat} (h:uz ops idx j d=true):∃i o,idx[j]? =some i∧ops[i]? =some o∧o.dst=some d:=by
 unfold uz at h
 split at h
 ·rename_i i hi
  split at h
  ·rename_i o ho
   exact⟨i,o,hi,ho,by simpa using h⟩
  ·exact absurd h AP
 ·exact absurd h AP
end
end Go.Cit
namespace Go.Cit
open Go Go.RowKit
section
variable {P:Program} {ops:Array Oper} {Q:Exit→Act→World→Prop}
def wZ (vs:List Value) (j:Nat):Value:=vs.getD j undef
theorem ED {vs:List Value} {v:Value} {j:Nat} (h:j<vs.length):wZ (vs++ [v]) j=wZ vs j:=by
 unfold wZ;rw[List.getD_eq_getElem?_getD,List.getD_eq_getElem?_getD,List.getElem?_append_left h]
def Fj (ops:Array Oper) (idx:List Nat) (m:Nat→Nat):Bool:=(List.range ops.size).all fun n=>decide (n∈idx) || match ops[n]? with
 | some o=>(match o.dst with |some d=>decide (m d=0) || (match idx[m d-1]? with |some i=>eF ops ops.size n i |none=>false) |none=>true)
 | none=>true
theorem Ad {idx:List Nat} {m:Nat→Nat} (h:Fj ops idx m=true) {n d:Nat} {o:Oper} (ho:ops[n]? =some o) (hn:n ∉ idx) (hd:o.dst=some d):m d=0∨∃i,idx[m d-1]? =some i∧eF ops ops.size n i=true:=by
 have h1:=List.all_eq_true.1 h n (List.mem_range.2 (Array.getElem?_eq_some_iff.1 ho).1)
 rw[ho] at h1
 dsimp only at h1
 rw[hd] at h1
 simp only[Bool.or_eq_true,decide_eq_true_eq] at h1
 rcases h1 with h1 |h1 |h1
 ·exact absurd h1 hn
 ·exact .inl h1
 ·split at h1
  ·rename_i i hi;exact .inr ⟨i,hi,h1⟩
  ·exact absurd h1 AP
structure lC (ops:Array Oper) (X:(Nat→Value)→Nat→Value) (Y:Nat→Value) (olds idx:List Nat) (o:Oper) (a:Act) (vs:List Value):Prop where
 slot:∀d,fJ ops o d=true→zS ops idx d=false→a.eval (.tmp d)=X (wZ vs) d
 old:∀d,(gB ops d && olds.contains d)=true→a.eval (.tmp d)=Y d
 line:∀(j d:Nat),fJ ops o d=true→uz ops idx j d=true→j<vs.length∧a.eval (.tmp d)=wZ vs j
 lit:∀v,a.eval (.const v)=v
 fn:∀f,a.eval (.func f)= .func (.func f) #[] #[]
theorem lC.s {ops:Array Oper} {X:(Nat→Value)→Nat→Value} {Y:Nat→Value} {olds idx:List Nat} {o:Oper} {a:Act} {vs:List Value} (h:lC ops X Y olds idx o a vs) (d:Nat) (e:fJ ops o d=true:=by kernel_rfl) (e2:zS ops idx d=false:=by kernel_rfl):a.eval (.tmp d)=X (wZ vs) d:=h.slot d e e2
theorem lC.o {ops:Array Oper} {X:(Nat→Value)→Nat→Value} {Y:Nat→Value} {olds idx:List Nat} {o:Oper} {a:Act} {vs:List Value} (h:lC ops X Y olds idx o a vs) (d:Nat) (e:(gB ops d && olds.contains d)=true:=by kernel_rfl):a.eval (.tmp d)=Y d:=h.old d e
def zL (P:Program) (ops:Array Oper) (X:(Nat→Value)→Nat→Value) (idx:List Nat) (St:List Value→World→Prop) (n:Nat) (o:Oper) (a:Act) (vs:List Value):Prop:=
 Wanted ops o a∧
 (
  (∃j,idx[j]? =some n∧(vs.length=j→∀wx,St vs wx→bK P (fun v w'=>St (vs++ [v]) w') ((execOp a.eval o).run P wx)))∨
  (n ∉ idx∧((∀j i,idx[j]? =some i→eF ops ops.size n i=true→j<vs.length)→(∀j i,idx[j]? =some i→eF ops ops.size i n=true→vs.length≤j)→vs.length≤idx.length→∀wx,St vs wx→bK P (fun v w'=>St vs w'∧BR (X (wZ vs)) o v) ((execOp a.eval o).run P wx))))
def xw (ops:Array Oper) (X:(Nat→Value)→Nat→Value) (m:Nat→Nat) (idx:List Nat) (St:List Value→World→Prop) (δ:Nat→Bool) (a:Act) (wx:World):Prop:=
 ∃vs:List Value,vs.length≤idx.length∧(∀j i,idx[j]? =some i→(δ i=true↔j<vs.length))∧(∀(j d:Nat) (v:Value),vs[j]? =some v→uz ops idx j d=true→a.eval (.tmp d)=v)∧St vs wx∧
  ∀(n d:Nat) (o:Oper),ops[n]? =some o→δ n=true→n ∉ idx→o.dst=some d→a.eval (.tmp d)=X (wZ vs) d∧m d≤vs.length
theorem jl {id:Nat} {a0:Act} {w:World} (X:(Nat→Value)→Nat→Value) (m:Nat→Nat) (Y:Nat→Value) (olds:List Nat) (idx:List Nat) (St:List Value→World→Prop)
 (hm:P.follows .mixedOrders=true) (hs:gU ops a0.tmps.size=true) (hc:chainB ops idx=true) (hh:Fj ops idx m=true) (hY:rQ a0 Y olds)
 (hX:∀d (f g:Nat→Value),(∀j,j<m d→f j=g j)→X f d=X g d)
 (h0:∀w',Alike w w'→St [] w')
 (hop:bJ (fun n o=>∀a vs,lC ops X Y olds idx o a vs→zL P ops X idx St n o a vs) ops.toList 0)
 (hend:∀a vs wx,vs.length=idx.length→St vs wx→dA ops a0 a→(∀d,gB ops d=false→zS ops idx d=false→a.eval (.tmp d)=X (wZ vs) d)→(∀(j d:Nat),uz ops idx j d=true→a.eval (.tmp d)=wZ vs j)→Q .normal a wx):
 (Code.region id ops true).wp P Q a0 w:=by
 have hput:∀ {a:Act} {i:Nat} {o:Oper} {v:Value} {vs:List Value},ops[i]? =some o→(∀j,idx[j]? =some i→vs.length≤j)→
  (∀(j d:Nat) (u:Value),vs[j]? =some u→uz ops idx j d=true→a.eval (.tmp d)=u)→∀(j d:Nat) (u:Value),vs[j]? =some u→uz ops idx j d=true→(a.put o.dst v).eval (.tmp d)=u:=by
  intro a i o v vs ho hi h j d u hu hd
  obtain⟨i',o',hj,ho',hd'⟩:=kE hd
  have hne:i≠i':=fun e=>by
   subst e
   have:=hi j hj
   have:=(List.getElem?_eq_some_iff.1 hu).1
   omega
  refine Eq.trans (aN a o.dst d v (fun e=> ?_)) (h j d u hu hd)
  rcases Nat.lt_or_gt_of_ne hne with hlt |hlt
  ·exact(aS hs ho').2.2 i o d ho hlt hd' e
  ·exact(aS hs ho).2.2 i' o' d ho' hlt e hd'
 have hput2:∀ {a:Act} {i n d:Nat} {o o2:Oper} {v:Value},ops[i]? =some o→ops[n]? =some o2→i≠n→o2.dst=some d→(a.put o.dst v).eval (.tmp d)=a.eval (.tmp d):=by
  intro a i n d o o2 v ho ho2 hne hd
  refine aN a o.dst d v (fun e=> ?_)
  rcases Nat.lt_or_gt_of_ne hne with hlt |hlt
  ·exact(aS hs ho2).2.2 i o d ho hlt hd e
  ·exact(aS hs ho).2.2 n o2 d ho2 hlt e hd
 refine lM (xw ops X m idx St) (fun _ _ _=>True) (fun _ _ _=>True) hm hs (fun w' hb hh=>⟨[],Nat.zero_le _,fun j i _=>⟨fun h=>absurd h AO,fun h=>absurd h (Nat.not_lt_zero _)⟩,fun j d v hv=>by simp at hv,h0 w' ⟨hb,hh⟩,fun n d o _ h=>absurd h AO⟩) ?_ ?_ ?_
 ·intro δ i j o v a w1 w2 _ _ _ _ _ _ _ _
  rcases hd:o.dst with _ |d
  ·exact gq hd _ _
  ·rw[iR hd];trivial
 ·have hn:∀(os:List Oper) (n:Nat),(∀j,os[j]? =ops[n+j]?)→bJ (fun n o=>∀a vs,lC ops X Y olds idx o a vs→zL P ops X idx St n o a vs) os n→
   bJ (fun n o=>∀δ a wx,jA ops (xw ops X m idx St) (fun _ _ _=>True) a0 n o δ a wx→Wanted ops o a∧bK P (fun v w'=>True∧xw ops X m idx St (upd δ n) (a.put o.dst v) w'∧tyP (fun _ _ _=>True) o v w') ((execOp a.eval o).run P wx)) os n:=by
   intro os
   induction os with
   | nil=>intro n _ _;exact trivial
   |
    cons o os ih=>
    intro n hos hall
    refine⟨?_,ih (n+1) (fun j=>by have:=hos (j+1);simpa[Nat.add_assoc,Nat.add_comm 1 j] using this) hall.2⟩
    have ho:ops[n]? =some o:=by simpa using (hos 0).symm
    intro δ a wx hk
    have htriv:∀(v:Value) (w':World),tyP (fun _ _ _=>True) o v w':=fun v w'=>by
     rcases hd:o.dst with _ |d
     ·exact gq hd _ _
     ·rw[iR hd];trivial
    obtain⟨vs,hk1,hk2,hk3,hk4,hk5⟩:=hk.inv
    have hwait:∀d,fJ ops o d=true→∃i p,ops[i]? =some p∧p.dst=some d∧δ i=true:=by
     intro d hd
     unfold fJ at hd
     rw[Array.any_eq_true] at hd
     obtain⟨k,hkk,he⟩:=hd
     rw[Bool.and_eq_true] at he
     obtain⟨hb,hp⟩:=he
     split at hp
     ·rename_i p hpp
      simp only[decide_eq_true_eq] at hp
      have h1:=hk.next n o ho (upd_same _ _) _ (Array.getElem_mem hkk) hb
      have h2:=(aS hs ho).1 _ (Array.getElem_mem hkk) hb
      rw[aA _ AL] at h1
      exact⟨_,p,hpp,hp,h1⟩
     ·exact absurd hp AP
    have hkt:lC ops X Y olds idx o a vs:=⟨fun d hd hl=>by
     obtain⟨i,p,hp,hpd,hi⟩:=hwait d hd
     refine(hk5 i d p hp hi (fun hmem=> ?_) hpd).1
     obtain⟨j,hj,hjj⟩:=List.mem_iff_getElem.1 hmem
     rw[wU (j:=j) (i:=i) (by rw[List.getElem?_eq_getElem hj,hjj]) hp hpd] at hl
     exact absurd hl AP,
     fun d hd=>by
      rw[Bool.and_eq_true] at hd
      exact(hk.old d hd.1).trans (hY.get d hd.2),
     fun j d hd hj=>by
      obtain⟨i,p,hp,hpd,hi⟩:=hwait d hd
      obtain⟨i',o',hj',ho',hd'⟩:=kE hj
      have e:i=i':=by
       rcases Nat.lt_trichotomy i i' with hlt |he |hlt
       ·exact absurd hpd ((aS hs ho').2.2 i p d hp hlt hd')
       ·exact he
       ·exact absurd hd' ((aS hs hp).2.2 i' o' d ho' hlt hpd)
      subst e
      have hlt:=(hk2 j i hj').1 hi
      refine⟨hlt, ?_⟩
      rw[hk3 j d vs[j] (List.getElem?_eq_getElem hlt) hj]
      unfold wZ
      rw[List.getD_eq_getElem?_getD,List.getElem?_eq_getElem hlt];rfl,hk.lit,hk.fn⟩
    obtain⟨hw,h⟩:=hall.1 a vs hkt
    refine⟨hw, ?_⟩
    rcases h with⟨j,hj,h⟩ |⟨hnn,h⟩
    ·have hkj:vs.length=j:=by
      have h1:¬j<vs.length:=fun hlt=>by
       have:=(hk2 j n hj).2 hlt
       rw[hk.yet] at this;exact absurd this AP
      have h2:j≤vs.length:=by
       rcases j with _ |j'
       ·exact Nat.zero_le _
       ·have hlt:=(List.getElem?_eq_some_iff.1 hj).1
        have hj':idx[j']? =some idx[j']:=List.getElem?_eq_getElem AL
        have hneed:=(fO hc hj).2 j' _ rfl hj'
        have hdone:=hk.next.needs ops.size n _ hneed (upd_same _ _)
        have hne:=iT hs _ _ _ hneed
        rw[aA _ AL] at hdone
        exact(hk2 j' _ hj').1 hdone
      omega
     refine kD (fun v w' hv=>⟨trivial,⟨vs++ [v], ?_,fun j2 i2 hj2=> ?_, ?_,hv, ?_⟩,htriv _ _⟩) (h hkj wx hk4)
     ·have:=(List.getElem?_eq_some_iff.1 hj).1
      rw[List.length_append,List.length_singleton];omega
     ·rw[List.length_append,List.length_singleton]
      by_cases he:n=i2
      ·subst he
       rw[upd_same]
       have:=mX hs hc hj hj2
       exact⟨fun _=>by omega,fun _=>rfl⟩
      ·rw[aA _ he,hk2 j2 i2 hj2]
       have:j2≠j:=fun e=>he (by rw[e,hj] at hj2;exact Option.some.inj hj2)
       omega
     ·intro j2 d u hu hd
      rw[List.getElem?_append] at hu
      split at hu
      ·exact hput ho (fun j3 hj3=>by have:=mX hs hc hj hj3;omega) hk3 j2 d u hu hd
      ·obtain⟨i2,o2,hj2,ho2,hd2⟩:=kE hd
       have e0:j2-vs.length=0:=by
        have:=(List.getElem?_eq_some_iff.1 hu).1
        simp at this;omega
       have ej:j2=j:=by omega
       rw[e0] at hu
       obtain rfl:v=u:=by simpa using hu
       subst ej
       rw[hj] at hj2
       obtain rfl:n=i2:=Option.some.inj hj2
       rw[ho] at ho2
       obtain rfl:o=o2:=Option.some.inj ho2
       rw[hd2]
       exact bf _ _ _ (by rw[hk.same.2.1];exact(aS hs ho).2.1 d hd2)
     ·intro n2 d o2 ho2 hδ hn2 hd2
      have hne:n≠n2:=fun e=>hn2 (by rw[←e];exact List.mem_of_getElem? hj)
      rw[aA _ hne] at hδ
      obtain⟨h1,h2⟩:=hk5 n2 d o2 ho2 hδ hn2 hd2
      refine⟨?_,by rw[List.length_append,List.length_singleton];omega⟩
      rw[hput2 ho ho2 hne hd2,h1]
      exact hX d _ _ fun j3 hj3=>(ED AL).symm
    ·have hneeds:∀j i,idx[j]? =some i→eF ops ops.size n i=true→j<vs.length:=fun j i hj hn=>(hk2 j i hj).1 (by
      have hdone:=hk.next.needs ops.size n i hn (upd_same _ _)
      have hne:=iT hs _ _ _ hn
      rwa[aA _ AL] at hdone)
     refine kD (fun v w' hv=> ?_) (h hneeds (fun j i hj hn=> ?_) hk1 wx hk4)
     ·obtain⟨hst,hv⟩:=hv
      refine⟨trivial,⟨vs,hk1,fun j2 i2 hj2=>by
       rw[aA _ (show n≠i2 from fun e=>hnn (by rw[e];exact List.mem_of_getElem? hj2))];exact hk2 j2 i2 hj2,hput ho (fun j3 hj3=>absurd (List.mem_of_getElem? hj3) hnn) hk3,hst, ?_⟩,htriv _ _⟩
      intro n2 d o2 ho2 hδ hn2 hd2
      by_cases hne:n=n2
      ·subst hne
       rw[ho] at ho2
       obtain rfl:o=o2:=Option.some.inj ho2
       refine⟨?_, ?_⟩
       ·rw[hd2]
        refine(bf _ _ _ (by rw[hk.same.2.1];exact(aS hs ho).2.1 d hd2)).trans ?_
        unfold BR at hv
        rw[hd2] at hv
        exact hv
       ·rcases Ad hh ho hnn hd2 with h1 |⟨i,h1,h2⟩
        ·omega
        ·have:=hneeds _ i h1 h2;omega
      ·rw[aA _ hne] at hδ
       rw[hput2 ho ho2 hne hd2]
       exact hk5 n2 d o2 ho2 hδ hn2 hd2
     ·have hy:=hk.closed.yet _ _ _ hn hk.yet
      rcases Nat.lt_or_ge j vs.length with hlt |hge
      ·rw[(hk2 j i hj).2 hlt] at hy;exact absurd hy AP
      ·exact hge
  exact hn ops.toList 0 (fun j=>by simp) hop
 ·intro δ a wx hall hc' hsame _
  obtain⟨vs,hk1,hk2,hk3,hk4,hk5⟩:=hc'
  have hlen:vs.length=idx.length:=by
   rcases Nat.lt_or_ge vs.length idx.length with hlt |hge
   ·have hj:idx[vs.length]? =some idx[vs.length]:=List.getElem?_eq_getElem hlt
    have:=(hk2 _ _ hj).1 (hall _ (fO hc hj).1)
    omega
   ·omega
  refine hend a vs wx hlen hk4 hsame (fun d hd hl=> ?_) (fun j d hd=> ?_)
  ·unfold gB at hd
   rw[Array.all_eq_false] at hd
   obtain⟨i,hi,hd⟩:=hd
   have hd:ops[i].dst=some d:=by simpa using hd
   have ho:ops[i]? =some ops[i]:=Array.getElem?_eq_getElem hi
   refine(hk5 i d _ ho (hall i hi) (fun hmem=> ?_) hd).1
   obtain⟨j,hj,hjj⟩:=List.mem_iff_getElem.1 hmem
   rw[wU (j:=j) (i:=i) (by rw[List.getElem?_eq_getElem hj,hjj]) ho hd] at hl
   exact absurd hl AP
  ·obtain⟨i',o',hj',ho',hd'⟩:=kE hd
   have hlt:j<vs.length:=by have:=(List.getElem?_eq_some_iff.1 hj').1;omega
   rw[hk3 j d vs[j] (List.getElem?_eq_getElem hlt) hd]
   unfold wZ
   rw[List.getD_eq_getElem?_getD,List.getElem?_eq_getElem hlt];rfl
end
end Go.Cit
namespace Go.Proofs.YtlholdllibghbaaGreat
end Go.Proofs.YtlholdllibghbaaGreat
namespace Go.Cit
open Go Go.RowKit
end Go.Cit
namespace Go.Proofs.YtlholdllibghbaaGreat
open Go Go.RowKit Go.Cit
theorem Wr.low {base N:Nat} {w b a l c e} (h:Wr base w b a l c e) (hN:N≤base):Wr N w b a l c e:=⟨h.blk,h.own.low hN,Nat.le_trans hN h.ge,h.len⟩
end Go.Proofs.YtlholdllibghbaaGreat
