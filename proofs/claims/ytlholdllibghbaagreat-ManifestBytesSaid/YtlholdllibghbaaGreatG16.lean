/- Texts of the proof, one behind the other: Print, PrintAll. No condition but those that each names. -/
import Derived.Test.YtlholdllibghbaaGreatG07
import Derived.Test.YtlholdllibghbaaGreatG12
import Derived.Test.YtlholdllibghbaaGreatG15
import Derived.Test.YtlholdllibghbaaGreatKit
set_option maxRecDepth 100000
set_option maxHeartbeats 8000000
namespace Go.Proofs.YtlholdllibghbaaGreat
open Go Go.RowKit Go.Cit
def int8 (n:Int):List UInt8:=rowB (iH n) 8
theorem kN {α β:Type} (f:α→List β) (L:List α) (k:Nat) (h:k<L.length):(L.take (k+1)).flatMap f=(L.take k).flatMap f++f L[k]:=by
 rw[List.take_succ_eq_append_getElem h,List.flatMap_append];simp
theorem qc {α β:Type} (f:α→List β) (L:List α) (k:Nat):((L.take k).flatMap f).length≤(L.flatMap f).length:=by
 conv=>rhs;rw[←List.take_append_drop k L,List.flatMap_append,List.length_append]
 omega
def VN (x:qm) (b _ p:Nat):Nat→Value
 | 3=>(.pointer (some ⟨b,0,none⟩))
 | 4=>(.pointer (some ⟨p,0,none⟩))
 | 5=>(.int .i64 x.len.1)
 | 6=>(.pointer (some ⟨b,0,none⟩))
 | 7=>(.pointer (some ⟨p,1,none⟩))
 | 8=>(.int .i64 x.part.1)
 | 9=>(.pointer (some ⟨b,0,none⟩))
 | _=>undef
def UE (_:qm) (_ g p:Nat):Nat→Value
 | 1=>(.pointer (some ⟨g,0,none⟩))
 | 2=>(.pointer (some ⟨p,0,none⟩))
 | _=>undef
def iO (x:qm):List UInt8:=(int8 x.len.1)++(int8 x.part.1)
theorem KH {base w b a l c} (h:Wr base w b a l c 0) (hbase:base≤w.heap.size) (g:Nat) (hg:w.heap[g]? =some (.cells #[.pointer (some ⟨b,0,none⟩)] 94 (0,0))) (x:qm) (hroom:l.length+(8+8)≤65536):
 Calls Tryz.prog 185 (#[.agg #[.int .i64 x.len.1, .int .i64 x.part.1]]++ #[.pointer (some ⟨g,0,none⟩)]) w fun e w'=>e= .returned (.tuple #[])∧∃a' X c',Hid (X=l++iO x)∧Wr base w' b a' X c' 0∧Save (Off b a) w w'∧iI w.heap.size a a':=by
 show Calls Tryz.prog 185 #[.agg #[.int .i64 x.len.1, .int .i64 x.part.1], .pointer (some ⟨g,0,none⟩)] w _
 obtain⟨w1,hw1⟩:=AV (w.alloc (.cells #[.int .i64 x.len.1, .int .i64 x.part.1] 77))
 obtain⟨p,hp⟩:=AV (w.heap.size)
 have hb1:Below w.heap.size w w1:=by rw[hw1];exact(Below.refl _ w).alloc (Nat.le_refl _) _
 have hpx:w1.heap[p]? =some (.cells #[.int .i64 x.len.1, .int .i64 x.part.1] 77 (0,0)):=by rw[hw1,hp];exact heap_alloc_new _ _
 have hW1:=h.stay hb1
 have hg1:=aG hg hb1
 have hbase:base≤w1.heap.size:=Nat.le_trans hbase hb1.size
 have hplt:p<w1.heap.size:=(Array.getElem?_eq_some_iff.1 hpx).1
 have hglt:g<w1.heap.size:=(Array.getElem?_eq_some_iff.1 hg1).1
 have hpo:Off b a p:=⟨by have:=h.lt;omega,fun e=>by have:=(h.own.aK e.symm).2;omega⟩
 have hgo:Off b a g:=⟨by rintro rfl;have:=h.blk;rw[hg] at this;simp at this,fun e=>own_ne h.own hg AP e.symm⟩
 have St_save:∀ {k wx},(∃a' X c',Hid (X=l++(List.take k [int8 x.len.1,int8 x.part.1]).flatten)∧Wr base wx b a' X c' 0∧Save (Off b a) w1 wx∧iI w1.heap.size a a')→Save (Off b a) w1 wx:=fun⟨_,_,_,_,_,h,_⟩=>h
 have G0:∀wx,Save (Off b a) w1 wx→wx.cell? ⟨g,0,none⟩=some (.pointer (some ⟨b,0,none⟩)):=fun wx hs=>(hs.cell (p:=⟨g,0,none⟩) hglt hgo).trans (au hg1 0 rfl)
 have C0:∀wx,Save (Off b a) w1 wx→wx.cell? ⟨p,0,none⟩=some (.int .i64 x.len.1):=fun wx hs=>(hs.cell (p:=⟨p,0,none⟩) hplt hpo).trans (au hpx 0 rfl)
 have C1:∀wx,Save (Off b a) w1 wx→wx.cell? ⟨p,1,none⟩=some (.int .i64 x.part.1):=fun wx hs=>(hs.cell (p:=⟨p,1,none⟩) hplt hpo).trans (au hpx 1 rfl)
 go_enter Tryz.func185,Tryz.ntmps185
 go_upto_region 1 with fail
 rw[←hw1,←hp]
 refine lJ (VN x b g p) (UE x b g p) [1,2] [3,6] (fun k wx=>∃a' X c',Hid (X=l++(List.take k [int8 x.len.1,int8 x.part.1]).flatten)∧Wr base wx b a' X c' 0∧Save (Off b a) w1 wx∧iI w1.heap.size a a') AB AB AB ⟨rfl,rfl,trivial⟩ (fun w' hb hh=>⟨a,l,c,by simp[Hid],hW1.stay hb,Save.of hb,iI.refl _ _⟩) ?_ ?_
 ·repeat' (first |exact aU |refine aI ?_ ?_)
  all_goals intro a hk
  ·exact⟨ah rfl, .inr ⟨by decide,fun k wx hk9 hst=>bg (.tmp 1) rfl (hk.o 1) (v:= .pointer (some ⟨b,0,none⟩)) (bM (fun w=>AB) (G0 wx (St_save hst))) ⟨rfl,rfl⟩⟩⟩
  ·exact⟨ah rfl, .inr ⟨by decide,fun k wx hk9 hst=>bF (.tmp 2) rfl (hk.o 2) (v:= .pointer (some ⟨p,0,none⟩)) (fun w=>AB) ⟨rfl,rfl⟩⟩⟩
  ·exact⟨ah rfl, .inr ⟨by decide,fun k wx hk9 hst=>bg (.tmp 4) rfl (hk.s 4) (v:= .int .i64 x.len.1) (bM (fun w=>AB) (C0 wx (St_save hst))) ⟨rfl,rfl⟩⟩⟩
  ·refine⟨ah rfl, .inl ⟨0,rfl,fun wx hst=> ?_⟩⟩
   obtain⟨a',X,c',HX,hW,hS,hN⟩:=hst
   have hlen:X.length=l.length+0:=by rw[HX.o];simp[int8,aB,iK,bn]
   refine bJ rfl rfl #[.pointer (some ⟨b,0,none⟩), .int .i64 x.len.1] (fun w=>AB) (by simp only[List.map_toArray,List.map_cons,List.map_nil,(show a.eval (.tmp 3)=(.pointer (some ⟨b,0,none⟩)) from hk.s 3),(show a.eval (.tmp 5)=(.int .i64 x.len.1) from hk.s 5)]) ((dR hW (Nat.le_trans hbase hS.size) x.len.1 AL).mono ?_)
   rintro e w' ⟨a2,X2,c2,H2,rfl,hW2,hS2,hN2⟩
   exact⟨_,rfl,⟨a2,X2,c2,by rw[Hid,H2.o,HX.o];simp[int8],hW2,Save.off hS hN hS2,hN.trans hN2 hS.size⟩,rfl⟩
  ·exact⟨ah rfl, .inr ⟨by decide,fun k wx hk9 hst=>bF (.tmp 2) rfl (hk.o 2) (v:= .pointer (some ⟨p,1,none⟩)) (fun w=>AB) ⟨rfl,rfl⟩⟩⟩
  ·exact⟨ah rfl, .inr ⟨by decide,fun k wx hk9 hst=>bg (.tmp 7) rfl (hk.s 7) (v:= .int .i64 x.part.1) (bM (fun w=>AB) (C1 wx (St_save hst))) ⟨rfl,rfl⟩⟩⟩
  ·refine⟨ah rfl, .inl ⟨1,rfl,fun wx hst=> ?_⟩⟩
   obtain⟨a',X,c',HX,hW,hS,hN⟩:=hst
   have hlen:X.length=l.length+0+8:=by rw[HX.o];simp[int8,aB,iK,bn]
   refine bJ rfl rfl #[.pointer (some ⟨b,0,none⟩), .int .i64 x.part.1] (fun w=>AB) (by simp only[List.map_toArray,List.map_cons,List.map_nil,(show a.eval (.tmp 6)=(.pointer (some ⟨b,0,none⟩)) from hk.s 6),(show a.eval (.tmp 8)=(.int .i64 x.part.1) from hk.s 8)]) ((dR hW (Nat.le_trans hbase hS.size) x.part.1 AL).mono ?_)
   rintro e w' ⟨a2,X2,c2,H2,rfl,hW2,hS2,hN2⟩
   exact⟨_,rfl,⟨a2,X2,c2,by rw[Hid,H2.o,HX.o];simp[int8],hW2,Save.off hS hN hS2,hN.trans hN2 hS.size⟩,rfl⟩
 intro a9 wz hst hsame hall
 obtain⟨a',X,c',HX,hW,hS,hN⟩:=hst
 have he:=dn hsame [3,4,5,6,7,8,9] AB
 simp only[List.foldl_cons,List.foldl_nil] at he
 generalize a9.eval (.tmp 3)=y3 at he
 generalize a9.eval (.tmp 4)=y4 at he
 generalize a9.eval (.tmp 5)=y5 at he
 generalize a9.eval (.tmp 6)=y6 at he
 generalize a9.eval (.tmp 7)=y7 at he
 generalize a9.eval (.tmp 8)=y8 at he
 generalize a9.eval (.tmp 9)=y9 at he
 simp only[fV] at he
 dsimp only[List.set_cons_zero,List.set_cons_succ] at he
 subst he
 clear hsame hall
 have HZ:Hid (∃a' X c',Hid (X=l++iO x)∧Wr base wz b a' X c' 0∧Save (Off b a) w wz∧iI w.heap.size a a'):=⟨a',X,c',by rw[Hid,HX.o];simp[iO],hW,(Save.of hb1).trans hS,fun g hg=>(hN g hg).imp id (fun h=>Nat.le_trans hb1.size h)⟩
 go_wp2_with fail
 go_end0
 exact⟨rfl,HZ.o⟩
theorem Ib {base w b a l c} (h:Wr base w b a l c 0) (hbase:base≤w.heap.size) (g:Nat) (hg:w.heap[g]? =some (.cells #[.pointer (some ⟨b,0,none⟩)] 94 (0,0))) {w0:World} (hOld:Below w0.heap.size w0 w) (hB0:w0.heap.size≤base) {a1:Option Addr} {L:List qm} {c1:Nat} (hv:Vec mY 2 w0 a1 L c1) (hroom:l.length+8+(L.flatMap iO).length≤65536):
 Calls Tryz.prog 184 #[.pointer (some ⟨b,0,none⟩), .slice a1 L.length c1, .func (.func 185) #[] #[.pointer (some ⟨g,0,none⟩)]] w fun e w'=>e= .returned (.tuple #[])∧∃a' X c',Hid (X=l++(int8 L.length++L.flatMap iO))∧Wr base w' b a' X c' 0∧Save (Off b a) w w'∧iI w.heap.size a a':=by
 have hBel:∀k,k<w0.heap.size→Off b a k:=fun k hk=>⟨by have:=h.ge;omega,fun e=>by have:=(h.own.aK e.symm).1;omega⟩
 have hgo:Off b a g:=⟨by rintro rfl;have:=h.blk;rw[hg] at this;simp at this,fun e=>own_ne h.own hg AP e.symm⟩
 have hglt:g<w.heap.size:=(Array.getElem?_eq_some_iff.1 hg).1
 have hln:=hv.bK
 have HH:=AQ (And.intro h (And.intro hg hOld))
 have hK:=dR h hbase (L.length:Int) AL
 have HK:=AQ hK
 have HV:=AQ hv
 clear h hg hK
 go_enter Tryz.func184,Tryz.ntmps184
 go_wp2_with fail
 refine(HK.o).mono ?_
 rintro e w1 ⟨a2,X2,c2,H2,rfl,hW2,hS2,hN2⟩
 have HW2:=AQ (And.intro hW2 (And.intro hS2 hN2))
 have H2:Hid (X2=l++int8 L.length):=H2
 clear hW2 hS2 hN2 HK
 go_wp2_with fail
 go_loopw [14] (fun i wr=>∃(k:Nat) (a':Option Addr) (X:List UInt8) (c':Nat),i= .int .i64 (k:Int)∧k≤L.length∧Hid (X=l++(int8 L.length++(L.take k).flatMap iO))∧Wr base wr b a' X c' 0∧Save (Off b a) w wr∧iI w.heap.size a a') (fun i _=>L.length-(intOf i).toNat)
 case atStart=>exact⟨0,a2,X2,c2,rfl,Nat.zero_le _,by rw[Hid,H2.o];simp,HW2.o.1,HW2.o.2.1,HW2.o.2.2⟩
 case round=>
  obtain⟨k,a3,X3,c3,rfl,hk,H3,hW3,hS3,hN3⟩:=hrel
  have HW3:=AQ (And.intro hW3 (And.intro hS3 hN3))
  by_cases hlt:k<L.length
  ·have hB3:Below w0.heap.size w0 wr:=HH.o.2.2.trans (hS3.below HH.o.2.2.size hBel)
   have i0:=HV.o.index JR k hlt
   obtain⟨u0,u1⟩:=jQ HV.o hB3 k hlt
   have HS:=AQ (kN iO L k hlt)
   have hfl:=qc iO L (k+1)
   rw[HS.o] at hfl
   simp only[List.length_append] at hfl
   have hl3:X3.length=l.length+8+((L.take k).flatMap iO).length:=by rw[H3.o];simp[int8,aB];omega
   obtain⟨x,hx⟩:∃x,Hid (x=L[k]):=⟨L[k],rfl⟩
   rw[←hx.o] at u0 u1 HS hfl
   obtain⟨wb,hwb⟩:=AV (wr.alloc (.cells #[.int .i64 x.len.1, .int .i64 x.part.1] 77))
   have hbb:Below wr.heap.size wr wb:=by rw[hwb];exact(Below.refl _ _).alloc (Nat.le_refl _) _
   have hgb:wb.heap[g]? =some (.cells #[.pointer (some ⟨b,0,none⟩)] 94 (0,0)):=aG ((hS3.block g hglt hgo).trans HH.o.2.1) hbb
   have hbs:base≤wb.heap.size:=Nat.le_trans hbase (Nat.le_trans hS3.size hbb.size)
   have hbl:(iO x).length=8+8:=by simp[iO,int8,aB,iK,bn]<;>omega
   have HKC:=AQ (KH (hW3.stay hbb) hbs g hgb x AL)
   have HBB:=AQ hbb
   clear hW3 hS3 hN3 hB3 hbb hgb hbs hfl
   go_wp2_with fail
   rw[←hwb]
   clear hwb
   refine(HKC.o).mono ?_
   rintro e w5 ⟨rfl,a5,X5,c5,H5,hW5,hS5,hN5⟩
   have HW5:=AQ (And.intro hW5 (And.intro (Save.off HW3.o.2.1 HW3.o.2.2 ((Save.of HBB.o).trans hS5)) (HW3.o.2.2.trans (fun g hg=>(hN5 g hg).imp id (fun h=>Nat.le_trans HBB.o.size h)) HW3.o.2.1.size)))
   have HN5:Hid (X5=l++(int8 L.length++(L.take (k+1)).flatMap iO)):=by rw[Hid,H5.o,H3.o,HS.o];simp
   clear hW5 hS5 hN5 HKC u0 u1 i0
   go_wp2_with fail
   go_roundw
   case rel=>exact⟨k+1,a5,X5,c5,by go_num,by omega,HN5.o,HW5.o.1,HW5.o.2.1,HW5.o.2.2⟩
   case measure=>simp[intOf];omega
  ·have hk2:k=L.length:=by omega
   have HN:Hid (X3=l++(int8 L.length++L.flatMap iO)):=by rw[Hid,H3.o,hk2,List.take_length]
   clear hW3 hS3 hN3 hk2
   go_wp2_with fail
   go_end0
   exact⟨rfl,a3,X3,c3,HN.o,HW3.o.1,HW3.o.2.1,HW3.o.2.2⟩
def Vy (x:dL) (b _ p:Nat):Nat→Value
 | 3=>(.pointer (some ⟨b,0,none⟩))
 | 4=>(.pointer (some ⟨p,0,none⟩))
 | 5=>(.int .i64 x.id.1)
 | 6=>(.pointer (some ⟨b,0,none⟩))
 | 7=>(.pointer (some ⟨p,1,none⟩))
 | 8=>(.pointer (some ⟨p,1,none⟩))
 | 9=>(.int .i64 x.reg.base.1)
 | 10=>(.pointer (some ⟨b,0,none⟩))
 | 11=>(.pointer (some ⟨p,1,none⟩))
 | 12=>(.pointer (some ⟨p,2,none⟩))
 | 13=>(.int .i64 x.reg.size.1)
 | 14=>(.pointer (some ⟨b,0,none⟩))
 | 15=>(.pointer (some ⟨p,3,none⟩))
 | 16=>(.bool x.keep)
 | 17=>(.pointer (some ⟨b,0,none⟩))
 | 18=>(.pointer (some ⟨p,4,none⟩))
 | 19=>(.slice x.a x.img.length x.c)
 | 20=>(.pointer (some ⟨b,0,none⟩))
 | _=>undef
def U6 (_:dL) (_ g p:Nat):Nat→Value
 | 1=>(.pointer (some ⟨g,0,none⟩))
 | 2=>(.pointer (some ⟨p,0,none⟩))
 | _=>undef
def je (x:dL):List UInt8:=(int8 x.id.1)++(int8 x.reg.base.1)++(int8 x.reg.size.1)++(iK x.keep)++(kC x.img)
theorem KI {base w b a l c} (h:Wr base w b a l c 0) (hbase:base≤w.heap.size) (g:Nat) (hg:w.heap[g]? =some (.cells #[.pointer (some ⟨b,0,none⟩)] 94 (0,0))) (x:dL) {w0:World} (hOld:Below w0.heap.size w0 w) (hR:Row w0 x.a x.img x.c) (hB0:w0.heap.size≤base) (hroom:l.length+(8+8+8+1+(x.img.length+4))≤65536):
 Calls Tryz.prog 187 (#[.agg #[.int .i64 x.id.1, .int .i64 x.reg.base.1, .int .i64 x.reg.size.1, .bool x.keep, .slice x.a x.img.length x.c]]++ #[.pointer (some ⟨g,0,none⟩)]) w fun e w'=>e= .returned (.tuple #[])∧∃a' X c',Hid (X=l++je x)∧Wr base w' b a' X c' 0∧Save (Off b a) w w'∧iI w.heap.size a a':=by
 show Calls Tryz.prog 187 #[.agg #[.int .i64 x.id.1, .int .i64 x.reg.base.1, .int .i64 x.reg.size.1, .bool x.keep, .slice x.a x.img.length x.c], .pointer (some ⟨g,0,none⟩)] w _
 obtain⟨w1,hw1⟩:=AV (w.alloc (.cells #[.int .i64 x.id.1, .int .i64 x.reg.base.1, .int .i64 x.reg.size.1, .bool x.keep, .slice x.a x.img.length x.c] 46))
 obtain⟨p,hp⟩:=AV (w.heap.size)
 have hb1:Below w.heap.size w w1:=by rw[hw1];exact(Below.refl _ w).alloc (Nat.le_refl _) _
 have hpx:w1.heap[p]? =some (.cells #[.int .i64 x.id.1, .int .i64 x.reg.base.1, .int .i64 x.reg.size.1, .bool x.keep, .slice x.a x.img.length x.c] 46 (0,0)):=by rw[hw1,hp];exact heap_alloc_new _ _
 have hW1:=h.stay hb1
 have hg1:=aG hg hb1
 have hbase:base≤w1.heap.size:=Nat.le_trans hbase hb1.size
 have hplt:p<w1.heap.size:=(Array.getElem?_eq_some_iff.1 hpx).1
 have hglt:g<w1.heap.size:=(Array.getElem?_eq_some_iff.1 hg1).1
 have hpo:Off b a p:=⟨by have:=h.lt;omega,fun e=>by have:=(h.own.aK e.symm).2;omega⟩
 have hgo:Off b a g:=⟨by rintro rfl;have:=h.blk;rw[hg] at this;simp at this,fun e=>own_ne h.own hg AP e.symm⟩
 have hOld:=hOld.trans (hb1.mono hOld.size)
 have hBel:∀k,k<w0.heap.size→Off b a k:=fun k hk=>⟨by have:=h.ge;omega,fun e=>by have:=(h.own.aK e.symm).1;omega⟩
 have hS1:w1.heap.size≤w1.heap.size:=Nat.le_refl _
 have St_save:∀ {k wx},(∃a' X c',Hid (X=l++(List.take k [int8 x.id.1,int8 x.reg.base.1,int8 x.reg.size.1,iK x.keep,kC x.img]).flatten)∧Wr base wx b a' X c' 0∧Save (Off b a) w1 wx∧iI w1.heap.size a a')→Save (Off b a) w1 wx:=fun⟨_,_,_,_,_,h,_⟩=>h
 have G0:∀wx,Save (Off b a) w1 wx→wx.cell? ⟨g,0,none⟩=some (.pointer (some ⟨b,0,none⟩)):=fun wx hs=>(hs.cell (p:=⟨g,0,none⟩) hglt hgo).trans (au hg1 0 rfl)
 have C0:∀wx,Save (Off b a) w1 wx→wx.cell? ⟨p,0,none⟩=some (.int .i64 x.id.1):=fun wx hs=>(hs.cell (p:=⟨p,0,none⟩) hplt hpo).trans (au hpx 0 rfl)
 have C1:∀wx,Save (Off b a) w1 wx→wx.cell? ⟨p,1,none⟩=some (.int .i64 x.reg.base.1):=fun wx hs=>(hs.cell (p:=⟨p,1,none⟩) hplt hpo).trans (au hpx 1 rfl)
 have C2:∀wx,Save (Off b a) w1 wx→wx.cell? ⟨p,2,none⟩=some (.int .i64 x.reg.size.1):=fun wx hs=>(hs.cell (p:=⟨p,2,none⟩) hplt hpo).trans (au hpx 2 rfl)
 have C3:∀wx,Save (Off b a) w1 wx→wx.cell? ⟨p,3,none⟩=some (.bool x.keep):=fun wx hs=>(hs.cell (p:=⟨p,3,none⟩) hplt hpo).trans (au hpx 3 rfl)
 have C4:∀wx,Save (Off b a) w1 wx→wx.cell? ⟨p,4,none⟩=some (.slice x.a x.img.length x.c):=fun wx hs=>(hs.cell (p:=⟨p,4,none⟩) hplt hpo).trans (au hpx 4 rfl)
 go_enter Tryz.func187,Tryz.ntmps187
 go_upto_region 1 with fail
 rw[←hw1,←hp]
 refine lJ (Vy x b g p) (U6 x b g p) [1,2] [3,7,11,14,17] (fun k wx=>∃a' X c',Hid (X=l++(List.take k [int8 x.id.1,int8 x.reg.base.1,int8 x.reg.size.1,iK x.keep,kC x.img]).flatten)∧Wr base wx b a' X c' 0∧Save (Off b a) w1 wx∧iI w1.heap.size a a') AB AB AB ⟨rfl,rfl,trivial⟩ (fun w' hb hh=>⟨a,l,c,by simp[Hid],hW1.stay hb,Save.of hb,iI.refl _ _⟩) ?_ ?_
 ·repeat' (first |exact aU |refine aI ?_ ?_)
  all_goals intro a hk
  ·exact⟨ah rfl, .inr ⟨by decide,fun k wx hk9 hst=>bg (.tmp 1) rfl (hk.o 1) (v:= .pointer (some ⟨b,0,none⟩)) (bM (fun w=>AB) (G0 wx (St_save hst))) ⟨rfl,rfl⟩⟩⟩
  ·exact⟨ah rfl, .inr ⟨by decide,fun k wx hk9 hst=>bF (.tmp 2) rfl (hk.o 2) (v:= .pointer (some ⟨p,0,none⟩)) (fun w=>AB) ⟨rfl,rfl⟩⟩⟩
  ·exact⟨ah rfl, .inr ⟨by decide,fun k wx hk9 hst=>bg (.tmp 4) rfl (hk.s 4) (v:= .int .i64 x.id.1) (bM (fun w=>AB) (C0 wx (St_save hst))) ⟨rfl,rfl⟩⟩⟩
  ·refine⟨ah rfl, .inl ⟨0,rfl,fun wx hst=> ?_⟩⟩
   obtain⟨a',X,c',HX,hW,hS,hN⟩:=hst
   have hlen:X.length=l.length+0:=by rw[HX.o];simp[int8,aB,iK,bn]
   refine bJ rfl rfl #[.pointer (some ⟨b,0,none⟩), .int .i64 x.id.1] (fun w=>AB) (by simp only[List.map_toArray,List.map_cons,List.map_nil,(show a.eval (.tmp 3)=(.pointer (some ⟨b,0,none⟩)) from hk.s 3),(show a.eval (.tmp 5)=(.int .i64 x.id.1) from hk.s 5)]) ((dR hW (Nat.le_trans hbase hS.size) x.id.1 AL).mono ?_)
   rintro e w' ⟨a2,X2,c2,H2,rfl,hW2,hS2,hN2⟩
   exact⟨_,rfl,⟨a2,X2,c2,by rw[Hid,H2.o,HX.o];simp[int8],hW2,Save.off hS hN hS2,hN.trans hN2 hS.size⟩,rfl⟩
  ·exact⟨ah rfl, .inr ⟨by decide,fun k wx hk9 hst=>bF (.tmp 2) rfl (hk.o 2) (v:= .pointer (some ⟨p,1,none⟩)) (fun w=>AB) ⟨rfl,rfl⟩⟩⟩
  ·exact⟨ah rfl, .inr ⟨by decide,fun k wx hk9 hst=>bF (.tmp 7) rfl (hk.s 7) (v:= .pointer (some ⟨p,1,none⟩)) (fun w=>AB) ⟨rfl,rfl⟩⟩⟩
  ·exact⟨ah rfl, .inr ⟨by decide,fun k wx hk9 hst=>bg (.tmp 8) rfl (hk.s 8) (v:= .int .i64 x.reg.base.1) (bM (fun w=>AB) (C1 wx (St_save hst))) ⟨rfl,rfl⟩⟩⟩
  ·refine⟨ah rfl, .inl ⟨1,rfl,fun wx hst=> ?_⟩⟩
   obtain⟨a',X,c',HX,hW,hS,hN⟩:=hst
   have hlen:X.length=l.length+0+8:=by rw[HX.o];simp[int8,aB,iK,bn]
   refine bJ rfl rfl #[.pointer (some ⟨b,0,none⟩), .int .i64 x.reg.base.1] (fun w=>AB) (by simp only[List.map_toArray,List.map_cons,List.map_nil,(show a.eval (.tmp 6)=(.pointer (some ⟨b,0,none⟩)) from hk.s 6),(show a.eval (.tmp 9)=(.int .i64 x.reg.base.1) from hk.s 9)]) ((dR hW (Nat.le_trans hbase hS.size) x.reg.base.1 AL).mono ?_)
   rintro e w' ⟨a2,X2,c2,H2,rfl,hW2,hS2,hN2⟩
   exact⟨_,rfl,⟨a2,X2,c2,by rw[Hid,H2.o,HX.o];simp[int8],hW2,Save.off hS hN hS2,hN.trans hN2 hS.size⟩,rfl⟩
  ·exact⟨ah rfl, .inr ⟨by decide,fun k wx hk9 hst=>bF (.tmp 2) rfl (hk.o 2) (v:= .pointer (some ⟨p,1,none⟩)) (fun w=>AB) ⟨rfl,rfl⟩⟩⟩
  ·exact⟨ah rfl, .inr ⟨by decide,fun k wx hk9 hst=>bF (.tmp 11) rfl (hk.s 11) (v:= .pointer (some ⟨p,2,none⟩)) (fun w=>AB) ⟨rfl,rfl⟩⟩⟩
  ·exact⟨ah rfl, .inr ⟨by decide,fun k wx hk9 hst=>bg (.tmp 12) rfl (hk.s 12) (v:= .int .i64 x.reg.size.1) (bM (fun w=>AB) (C2 wx (St_save hst))) ⟨rfl,rfl⟩⟩⟩
  ·refine⟨ah rfl, .inl ⟨2,rfl,fun wx hst=> ?_⟩⟩
   obtain⟨a',X,c',HX,hW,hS,hN⟩:=hst
   have hlen:X.length=l.length+0+8+8:=by rw[HX.o];simp[int8,aB,iK,bn]
   refine bJ rfl rfl #[.pointer (some ⟨b,0,none⟩), .int .i64 x.reg.size.1] (fun w=>AB) (by simp only[List.map_toArray,List.map_cons,List.map_nil,(show a.eval (.tmp 10)=(.pointer (some ⟨b,0,none⟩)) from hk.s 10),(show a.eval (.tmp 13)=(.int .i64 x.reg.size.1) from hk.s 13)]) ((dR hW (Nat.le_trans hbase hS.size) x.reg.size.1 AL).mono ?_)
   rintro e w' ⟨a2,X2,c2,H2,rfl,hW2,hS2,hN2⟩
   exact⟨_,rfl,⟨a2,X2,c2,by rw[Hid,H2.o,HX.o];simp[int8],hW2,Save.off hS hN hS2,hN.trans hN2 hS.size⟩,rfl⟩
  ·exact⟨ah rfl, .inr ⟨by decide,fun k wx hk9 hst=>bF (.tmp 2) rfl (hk.o 2) (v:= .pointer (some ⟨p,3,none⟩)) (fun w=>AB) ⟨rfl,rfl⟩⟩⟩
  ·exact⟨ah rfl, .inr ⟨by decide,fun k wx hk9 hst=>bg (.tmp 15) rfl (hk.s 15) (v:= .bool x.keep) (bM (fun w=>AB) (C3 wx (St_save hst))) ⟨rfl,rfl⟩⟩⟩
  ·refine⟨ah rfl, .inl ⟨3,rfl,fun wx hst=> ?_⟩⟩
   obtain⟨a',X,c',HX,hW,hS,hN⟩:=hst
   have hlen:X.length=l.length+0+8+8+8:=by rw[HX.o];simp[int8,aB,iK,bn]
   refine bJ rfl rfl #[.pointer (some ⟨b,0,none⟩), .bool x.keep] (fun w=>AB) (by simp only[List.map_toArray,List.map_cons,List.map_nil,(show a.eval (.tmp 14)=(.pointer (some ⟨b,0,none⟩)) from hk.s 14),(show a.eval (.tmp 16)=(.bool x.keep) from hk.s 16)]) ((Hw hW (Nat.le_trans hbase hS.size) x.keep AL).mono ?_)
   rintro e w' ⟨a2,X2,c2,H2,rfl,hW2,hS2,hN2⟩
   exact⟨_,rfl,⟨a2,X2,c2,by rw[Hid,H2.o,HX.o];simp[int8],hW2,Save.off hS hN hS2,hN.trans hN2 hS.size⟩,rfl⟩
  ·exact⟨ah rfl, .inr ⟨by decide,fun k wx hk9 hst=>bF (.tmp 2) rfl (hk.o 2) (v:= .pointer (some ⟨p,4,none⟩)) (fun w=>AB) ⟨rfl,rfl⟩⟩⟩
  ·exact⟨ah rfl, .inr ⟨by decide,fun k wx hk9 hst=>bg (.tmp 18) rfl (hk.s 18) (v:= .slice x.a x.img.length x.c) (bM (fun w=>AB) (C4 wx (St_save hst))) ⟨rfl,rfl⟩⟩⟩
  ·refine⟨ah rfl, .inl ⟨4,rfl,fun wx hst=> ?_⟩⟩
   obtain⟨a',X,c',HX,hW,hS,hN⟩:=hst
   have hlen:X.length=l.length+0+8+8+8+1:=by rw[HX.o];simp[int8,aB,iK,bn]
   refine bJ rfl rfl #[.pointer (some ⟨b,0,none⟩), .slice x.a x.img.length x.c] (fun w=>AB) (by simp only[List.map_toArray,List.map_cons,List.map_nil,(show a.eval (.tmp 17)=(.pointer (some ⟨b,0,none⟩)) from hk.s 17),(show a.eval (.tmp 19)=(.slice x.a x.img.length x.c) from hk.s 19)]) ((vX hW (Nat.le_trans hbase hS.size) (hR.stay (hOld.trans (hS.below (Nat.le_trans hOld.size hS1) hBel))) AL).mono ?_)
   rintro e w' ⟨a2,X2,c2,H2,rfl,hW2,hS2,hN2⟩
   exact⟨_,rfl,⟨a2,X2,c2,by rw[Hid,H2.o,HX.o];simp[int8],hW2,Save.off hS hN hS2,hN.trans hN2 hS.size⟩,rfl⟩
 intro a9 wz hst hsame hall
 obtain⟨a',X,c',HX,hW,hS,hN⟩:=hst
 have he:=dn hsame [3,4,5,6,7,8,9,10,11,12,13,14,15,16,17,18,19,20] AB
 simp only[List.foldl_cons,List.foldl_nil] at he
 generalize a9.eval (.tmp 3)=y3 at he
 generalize a9.eval (.tmp 4)=y4 at he
 generalize a9.eval (.tmp 5)=y5 at he
 generalize a9.eval (.tmp 6)=y6 at he
 generalize a9.eval (.tmp 7)=y7 at he
 generalize a9.eval (.tmp 8)=y8 at he
 generalize a9.eval (.tmp 9)=y9 at he
 generalize a9.eval (.tmp 10)=y10 at he
 generalize a9.eval (.tmp 11)=y11 at he
 generalize a9.eval (.tmp 12)=y12 at he
 generalize a9.eval (.tmp 13)=y13 at he
 generalize a9.eval (.tmp 14)=y14 at he
 generalize a9.eval (.tmp 15)=y15 at he
 generalize a9.eval (.tmp 16)=y16 at he
 generalize a9.eval (.tmp 17)=y17 at he
 generalize a9.eval (.tmp 18)=y18 at he
 generalize a9.eval (.tmp 19)=y19 at he
 generalize a9.eval (.tmp 20)=y20 at he
 simp only[fV] at he
 dsimp only[List.set_cons_zero,List.set_cons_succ] at he
 subst he
 clear hsame hall
 have HZ:Hid (∃a' X c',Hid (X=l++je x)∧Wr base wz b a' X c' 0∧Save (Off b a) w wz∧iI w.heap.size a a'):=⟨a',X,c',by rw[Hid,HX.o];simp[je],hW,(Save.of hb1).trans hS,fun g hg=>(hN g hg).imp id (fun h=>Nat.le_trans hb1.size h)⟩
 go_wp2_with fail
 go_end0
 exact⟨rfl,HZ.o⟩
theorem F6 {base w b a l c} (h:Wr base w b a l c 0) (hbase:base≤w.heap.size) (g:Nat) (hg:w.heap[g]? =some (.cells #[.pointer (some ⟨b,0,none⟩)] 94 (0,0))) {w0:World} (hOld:Below w0.heap.size w0 w) (hB0:w0.heap.size≤base) {a1:Option Addr} {L:List dL} {c1:Nat} (hv:Vec Bo 5 w0 a1 L c1) (himg:∀x∈L,Row w0 x.a x.img x.c) (hroom:l.length+8+(L.flatMap je).length≤65536):
 Calls Tryz.prog 186 #[.pointer (some ⟨b,0,none⟩), .slice a1 L.length c1, .func (.func 187) #[] #[.pointer (some ⟨g,0,none⟩)]] w fun e w'=>e= .returned (.tuple #[])∧∃a' X c',Hid (X=l++(int8 L.length++L.flatMap je))∧Wr base w' b a' X c' 0∧Save (Off b a) w w'∧iI w.heap.size a a':=by
 have hBel:∀k,k<w0.heap.size→Off b a k:=fun k hk=>⟨by have:=h.ge;omega,fun e=>by have:=(h.own.aK e.symm).1;omega⟩
 have hgo:Off b a g:=⟨by rintro rfl;have:=h.blk;rw[hg] at this;simp at this,fun e=>own_ne h.own hg AP e.symm⟩
 have hglt:g<w.heap.size:=(Array.getElem?_eq_some_iff.1 hg).1
 have hln:=hv.bK
 have HH:=AQ (And.intro h (And.intro hg hOld))
 have hK:=dR h hbase (L.length:Int) AL
 have HK:=AQ hK
 have HV:=AQ hv
 clear h hg hK
 go_enter Tryz.func186,Tryz.ntmps186
 go_wp2_with fail
 refine(HK.o).mono ?_
 rintro e w1 ⟨a2,X2,c2,H2,rfl,hW2,hS2,hN2⟩
 have HW2:=AQ (And.intro hW2 (And.intro hS2 hN2))
 have H2:Hid (X2=l++int8 L.length):=H2
 clear hW2 hS2 hN2 HK
 go_wp2_with fail
 go_loopw [14] (fun i wr=>∃(k:Nat) (a':Option Addr) (X:List UInt8) (c':Nat),i= .int .i64 (k:Int)∧k≤L.length∧Hid (X=l++(int8 L.length++(L.take k).flatMap je))∧Wr base wr b a' X c' 0∧Save (Off b a) w wr∧iI w.heap.size a a') (fun i _=>L.length-(intOf i).toNat)
 case atStart=>exact⟨0,a2,X2,c2,rfl,Nat.zero_le _,by rw[Hid,H2.o];simp,HW2.o.1,HW2.o.2.1,HW2.o.2.2⟩
 case round=>
  obtain⟨k,a3,X3,c3,rfl,hk,H3,hW3,hS3,hN3⟩:=hrel
  have HW3:=AQ (And.intro hW3 (And.intro hS3 hN3))
  by_cases hlt:k<L.length
  ·have hB3:Below w0.heap.size w0 wr:=HH.o.2.2.trans (hS3.below HH.o.2.2.size hBel)
   have i0:=HV.o.index Di k hlt
   obtain⟨u0,u1,u2,u3,u4⟩:=dh HV.o hB3 k hlt
   have HS:=AQ (kN je L k hlt)
   have hfl:=qc je L (k+1)
   rw[HS.o] at hfl
   simp only[List.length_append] at hfl
   have hl3:X3.length=l.length+8+((L.take k).flatMap je).length:=by rw[H3.o];simp[int8,aB];omega
   have HROW:=AQ (himg L[k] (List.getElem_mem hlt))
   obtain⟨x,hx⟩:∃x,Hid (x=L[k]):=⟨L[k],rfl⟩
   rw[←hx.o] at u0 u1 u2 u3 u4 HS hfl HROW
   obtain⟨wb,hwb⟩:=AV (wr.alloc (.cells #[.int .i64 x.id.1, .int .i64 x.reg.base.1, .int .i64 x.reg.size.1, .bool x.keep, .slice x.a x.img.length x.c] 46))
   have hbb:Below wr.heap.size wr wb:=by rw[hwb];exact(Below.refl _ _).alloc (Nat.le_refl _) _
   have hgb:wb.heap[g]? =some (.cells #[.pointer (some ⟨b,0,none⟩)] 94 (0,0)):=aG ((hS3.block g hglt hgo).trans HH.o.2.1) hbb
   have hbs:base≤wb.heap.size:=Nat.le_trans hbase (Nat.le_trans hS3.size hbb.size)
   have hbl:(je x).length=8+8+8+1+(x.img.length+4):=by simp[je,int8,aB,iK,bn]<;>omega
   have HKC:=AQ (KI (hW3.stay hbb) hbs g hgb x (HH.o.2.2.trans ((hS3.below HH.o.2.2.size hBel).trans (hbb.mono (HH.o.2.2.trans (hS3.below HH.o.2.2.size hBel)).size))) HROW.o hB0 AL)
   have HBB:=AQ hbb
   clear hW3 hS3 hN3 hB3 hbb hgb hbs hfl
   go_wp2_with fail
   rw[←hwb]
   clear hwb
   refine(HKC.o).mono ?_
   rintro e w5 ⟨rfl,a5,X5,c5,H5,hW5,hS5,hN5⟩
   have HW5:=AQ (And.intro hW5 (And.intro (Save.off HW3.o.2.1 HW3.o.2.2 ((Save.of HBB.o).trans hS5)) (HW3.o.2.2.trans (fun g hg=>(hN5 g hg).imp id (fun h=>Nat.le_trans HBB.o.size h)) HW3.o.2.1.size)))
   have HN5:Hid (X5=l++(int8 L.length++(L.take (k+1)).flatMap je)):=by rw[Hid,H5.o,H3.o,HS.o];simp
   clear hW5 hS5 hN5 HKC u0 u1 u2 u3 u4 i0
   go_wp2_with fail
   go_roundw
   case rel=>exact⟨k+1,a5,X5,c5,by go_num,by omega,HN5.o,HW5.o.1,HW5.o.2.1,HW5.o.2.2⟩
   case measure=>simp[intOf];omega
  ·have hk2:k=L.length:=by omega
   have HN:Hid (X3=l++(int8 L.length++L.flatMap je)):=by rw[Hid,H3.o,hk2,List.take_length]
   clear hW3 hS3 hN3 hk2
   go_wp2_with fail
   go_end0
   exact⟨rfl,a3,X3,c3,HN.o,HW3.o.1,HW3.o.2.1,HW3.o.2.2⟩
def Vz (x:Ch) (b _ p:Nat):Nat→Value
 | 3=>(.pointer (some ⟨b,0,none⟩))
 | 4=>(.pointer (some ⟨p,0,none⟩))
 | 5=>(.int .i64 x.id.1)
 | 6=>(.pointer (some ⟨b,0,none⟩))
 | 7=>(.pointer (some ⟨p,1,none⟩))
 | 8=>(.int .i64 x.src.1)
 | 9=>(.pointer (some ⟨b,0,none⟩))
 | 10=>(.pointer (some ⟨p,2,none⟩))
 | 11=>(.int .i64 x.dst.1)
 | 12=>(.pointer (some ⟨b,0,none⟩))
 | 13=>(.pointer (some ⟨p,3,none⟩))
 | 14=>(.int .i64 x.cap.1)
 | 15=>(.pointer (some ⟨b,0,none⟩))
 | 16=>(.pointer (some ⟨p,4,none⟩))
 | 17=>(.int .i64 x.size.1)
 | 18=>(.pointer (some ⟨b,0,none⟩))
 | _=>undef
def UJ (_:Ch) (_ g p:Nat):Nat→Value
 | 1=>(.pointer (some ⟨g,0,none⟩))
 | 2=>(.pointer (some ⟨p,0,none⟩))
 | _=>undef
def xU (x:Ch):List UInt8:=(int8 x.id.1)++(int8 x.src.1)++(int8 x.dst.1)++(int8 x.cap.1)++(int8 x.size.1)
theorem MR {base w b a l c} (h:Wr base w b a l c 0) (hbase:base≤w.heap.size) (g:Nat) (hg:w.heap[g]? =some (.cells #[.pointer (some ⟨b,0,none⟩)] 94 (0,0))) (x:Ch) (hroom:l.length+(8+8+8+8+8)≤65536):
 Calls Tryz.prog 189 (#[.agg #[.int .i64 x.id.1, .int .i64 x.src.1, .int .i64 x.dst.1, .int .i64 x.cap.1, .int .i64 x.size.1]]++ #[.pointer (some ⟨g,0,none⟩)]) w fun e w'=>e= .returned (.tuple #[])∧∃a' X c',Hid (X=l++xU x)∧Wr base w' b a' X c' 0∧Save (Off b a) w w'∧iI w.heap.size a a':=by
 show Calls Tryz.prog 189 #[.agg #[.int .i64 x.id.1, .int .i64 x.src.1, .int .i64 x.dst.1, .int .i64 x.cap.1, .int .i64 x.size.1], .pointer (some ⟨g,0,none⟩)] w _
 obtain⟨w1,hw1⟩:=AV (w.alloc (.cells #[.int .i64 x.id.1, .int .i64 x.src.1, .int .i64 x.dst.1, .int .i64 x.cap.1, .int .i64 x.size.1] 48))
 obtain⟨p,hp⟩:=AV (w.heap.size)
 have hb1:Below w.heap.size w w1:=by rw[hw1];exact(Below.refl _ w).alloc (Nat.le_refl _) _
 have hpx:w1.heap[p]? =some (.cells #[.int .i64 x.id.1, .int .i64 x.src.1, .int .i64 x.dst.1, .int .i64 x.cap.1, .int .i64 x.size.1] 48 (0,0)):=by rw[hw1,hp];exact heap_alloc_new _ _
 have hW1:=h.stay hb1
 have hg1:=aG hg hb1
 have hbase:base≤w1.heap.size:=Nat.le_trans hbase hb1.size
 have hplt:p<w1.heap.size:=(Array.getElem?_eq_some_iff.1 hpx).1
 have hglt:g<w1.heap.size:=(Array.getElem?_eq_some_iff.1 hg1).1
 have hpo:Off b a p:=⟨by have:=h.lt;omega,fun e=>by have:=(h.own.aK e.symm).2;omega⟩
 have hgo:Off b a g:=⟨by rintro rfl;have:=h.blk;rw[hg] at this;simp at this,fun e=>own_ne h.own hg AP e.symm⟩
 have St_save:∀ {k wx},(∃a' X c',Hid (X=l++(List.take k [int8 x.id.1,int8 x.src.1,int8 x.dst.1,int8 x.cap.1,int8 x.size.1]).flatten)∧Wr base wx b a' X c' 0∧Save (Off b a) w1 wx∧iI w1.heap.size a a')→Save (Off b a) w1 wx:=fun⟨_,_,_,_,_,h,_⟩=>h
 have G0:∀wx,Save (Off b a) w1 wx→wx.cell? ⟨g,0,none⟩=some (.pointer (some ⟨b,0,none⟩)):=fun wx hs=>(hs.cell (p:=⟨g,0,none⟩) hglt hgo).trans (au hg1 0 rfl)
 have C0:∀wx,Save (Off b a) w1 wx→wx.cell? ⟨p,0,none⟩=some (.int .i64 x.id.1):=fun wx hs=>(hs.cell (p:=⟨p,0,none⟩) hplt hpo).trans (au hpx 0 rfl)
 have C1:∀wx,Save (Off b a) w1 wx→wx.cell? ⟨p,1,none⟩=some (.int .i64 x.src.1):=fun wx hs=>(hs.cell (p:=⟨p,1,none⟩) hplt hpo).trans (au hpx 1 rfl)
 have C2:∀wx,Save (Off b a) w1 wx→wx.cell? ⟨p,2,none⟩=some (.int .i64 x.dst.1):=fun wx hs=>(hs.cell (p:=⟨p,2,none⟩) hplt hpo).trans (au hpx 2 rfl)
 have C3:∀wx,Save (Off b a) w1 wx→wx.cell? ⟨p,3,none⟩=some (.int .i64 x.cap.1):=fun wx hs=>(hs.cell (p:=⟨p,3,none⟩) hplt hpo).trans (au hpx 3 rfl)
 have C4:∀wx,Save (Off b a) w1 wx→wx.cell? ⟨p,4,none⟩=some (.int .i64 x.size.1):=fun wx hs=>(hs.cell (p:=⟨p,4,none⟩) hplt hpo).trans (au hpx 4 rfl)
 go_enter Tryz.func189,Tryz.ntmps189
 go_upto_region 1 with fail
 rw[←hw1,←hp]
 refine lJ (Vz x b g p) (UJ x b g p) [1,2] [3,6,9,12,15] (fun k wx=>∃a' X c',Hid (X=l++(List.take k [int8 x.id.1,int8 x.src.1,int8 x.dst.1,int8 x.cap.1,int8 x.size.1]).flatten)∧Wr base wx b a' X c' 0∧Save (Off b a) w1 wx∧iI w1.heap.size a a') AB AB AB ⟨rfl,rfl,trivial⟩ (fun w' hb hh=>⟨a,l,c,by simp[Hid],hW1.stay hb,Save.of hb,iI.refl _ _⟩) ?_ ?_
 ·repeat' (first |exact aU |refine aI ?_ ?_)
  all_goals intro a hk
  ·exact⟨ah rfl, .inr ⟨by decide,fun k wx hk9 hst=>bg (.tmp 1) rfl (hk.o 1) (v:= .pointer (some ⟨b,0,none⟩)) (bM (fun w=>AB) (G0 wx (St_save hst))) ⟨rfl,rfl⟩⟩⟩
  ·exact⟨ah rfl, .inr ⟨by decide,fun k wx hk9 hst=>bF (.tmp 2) rfl (hk.o 2) (v:= .pointer (some ⟨p,0,none⟩)) (fun w=>AB) ⟨rfl,rfl⟩⟩⟩
  ·exact⟨ah rfl, .inr ⟨by decide,fun k wx hk9 hst=>bg (.tmp 4) rfl (hk.s 4) (v:= .int .i64 x.id.1) (bM (fun w=>AB) (C0 wx (St_save hst))) ⟨rfl,rfl⟩⟩⟩
  ·refine⟨ah rfl, .inl ⟨0,rfl,fun wx hst=> ?_⟩⟩
   obtain⟨a',X,c',HX,hW,hS,hN⟩:=hst
   have hlen:X.length=l.length+0:=by rw[HX.o];simp[int8,aB,iK,bn]
   refine bJ rfl rfl #[.pointer (some ⟨b,0,none⟩), .int .i64 x.id.1] (fun w=>AB) (by simp only[List.map_toArray,List.map_cons,List.map_nil,(show a.eval (.tmp 3)=(.pointer (some ⟨b,0,none⟩)) from hk.s 3),(show a.eval (.tmp 5)=(.int .i64 x.id.1) from hk.s 5)]) ((dR hW (Nat.le_trans hbase hS.size) x.id.1 AL).mono ?_)
   rintro e w' ⟨a2,X2,c2,H2,rfl,hW2,hS2,hN2⟩
   exact⟨_,rfl,⟨a2,X2,c2,by rw[Hid,H2.o,HX.o];simp[int8],hW2,Save.off hS hN hS2,hN.trans hN2 hS.size⟩,rfl⟩
  ·exact⟨ah rfl, .inr ⟨by decide,fun k wx hk9 hst=>bF (.tmp 2) rfl (hk.o 2) (v:= .pointer (some ⟨p,1,none⟩)) (fun w=>AB) ⟨rfl,rfl⟩⟩⟩
  ·exact⟨ah rfl, .inr ⟨by decide,fun k wx hk9 hst=>bg (.tmp 7) rfl (hk.s 7) (v:= .int .i64 x.src.1) (bM (fun w=>AB) (C1 wx (St_save hst))) ⟨rfl,rfl⟩⟩⟩
  ·refine⟨ah rfl, .inl ⟨1,rfl,fun wx hst=> ?_⟩⟩
   obtain⟨a',X,c',HX,hW,hS,hN⟩:=hst
   have hlen:X.length=l.length+0+8:=by rw[HX.o];simp[int8,aB,iK,bn]
   refine bJ rfl rfl #[.pointer (some ⟨b,0,none⟩), .int .i64 x.src.1] (fun w=>AB) (by simp only[List.map_toArray,List.map_cons,List.map_nil,(show a.eval (.tmp 6)=(.pointer (some ⟨b,0,none⟩)) from hk.s 6),(show a.eval (.tmp 8)=(.int .i64 x.src.1) from hk.s 8)]) ((dR hW (Nat.le_trans hbase hS.size) x.src.1 AL).mono ?_)
   rintro e w' ⟨a2,X2,c2,H2,rfl,hW2,hS2,hN2⟩
   exact⟨_,rfl,⟨a2,X2,c2,by rw[Hid,H2.o,HX.o];simp[int8],hW2,Save.off hS hN hS2,hN.trans hN2 hS.size⟩,rfl⟩
  ·exact⟨ah rfl, .inr ⟨by decide,fun k wx hk9 hst=>bF (.tmp 2) rfl (hk.o 2) (v:= .pointer (some ⟨p,2,none⟩)) (fun w=>AB) ⟨rfl,rfl⟩⟩⟩
  ·exact⟨ah rfl, .inr ⟨by decide,fun k wx hk9 hst=>bg (.tmp 10) rfl (hk.s 10) (v:= .int .i64 x.dst.1) (bM (fun w=>AB) (C2 wx (St_save hst))) ⟨rfl,rfl⟩⟩⟩
  ·refine⟨ah rfl, .inl ⟨2,rfl,fun wx hst=> ?_⟩⟩
   obtain⟨a',X,c',HX,hW,hS,hN⟩:=hst
   have hlen:X.length=l.length+0+8+8:=by rw[HX.o];simp[int8,aB,iK,bn]
   refine bJ rfl rfl #[.pointer (some ⟨b,0,none⟩), .int .i64 x.dst.1] (fun w=>AB) (by simp only[List.map_toArray,List.map_cons,List.map_nil,(show a.eval (.tmp 9)=(.pointer (some ⟨b,0,none⟩)) from hk.s 9),(show a.eval (.tmp 11)=(.int .i64 x.dst.1) from hk.s 11)]) ((dR hW (Nat.le_trans hbase hS.size) x.dst.1 AL).mono ?_)
   rintro e w' ⟨a2,X2,c2,H2,rfl,hW2,hS2,hN2⟩
   exact⟨_,rfl,⟨a2,X2,c2,by rw[Hid,H2.o,HX.o];simp[int8],hW2,Save.off hS hN hS2,hN.trans hN2 hS.size⟩,rfl⟩
  ·exact⟨ah rfl, .inr ⟨by decide,fun k wx hk9 hst=>bF (.tmp 2) rfl (hk.o 2) (v:= .pointer (some ⟨p,3,none⟩)) (fun w=>AB) ⟨rfl,rfl⟩⟩⟩
  ·exact⟨ah rfl, .inr ⟨by decide,fun k wx hk9 hst=>bg (.tmp 13) rfl (hk.s 13) (v:= .int .i64 x.cap.1) (bM (fun w=>AB) (C3 wx (St_save hst))) ⟨rfl,rfl⟩⟩⟩
  ·refine⟨ah rfl, .inl ⟨3,rfl,fun wx hst=> ?_⟩⟩
   obtain⟨a',X,c',HX,hW,hS,hN⟩:=hst
   have hlen:X.length=l.length+0+8+8+8:=by rw[HX.o];simp[int8,aB,iK,bn]
   refine bJ rfl rfl #[.pointer (some ⟨b,0,none⟩), .int .i64 x.cap.1] (fun w=>AB) (by simp only[List.map_toArray,List.map_cons,List.map_nil,(show a.eval (.tmp 12)=(.pointer (some ⟨b,0,none⟩)) from hk.s 12),(show a.eval (.tmp 14)=(.int .i64 x.cap.1) from hk.s 14)]) ((dR hW (Nat.le_trans hbase hS.size) x.cap.1 AL).mono ?_)
   rintro e w' ⟨a2,X2,c2,H2,rfl,hW2,hS2,hN2⟩
   exact⟨_,rfl,⟨a2,X2,c2,by rw[Hid,H2.o,HX.o];simp[int8],hW2,Save.off hS hN hS2,hN.trans hN2 hS.size⟩,rfl⟩
  ·exact⟨ah rfl, .inr ⟨by decide,fun k wx hk9 hst=>bF (.tmp 2) rfl (hk.o 2) (v:= .pointer (some ⟨p,4,none⟩)) (fun w=>AB) ⟨rfl,rfl⟩⟩⟩
  ·exact⟨ah rfl, .inr ⟨by decide,fun k wx hk9 hst=>bg (.tmp 16) rfl (hk.s 16) (v:= .int .i64 x.size.1) (bM (fun w=>AB) (C4 wx (St_save hst))) ⟨rfl,rfl⟩⟩⟩
  ·refine⟨ah rfl, .inl ⟨4,rfl,fun wx hst=> ?_⟩⟩
   obtain⟨a',X,c',HX,hW,hS,hN⟩:=hst
   have hlen:X.length=l.length+0+8+8+8+8:=by rw[HX.o];simp[int8,aB,iK,bn]
   refine bJ rfl rfl #[.pointer (some ⟨b,0,none⟩), .int .i64 x.size.1] (fun w=>AB) (by simp only[List.map_toArray,List.map_cons,List.map_nil,(show a.eval (.tmp 15)=(.pointer (some ⟨b,0,none⟩)) from hk.s 15),(show a.eval (.tmp 17)=(.int .i64 x.size.1) from hk.s 17)]) ((dR hW (Nat.le_trans hbase hS.size) x.size.1 AL).mono ?_)
   rintro e w' ⟨a2,X2,c2,H2,rfl,hW2,hS2,hN2⟩
   exact⟨_,rfl,⟨a2,X2,c2,by rw[Hid,H2.o,HX.o];simp[int8],hW2,Save.off hS hN hS2,hN.trans hN2 hS.size⟩,rfl⟩
 intro a9 wz hst hsame hall
 obtain⟨a',X,c',HX,hW,hS,hN⟩:=hst
 have he:=dn hsame [3,4,5,6,7,8,9,10,11,12,13,14,15,16,17,18] AB
 simp only[List.foldl_cons,List.foldl_nil] at he
 generalize a9.eval (.tmp 3)=y3 at he
 generalize a9.eval (.tmp 4)=y4 at he
 generalize a9.eval (.tmp 5)=y5 at he
 generalize a9.eval (.tmp 6)=y6 at he
 generalize a9.eval (.tmp 7)=y7 at he
 generalize a9.eval (.tmp 8)=y8 at he
 generalize a9.eval (.tmp 9)=y9 at he
 generalize a9.eval (.tmp 10)=y10 at he
 generalize a9.eval (.tmp 11)=y11 at he
 generalize a9.eval (.tmp 12)=y12 at he
 generalize a9.eval (.tmp 13)=y13 at he
 generalize a9.eval (.tmp 14)=y14 at he
 generalize a9.eval (.tmp 15)=y15 at he
 generalize a9.eval (.tmp 16)=y16 at he
 generalize a9.eval (.tmp 17)=y17 at he
 generalize a9.eval (.tmp 18)=y18 at he
 simp only[fV] at he
 dsimp only[List.set_cons_zero,List.set_cons_succ] at he
 subst he
 clear hsame hall
 have HZ:Hid (∃a' X c',Hid (X=l++xU x)∧Wr base wz b a' X c' 0∧Save (Off b a) w wz∧iI w.heap.size a a'):=⟨a',X,c',by rw[Hid,HX.o];simp[xU],hW,(Save.of hb1).trans hS,fun g hg=>(hN g hg).imp id (fun h=>Nat.le_trans hb1.size h)⟩
 go_wp2_with fail
 go_end0
 exact⟨rfl,HZ.o⟩
theorem GL {base w b a l c} (h:Wr base w b a l c 0) (hbase:base≤w.heap.size) (g:Nat) (hg:w.heap[g]? =some (.cells #[.pointer (some ⟨b,0,none⟩)] 94 (0,0))) {w0:World} (hOld:Below w0.heap.size w0 w) (hB0:w0.heap.size≤base) {a1:Option Addr} {L:List Ch} {c1:Nat} (hv:Vec BO 5 w0 a1 L c1) (hroom:l.length+8+(L.flatMap xU).length≤65536):
 Calls Tryz.prog 188 #[.pointer (some ⟨b,0,none⟩), .slice a1 L.length c1, .func (.func 189) #[] #[.pointer (some ⟨g,0,none⟩)]] w fun e w'=>e= .returned (.tuple #[])∧∃a' X c',Hid (X=l++(int8 L.length++L.flatMap xU))∧Wr base w' b a' X c' 0∧Save (Off b a) w w'∧iI w.heap.size a a':=by
 have hBel:∀k,k<w0.heap.size→Off b a k:=fun k hk=>⟨by have:=h.ge;omega,fun e=>by have:=(h.own.aK e.symm).1;omega⟩
 have hgo:Off b a g:=⟨by rintro rfl;have:=h.blk;rw[hg] at this;simp at this,fun e=>own_ne h.own hg AP e.symm⟩
 have hglt:g<w.heap.size:=(Array.getElem?_eq_some_iff.1 hg).1
 have hln:=hv.bK
 have HH:=AQ (And.intro h (And.intro hg hOld))
 have hK:=dR h hbase (L.length:Int) AL
 have HK:=AQ hK
 have HV:=AQ hv
 clear h hg hK
 go_enter Tryz.func188,Tryz.ntmps188
 go_wp2_with fail
 refine(HK.o).mono ?_
 rintro e w1 ⟨a2,X2,c2,H2,rfl,hW2,hS2,hN2⟩
 have HW2:=AQ (And.intro hW2 (And.intro hS2 hN2))
 have H2:Hid (X2=l++int8 L.length):=H2
 clear hW2 hS2 hN2 HK
 go_wp2_with fail
 go_loopw [14] (fun i wr=>∃(k:Nat) (a':Option Addr) (X:List UInt8) (c':Nat),i= .int .i64 (k:Int)∧k≤L.length∧Hid (X=l++(int8 L.length++(L.take k).flatMap xU))∧Wr base wr b a' X c' 0∧Save (Off b a) w wr∧iI w.heap.size a a') (fun i _=>L.length-(intOf i).toNat)
 case atStart=>exact⟨0,a2,X2,c2,rfl,Nat.zero_le _,by rw[Hid,H2.o];simp,HW2.o.1,HW2.o.2.1,HW2.o.2.2⟩
 case round=>
  obtain⟨k,a3,X3,c3,rfl,hk,H3,hW3,hS3,hN3⟩:=hrel
  have HW3:=AQ (And.intro hW3 (And.intro hS3 hN3))
  by_cases hlt:k<L.length
  ·have hB3:Below w0.heap.size w0 wr:=HH.o.2.2.trans (hS3.below HH.o.2.2.size hBel)
   have i0:=HV.o.index Kv k hlt
   obtain⟨u0,u1,u2,u3,u4⟩:=eu HV.o hB3 k hlt
   have HS:=AQ (kN xU L k hlt)
   have hfl:=qc xU L (k+1)
   rw[HS.o] at hfl
   simp only[List.length_append] at hfl
   have hl3:X3.length=l.length+8+((L.take k).flatMap xU).length:=by rw[H3.o];simp[int8,aB];omega
   obtain⟨x,hx⟩:∃x,Hid (x=L[k]):=⟨L[k],rfl⟩
   rw[←hx.o] at u0 u1 u2 u3 u4 HS hfl
   obtain⟨wb,hwb⟩:=AV (wr.alloc (.cells #[.int .i64 x.id.1, .int .i64 x.src.1, .int .i64 x.dst.1, .int .i64 x.cap.1, .int .i64 x.size.1] 48))
   have hbb:Below wr.heap.size wr wb:=by rw[hwb];exact(Below.refl _ _).alloc (Nat.le_refl _) _
   have hgb:wb.heap[g]? =some (.cells #[.pointer (some ⟨b,0,none⟩)] 94 (0,0)):=aG ((hS3.block g hglt hgo).trans HH.o.2.1) hbb
   have hbs:base≤wb.heap.size:=Nat.le_trans hbase (Nat.le_trans hS3.size hbb.size)
   have hbl:(xU x).length=8+8+8+8+8:=by simp[xU,int8,aB,iK,bn]<;>omega
   have HKC:=AQ (MR (hW3.stay hbb) hbs g hgb x AL)
   have HBB:=AQ hbb
   clear hW3 hS3 hN3 hB3 hbb hgb hbs hfl
   go_wp2_with fail
   rw[←hwb]
   clear hwb
   refine(HKC.o).mono ?_
   rintro e w5 ⟨rfl,a5,X5,c5,H5,hW5,hS5,hN5⟩
   have HW5:=AQ (And.intro hW5 (And.intro (Save.off HW3.o.2.1 HW3.o.2.2 ((Save.of HBB.o).trans hS5)) (HW3.o.2.2.trans (fun g hg=>(hN5 g hg).imp id (fun h=>Nat.le_trans HBB.o.size h)) HW3.o.2.1.size)))
   have HN5:Hid (X5=l++(int8 L.length++(L.take (k+1)).flatMap xU)):=by rw[Hid,H5.o,H3.o,HS.o];simp
   clear hW5 hS5 hN5 HKC u0 u1 u2 u3 u4 i0
   go_wp2_with fail
   go_roundw
   case rel=>exact⟨k+1,a5,X5,c5,by go_num,by omega,HN5.o,HW5.o.1,HW5.o.2.1,HW5.o.2.2⟩
   case measure=>simp[intOf];omega
  ·have hk2:k=L.length:=by omega
   have HN:Hid (X3=l++(int8 L.length++L.flatMap xU)):=by rw[Hid,H3.o,hk2,List.take_length]
   clear hW3 hS3 hN3 hk2
   go_wp2_with fail
   go_end0
   exact⟨rfl,a3,X3,c3,HN.o,HW3.o.1,HW3.o.2.1,HW3.o.2.2⟩
open Go Go.RowKit Go.Cit
def rE (V:aO):List UInt8:=((int8 V.ws.length++V.ws.flatMap iO)++(int8 V.ps.length++V.ps.flatMap je))++(int8 V.cs.length++V.cs.flatMap xU)
def jC (V:aO):List UInt8:=if nJ V then rE V else []
def Ea (V:aO):Int:=if nJ V then 0 else 2
theorem eX (n:Int):(int8 n).length=8:=aB _ _
theorem uS:∀(l:List qm),(l.flatMap iO).length=16*l.length
 | []=>rfl
 | x::r=>by rw[List.flatMap_cons,List.length_append,uS r,List.length_cons];simp[iO,eX];omega
theorem yK:∀(l:List Ch),(l.flatMap xU).length=40*l.length
 | []=>rfl
 | x::r=>by rw[List.flatMap_cons,List.length_append,yK r,List.length_cons];simp[xU,eX];omega
theorem yQ:∀(l:List dL),l.any jZ=false→(l.flatMap je).length≤541*l.length
 | [],_=>by simp
 |
  x::r,h=>by
  rw[List.any_cons,Bool.or_eq_false_iff] at h
  have h1:=h.1
  unfold jZ at h1
  have h1:=of_decide_eq_false h1
  rw[List.flatMap_cons,List.length_append,List.length_cons]
  have:=yQ r h.2
  have h2:(je x).length=29+x.img.length:=by simp[je,eX,iK,bn];omega
  omega
theorem rC {V:aO} (h:nJ V=true):V.ws.length≤12∧V.ps.length≤6∧V.cs.length≤8∧V.ps.any jZ=false:=by
 unfold nJ at h
 simp only[Bool.and_eq_true,decide_eq_true_eq,Bool.not_eq_true'] at h
 exact⟨h.1.1.1,h.1.1.2,h.1.2,h.2⟩
theorem Wr.old {base N:Nat} {w b a l c e} (h:Wr base w b a l c e) (hN:N≤base):∀k,k<N→Off b a k:=fun k hk=>⟨by have:=h.ge;omega,fun e=>by have:=(h.own.aK e.symm).1;omega⟩
theorem Ig (w:World) (V:aO) (h:V.At w) (hs:cu V):Calls Tryz.prog 107 #[.agg #[.slice V.wa V.ws.length V.wc, .slice V.pa V.ps.length V.pc, .slice V.ca V.cs.length V.cc]] w fun e w'=>∃a' c',e= .returned (.tuple #[.slice a' (jC V).length c', .int .i64 (Ea V)])∧Mine w.heap.size w' a' (jC V) c'∧Below w.heap.size w w':=by
 obtain⟨w0,hw0⟩:=AV (w.alloc (.cells #[.slice V.wa V.ws.length V.wc, .slice V.pa V.ps.length V.pc, .slice V.ca V.cs.length V.cc] 26))
 have B0:Below w.heap.size w w0:=by rw[hw0];exact(Below.refl _ w).alloc (Nat.le_refl _) _
 have hI:gU w0 w.heap.size V:=by rw[hw0];exact dK w V _
 have HV:=AQ (h.stay B0)
 have HI:=AQ hI
 have HB0:=AQ B0
 obtain⟨g,hg⟩:=AU (nJ V)
 have hc:=xA w0 V (h.stay B0)
 rw[←hg.o] at hc
 have HC:=AQ hc
 clear h B0 hI hc
 obtain⟨c0,c1,c2⟩:=HI.o
 obtain⟨PB,hPB⟩:=AU (jC V)
 obtain⟨PE,hPE⟩:=AU (Ea V)
 rw[←hPB.o,←hPE.o]
 go_enter Tryz.func107,Tryz.ntmps107
 go_wp2_with fail
 rw[←hw0]
 clear hw0
 refine(HC.o).mono ?_
 rintro e w1 ⟨rfl,hb1⟩
 have HB1:=AQ hb1
 clear hb1 c0 c1 c2 HC
 cases g with
 |
  false=>
  have e1:Hid (PB=[]):=by rw[Hid,hPB.o];unfold jC;rw[←hg.o];rfl
  have e2:Hid (PE=2):=by rw[Hid,hPE.o];unfold Ea;rw[←hg.o];rfl
  go_wp2_with fail
  go_ret2
  exact⟨none,0,by rw[e1.o,e2.o];rfl,by rw[e1.o];exact Mine.nil _ _,HB0.o.trans (HB1.o.mono HB0.o.size)⟩
 |
  true=>
  have e1:Hid (PB=rE V):=by rw[Hid,hPB.o];unfold jC;rw[←hg.o];rfl
  have e2:Hid (PE=0):=by rw[Hid,hPE.o];unfold Ea;rw[←hg.o];rfl
  have hcan:=rC hg.o.symm
  have hlw:=uS V.ws
  have hlc:=yK V.cs
  have hlp:=yQ V.ps hcan.2.2.2
  have HL:Hid ((V.ws.flatMap iO).length≤192∧(V.ps.flatMap je).length≤3246∧(V.cs.flatMap xU).length≤320):=⟨by omega,by omega,by omega⟩
  clear hcan hlw hlc hlp
  have HN:=AQ (qx w1)
  go_wp2_with fail
  refine(HN.o).mono ?_
  rintro e w2 ⟨rfl,hW,hb2⟩
  obtain⟨b,hb⟩:=AV (w1.heap.size)
  rw[←hb] at hW
  have hb02:=HB1.o.trans (hb2.mono HB1.o.size)
  have hNb:w0.heap.size≤b:=by rw[hb];exact HB1.o.size
  have hb12:b≤w2.heap.size:=by rw[hb];exact hb2.size
  obtain⟨w3,hw3⟩:=AV (w2.alloc (.cells #[.pointer (some ⟨b,0,none⟩)] 94))
  obtain⟨g,hgg⟩:=AV (w2.heap.size)
  have hb3:Below w2.heap.size w2 w3:=by rw[hw3];exact(Below.refl _ _).alloc (Nat.le_refl _) _
  have hgx:w3.heap[g]? =some (.cells #[.pointer (some ⟨b,0,none⟩)] 94 (0,0)):=by rw[hw3,hgg];exact heap_alloc_new _ _
  have hW3:=hW.stay hb3
  have hb03:=hb02.trans (hb3.mono hb02.size)
  have HW3:=AQ (And.intro hW3 (And.intro hgx hb03))
  have HNB:=AQ (And.intro hNb (Nat.le_trans hb12 hb3.size))
  have hk:=Ib hW3 (Nat.le_trans hb12 hb3.size) g hgx hb03 hNb HV.o.win (by have:=HL.o.1;show 0+8+_≤_;omega)
  have HK:=AQ hk
  have hp:w3.cell? ⟨g,0,none⟩=some (.pointer (some ⟨b,0,none⟩)):=au hgx 0 rfl
  obtain⟨c0,c1,c2⟩:=HI.o.keep hb03
  have HGO:Hid (g<w3.heap.size):=(Array.getElem?_eq_some_iff.1 hgx).1
  clear hW hb2 hb02 hNb hb12 hb3 hgx hW3 hb03 hk HN
  go_upto_region 4 with fail
  rw[←hb,←hw3,←hgg]
  have HZ3:Hid (w1.heap.size≤w3.heap.size):=by rw[←hb];exact HNB.o.2
  have HB9:Hid (b≤w1.heap.size):=by rw[hb];exact Nat.le_refl _
  clear hb hw3 hgg
  go_wp2_with fail
  refine(HK.o).mono ?_
  rintro e w4 ⟨rfl,a4,X4,k4,H4,hW,hS,hN⟩
  have hBel:=HW3.o.1.old HNB.o.1
  have hb4:Below w0.heap.size w0 w4:=HW3.o.2.2.trans (hS.below HW3.o.2.2.size hBel)
  have hgo:Off b none g:=⟨by rintro rfl;have:=HW3.o.1.blk;rw[HW3.o.2.1] at this;simp at this,fun e=>own_ne HW3.o.1.own HW3.o.2.1 AP e.symm⟩
  have hg4:w4.heap[g]? =some (.cells #[.pointer (some ⟨b,0,none⟩)] 94 (0,0)):=(hS.block g (Array.getElem?_eq_some_iff.1 HW3.o.2.1).1 hgo).trans HW3.o.2.1
  have HW4:=AQ (And.intro hW (And.intro hg4 hb4))
  have HZ4:Hid (w1.heap.size≤w4.heap.size):=Nat.le_trans HZ3.o hS.size
  have hk:=F6 hW (Nat.le_trans HB9.o HZ4.o) g hg4 hb4 HNB.o.1 HV.o.pts HV.o.img (by have:=HL.o.2.1;rw[H4.o];simp only[List.length_append,List.length_nil,eX];have:=HL.o.1;omega)
  have HK:=AQ hk
  have hp:w4.cell? ⟨g,0,none⟩=some (.pointer (some ⟨b,0,none⟩)):=au hg4 0 rfl
  obtain⟨c0,c1,c2⟩:=HI.o.keep hb4
  clear hW hS hN hBel hb4 hgo hg4 hk HW3
  go_wp2_with fail
  refine(HK.o).mono ?_
  rintro e w5 ⟨rfl,a5,X5,k5,H5,hW,hS,hN⟩
  have hBel:=HW4.o.1.old HNB.o.1
  have hb5:Below w0.heap.size w0 w5:=HW4.o.2.2.trans (hS.below HW4.o.2.2.size hBel)
  have hgo:Off b a4 g:=⟨by rintro rfl;have:=HW4.o.1.blk;rw[HW4.o.2.1] at this;simp at this,fun e=>own_ne HW4.o.1.own HW4.o.2.1 AP e.symm⟩
  have hg5:w5.heap[g]? =some (.cells #[.pointer (some ⟨b,0,none⟩)] 94 (0,0)):=(hS.block g (Array.getElem?_eq_some_iff.1 HW4.o.2.1).1 hgo).trans HW4.o.2.1
  have HW5:=AQ (And.intro hW (And.intro hg5 hb5))
  have HZ5:Hid (w1.heap.size≤w5.heap.size):=Nat.le_trans HZ4.o hS.size
  have hk:=GL hW (Nat.le_trans HB9.o HZ5.o) g hg5 hb5 HNB.o.1 HV.o.kL (by have:=HL.o.2.2;rw[H5.o,H4.o];simp only[List.length_append,List.length_nil,eX];have:=HL.o.1;have:=HL.o.2.1;omega)
  have HK:=AQ hk
  have hp:w5.cell? ⟨g,0,none⟩=some (.pointer (some ⟨b,0,none⟩)):=au hg5 0 rfl
  obtain⟨c0,c1,c2⟩:=HI.o.keep hb5
  clear hW hS hN hBel hb5 hgo hg5 hk HW4
  go_wp2_with fail
  refine(HK.o).mono ?_
  rintro e w6 ⟨rfl,a6,X6,k6,H6,hW,hS,hN⟩
  have hBel:=HW5.o.1.old HNB.o.1
  have hb6:Below w0.heap.size w0 w6:=HW5.o.2.2.trans (hS.below HW5.o.2.2.size hBel)
  have hgo:Off b a5 g:=⟨by rintro rfl;have:=HW5.o.1.blk;rw[HW5.o.2.1] at this;simp at this,fun e=>own_ne HW5.o.1.own HW5.o.2.1 AP e.symm⟩
  have hg6:w6.heap[g]? =some (.cells #[.pointer (some ⟨b,0,none⟩)] 94 (0,0)):=(hS.block g (Array.getElem?_eq_some_iff.1 HW5.o.2.1).1 hgo).trans HW5.o.2.1
  have HW6:=AQ (And.intro hW (And.intro hg6 hb6))
  have HZ6:Hid (w1.heap.size≤w6.heap.size):=Nat.le_trans HZ5.o hS.size
  have HX:Hid (X6=PB):=by rw[Hid,e1.o,H6.o,H5.o,H4.o];simp[rE]
  have hp:w6.cell? ⟨g,0,none⟩=some (.pointer (some ⟨b,0,none⟩)):=au hg6 0 rfl
  have HD:=AQ (uf hW)
  have HB6:=AQ hb6
  clear hW hS hN hBel hb6 hgo hg6 HW5 c0 c1 c2
  go_wp2_with fail
  refine(HD.o).mono ?_
  rintro e w7 ⟨a7,X7,c7,H7,rfl,hM,hb7⟩
  have HM:=AQ hM
  have HB7:=AQ (HB6.o.trans (hb7.mono HB6.o.size))
  have HX7:Hid (X7=PB):=by rw[Hid,H7.o,HX.o]
  clear hM hb7
  go_wp2_with fail
  go_ret2
  exact⟨a7,c7,by rw[←HX7.o,e2.o];rfl,by rw[←HX7.o];exact HM.o.low (Nat.le_trans HB0.o.size (Nat.le_trans HB1.o.size HZ6.o)),HB0.o.trans (HB7.o.mono HB0.o.size)⟩
end Go.Proofs.YtlholdllibghbaaGreat
