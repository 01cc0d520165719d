/- Texts of the proof, one behind the other: CfgLem, Print. No condition but those that each names. -/
import Derived.Test.YtlholdllibghbaaGreatG12
import Derived.Test.YtlholdllibghbaaGreatG11
import Derived.Test.YtlholdllibghbaaGreatG15
import Derived.Test.YtlholdllibghbaaGreatG07
import Derived.Test.YtlholdllibghbaaGreatKit
set_option maxRecDepth 100000
set_option maxHeartbeats 8000000
namespace Go.Proofs.YtlholdllibghbaaGreat
open Go Go.RowKit Go.Cit
theorem aG {w w':World} {k:Nat} {o:Obj} (h:w.heap[k]? =some o) (hb:Below w.heap.size w w'):w'.heap[k]? =some o:=(hb.block k (Array.getElem?_eq_some_iff.1 h).1).trans h
@[reducible] def Vb (V:aN):Obj:= .cells #[.slice V.wa V.ws.length V.wc, .slice V.pa V.ps.length V.pc, .slice V.ca V.cs.length V.cc] 26 (0,0)
theorem NG {w:World} {b:Nat} {V:aN} (h:w.heap[b]? =some (Vb V)):gJ w b V:=⟨by rw[World.cell?,h];rfl,by rw[World.cell?,h];rfl,by rw[World.cell?,h];rfl⟩
theorem dP {w:World} {b i:Nat} {cs:Array Value} {E:TypeId} {fr:Nat×Nat} (v:Value) (h:w.heap[b]? =some (.cells cs E fr)):(w.setCell ⟨b,i,none⟩ v).heap[b]? =some (.cells (cs.setIfInBounds i v) E fr):=by
 simp[World.setCell,Array.getElem?_modify,h]
theorem qQ {α:Type} {f:α→List Value} {n E B:Nat} {w:World} {g:Nat} {l:List α} (hf:∀x,(f x).length=n) (hb:B≤g) (hl:l.length≤1000000000) {cs:Array Value} (h:w.heap[g]? =some (.cells cs E (0,0))) (hc:cs=(l.flatMap f).toArray):bG f n E B w (some ⟨g,0,none⟩) l l.length:=by
 subst hc
 exact⟨⟨jl hf l, .inr ⟨g,l.length,_,rfl,hb,h,Nat.le_refl _,by unfold maxLen;omega,by rw[List.size_toArray,jl hf],by rw[List.toList_toArray];exact List.take_of_length_le (by rw[jl hf];exact Nat.le_refl _)⟩⟩⟩
theorem Dl {V:aN} (h1:V.ws.length≤100) (h2:V.ps.length≤100) (h3:V.cs.length≤100) (h4:V.ps.all (fun x=>decide (x.img.length≤10000))=true):bP V:=
 ⟨h1,h2,h3,fun x hx=>by simpa using List.all_eq_true.1 h4 x hx⟩
theorem Qb {α β:Type} (f:α→β) (l:List α) (k:Nat) (x:α) (hk:k<l.length) (h:f x=f l[k]):(l.set k x).map f=l.map f:=by
 rw[List.map_set,h]
 apply List.ext_getElem?
 intro i
 rw[List.getElem?_set]
 by_cases hi:k=i
 ·subst hi;simp[hk]
 ·simp[hi]
theorem NK {α:Type} {f:α→List Value} {n E B:Nat} {w:World} {a:Option Addr} {l:List α} {c:Nat} (h:bG f n E B w a l c) (hl:l≠ []):∃g,a=some ⟨g,0,none⟩∧B≤g∧g<w.heap.size:=by
 rcases h.row.2 with⟨hv,h0⟩ |⟨g,c',cur,hv,hB,hg,_⟩
 ·exact absurd (List.eq_nil_of_length_eq_zero h0) hl
 ·injection hv with h1
  exact⟨g,h1,hB,(Array.getElem?_eq_some_iff.1 hg).1⟩
theorem LZ {U V:aN} (h:U.cfg=V.cfg) (hs:bP V):bP U:=by
 simp only[aN.cfg,zk.mk.injEq] at h
 obtain⟨h1,h2,h3⟩:=h
 have hl:U.ps.length=V.ps.length:=by have:=congrArg List.length h2;simpa using this
 refine⟨by rw[h1];exact hs.win,by rw[hl];exact hs.pts,by rw[h3];exact hs.mW,fun x hx=> ?_⟩
 have hm:x.pt∈V.ps.map cO.pt:=by rw[←h2];exact List.mem_map_of_mem hx
 obtain⟨y,hy,he⟩:=List.mem_map.1 hm
 have:y.img=x.img:=congrArg Pt.img he
 rw[←this]
 exact hs.img y hy
theorem Qg (w:World) (V W:aN):gJ ((w.alloc (.cells #[.slice V.wa V.ws.length V.wc, .slice V.pa V.ps.length V.pc, .slice V.ca V.cs.length V.cc] 26)).alloc (.cells #[.slice W.wa W.ws.length W.wc, .slice W.pa W.ps.length W.pc, .slice W.ca W.cs.length W.cc] 26)) w.heap.size V∧gJ ((w.alloc (.cells #[.slice V.wa V.ws.length V.wc, .slice V.pa V.ps.length V.pc, .slice V.ca V.cs.length V.cc] 26)).alloc (.cells #[.slice W.wa W.ws.length W.wc, .slice W.pa W.ps.length W.pc, .slice W.ca W.cs.length W.cc] 26)) (w.heap.size+1) W:=by
 refine⟨(dn w V _).keep ((Below.refl _ _).alloc (Nat.le_refl _) _), ?_⟩
 have:=dn (w.alloc (.cells #[.slice V.wa V.ws.length V.wc, .slice V.pa V.ps.length V.pc, .slice V.ca V.cs.length V.cc] 26)) W 26
 simpa using this
def i3:I64:=⟨3,by decide⟩
@[reducible] def cU (U:aN):Array Value:= #[.slice U.wa U.ws.length U.wc, .slice U.pa U.ps.length U.pc, .slice U.ca U.cs.length U.cc]
theorem Jq {w0 w:World} {a:Option Addr} {l:List Ch} {c:Nat} (h:Vec yG 5 w0 a l c) (hb:Below w0.heap.size w0 w) (k:Nat) (hk:k<l.length):(Instr.loadAt 48 (.pointer (some (ad a (k*5))))).run Tryz.prog w= .ok (.agg (RH l[k])) w:=by
 obtain⟨u0,u1,u2,u3,u4⟩:=dN h hb k hk
 have e:ad a (k*5)=⟨(ad a (k*5)).block,(ad a (k*5)).off,none⟩:=by cases a<;>rfl
 rw[e] at u0
 rw[e]
 refine run_loadAt_mid w _ _ 48 [.int .i64 l[k].id.1, .int .i64 l[k].src.1, .int .i64 l[k].dst.1, .int .i64 l[k].cap.1, .int .i64 l[k].size.1] _ (fun j v hv=> ?_) Tryz.underlying48 rfl AB
 match j,hv with
 | 0,hv=>injection hv with hv;rw[←hv];exact u0
 | 1,hv=>injection hv with hv;rw[←hv];exact u1
 | 2,hv=>injection hv with hv;rw[←hv];exact u2
 | 3,hv=>injection hv with hv;rw[←hv];exact u3
 | 4,hv=>injection hv with hv;rw[←hv];exact u4
theorem SE {w:World} {b:Nat} {V:aN} (h:w.heap[b]? =some (.cells (cU V) 26 (0,0))):gJ w b V:=NG h
def vZ:aN:=⟨none,[],0,none,[],0,none,[],0⟩
open Go Go.RowKit Go.Cit
def int8 (n:Int):List UInt8:=rowB (iD n) 8
theorem kK {α β:Type} (f:α→List β) (L:List α) (k:Nat) (h:k<L.length):(L.take (k+1)).flatMap f=(L.take k).flatMap f++f L[k]:=by
 rw[List.take_succ_eq_append_getElem h,List.flatMap_append];simp
theorem oZ {α β:Type} (f:α→List β) (L:List α) (k:Nat):((L.take k).flatMap f).length≤(L.flatMap f).length:=by
 conv=>rhs;rw[←List.take_append_drop k L,List.flatMap_append,List.length_append]
 omega
def Vg (x:nU) (b _ p:Nat):Nat→Value
 | 3=>(.pointer (some ⟨b,0,none⟩))
 | 4=>(.pointer (some ⟨p,0,none⟩))
 | 5=>(.int .i64 x.len.1)
 | 6=>(.pointer (some ⟨b,0,none⟩))
 | 7=>(.pointer (some ⟨p,1,none⟩))
 | 8=>(.int .i64 x.part.1)
 | 9=>(.pointer (some ⟨b,0,none⟩))
 | _=>undef
def UC (_:nU) (_ g p:Nat):Nat→Value
 | 1=>(.pointer (some ⟨g,0,none⟩))
 | 2=>(.pointer (some ⟨p,0,none⟩))
 | _=>undef
def iO (x:nU):List UInt8:=(int8 x.len.1)++(int8 x.part.1)
theorem Kw {base w b a l c} (h:Wr base w b a l c 0) (hbase:base≤w.heap.size) (g:Nat) (hg:w.heap[g]? =some (.cells #[.pointer (some ⟨b,0,none⟩)] 94 (0,0))) (x:nU) (hroom:l.length+(8+8)≤65536):
 Calls Tryz.prog 185 (#[.agg #[.int .i64 x.len.1, .int .i64 x.part.1]]++ #[.pointer (some ⟨g,0,none⟩)]) w fun e w'=>e= .returned (.tuple #[])∧∃a' X c',Hid (X=l++iO x)∧Wr base w' b a' X c' 0∧Save (Off b a) w w'∧ig w.heap.size a a':=by
 show Calls Tryz.prog 185 #[.agg #[.int .i64 x.len.1, .int .i64 x.part.1], .pointer (some ⟨g,0,none⟩)] w _
 obtain⟨w1,hw1⟩:=AV (w.alloc (.cells #[.int .i64 x.len.1, .int .i64 x.part.1] 77))
 obtain⟨p,hp⟩:=AV (w.heap.size)
 have hb1:Below w.heap.size w w1:=by rw[hw1];exact(Below.refl _ w).alloc (Nat.le_refl _) _
 have hpx:w1.heap[p]? =some (.cells #[.int .i64 x.len.1, .int .i64 x.part.1] 77 (0,0)):=by rw[hw1,hp];exact heap_alloc_new _ _
 have hW1:=h.stay hb1
 have hg1:=aG hg hb1
 have hbase:base≤w1.heap.size:=Nat.le_trans hbase hb1.size
 have hplt:p<w1.heap.size:=(Array.getElem?_eq_some_iff.1 hpx).1
 have hglt:g<w1.heap.size:=(Array.getElem?_eq_some_iff.1 hg1).1
 have hpo:Off b a p:=⟨by have:=h.lt;omega,fun e=>by have:=(h.own.aJ e.symm).2;omega⟩
 have hgo:Off b a g:=⟨by rintro rfl;have:=h.blk;rw[hg] at this;simp at this,fun e=>own_ne h.own hg AP e.symm⟩
 have St_save:∀ {k wx},(∃a' X c',Hid (X=l++(List.take k [int8 x.len.1,int8 x.part.1]).flatten)∧Wr base wx b a' X c' 0∧Save (Off b a) w1 wx∧ig w1.heap.size a a')→Save (Off b a) w1 wx:=fun⟨_,_,_,_,_,h,_⟩=>h
 have G0:∀wx,Save (Off b a) w1 wx→wx.cell? ⟨g,0,none⟩=some (.pointer (some ⟨b,0,none⟩)):=fun wx hs=>(hs.cell (p:=⟨g,0,none⟩) hglt hgo).trans (aA hg1 0 rfl)
 have C0:∀wx,Save (Off b a) w1 wx→wx.cell? ⟨p,0,none⟩=some (.int .i64 x.len.1):=fun wx hs=>(hs.cell (p:=⟨p,0,none⟩) hplt hpo).trans (aA hpx 0 rfl)
 have C1:∀wx,Save (Off b a) w1 wx→wx.cell? ⟨p,1,none⟩=some (.int .i64 x.part.1):=fun wx hs=>(hs.cell (p:=⟨p,1,none⟩) hplt hpo).trans (aA hpx 1 rfl)
 go_enter Tryz.func185,Tryz.ntmps185
 go_upto_region 1 with fail
 rw[←hw1,←hp]
 refine lT (Vg x b g p) (UC x b g p) [1,2] [3,6] (fun k wx=>∃a' X c',Hid (X=l++(List.take k [int8 x.len.1,int8 x.part.1]).flatten)∧Wr base wx b a' X c' 0∧Save (Off b a) w1 wx∧ig w1.heap.size a a') AB AB AB ⟨rfl,rfl,trivial⟩ (fun w' hb hh=>⟨a,l,c,by simp[Hid],hW1.stay hb,Save.of hb,ig.refl _ _⟩) ?_ ?_
 ·repeat' (first |exact aO |refine aI ?_ ?_)
  all_goals intro a hk
  ·exact⟨ah rfl, .inr ⟨by decide,fun k wx hk9 hst=>aS (.tmp 1) rfl (hk.o 1) (v:= .pointer (some ⟨b,0,none⟩)) (bH (fun w=>AB) (G0 wx (St_save hst))) ⟨rfl,rfl⟩⟩⟩
  ·exact⟨ah rfl, .inr ⟨by decide,fun k wx hk9 hst=>bJ (.tmp 2) rfl (hk.o 2) (v:= .pointer (some ⟨p,0,none⟩)) (fun w=>AB) ⟨rfl,rfl⟩⟩⟩
  ·exact⟨ah rfl, .inr ⟨by decide,fun k wx hk9 hst=>aS (.tmp 4) rfl (hk.s 4) (v:= .int .i64 x.len.1) (bH (fun w=>AB) (C0 wx (St_save hst))) ⟨rfl,rfl⟩⟩⟩
  ·refine⟨ah rfl, .inl ⟨0,rfl,fun wx hst=> ?_⟩⟩
   obtain⟨a',X,c',HX,hW,hS,hN⟩:=hst
   have hlen:X.length=l.length+0:=by rw[HX.o];simp[int8,aB,iI,bD]
   refine aT rfl rfl #[.pointer (some ⟨b,0,none⟩), .int .i64 x.len.1] (fun w=>AB) (by simp only[List.map_toArray,List.map_cons,List.map_nil,(show a.eval (.tmp 3)=(.pointer (some ⟨b,0,none⟩)) from hk.s 3),(show a.eval (.tmp 5)=(.int .i64 x.len.1) from hk.s 5)]) ((dK hW (Nat.le_trans hbase hS.size) x.len.1 AL).mono ?_)
   rintro e w' ⟨a2,X2,c2,H2,rfl,hW2,hS2,hN2⟩
   exact⟨_,rfl,⟨a2,X2,c2,by rw[Hid,H2.o,HX.o];simp[int8],hW2,Save.off hS hN hS2,hN.trans hN2 hS.size⟩,rfl⟩
  ·exact⟨ah rfl, .inr ⟨by decide,fun k wx hk9 hst=>bJ (.tmp 2) rfl (hk.o 2) (v:= .pointer (some ⟨p,1,none⟩)) (fun w=>AB) ⟨rfl,rfl⟩⟩⟩
  ·exact⟨ah rfl, .inr ⟨by decide,fun k wx hk9 hst=>aS (.tmp 7) rfl (hk.s 7) (v:= .int .i64 x.part.1) (bH (fun w=>AB) (C1 wx (St_save hst))) ⟨rfl,rfl⟩⟩⟩
  ·refine⟨ah rfl, .inl ⟨1,rfl,fun wx hst=> ?_⟩⟩
   obtain⟨a',X,c',HX,hW,hS,hN⟩:=hst
   have hlen:X.length=l.length+0+8:=by rw[HX.o];simp[int8,aB,iI,bD]
   refine aT rfl rfl #[.pointer (some ⟨b,0,none⟩), .int .i64 x.part.1] (fun w=>AB) (by simp only[List.map_toArray,List.map_cons,List.map_nil,(show a.eval (.tmp 6)=(.pointer (some ⟨b,0,none⟩)) from hk.s 6),(show a.eval (.tmp 8)=(.int .i64 x.part.1) from hk.s 8)]) ((dK hW (Nat.le_trans hbase hS.size) x.part.1 AL).mono ?_)
   rintro e w' ⟨a2,X2,c2,H2,rfl,hW2,hS2,hN2⟩
   exact⟨_,rfl,⟨a2,X2,c2,by rw[Hid,H2.o,HX.o];simp[int8],hW2,Save.off hS hN hS2,hN.trans hN2 hS.size⟩,rfl⟩
 intro a9 wz hst hsame hall
 obtain⟨a',X,c',HX,hW,hS,hN⟩:=hst
 have he:=bK hsame [3,4,5,6,7,8,9] AB
 simp only[List.foldl_cons,List.foldl_nil] at he
 generalize a9.eval (.tmp 3)=y3 at he
 generalize a9.eval (.tmp 4)=y4 at he
 generalize a9.eval (.tmp 5)=y5 at he
 generalize a9.eval (.tmp 6)=y6 at he
 generalize a9.eval (.tmp 7)=y7 at he
 generalize a9.eval (.tmp 8)=y8 at he
 generalize a9.eval (.tmp 9)=y9 at he
 simp only[dQ] at he
 dsimp only[List.set_cons_zero,List.set_cons_succ] at he
 subst he
 clear hsame hall
 have HZ:Hid (∃a' X c',Hid (X=l++iO x)∧Wr base wz b a' X c' 0∧Save (Off b a) w wz∧ig w.heap.size a a'):=⟨a',X,c',by rw[Hid,HX.o];simp[iO],hW,(Save.of hb1).trans hS,fun g hg=>(hN g hg).imp id (fun h=>Nat.le_trans hb1.size h)⟩
 go_wp2_with fail
 go_end0
 exact⟨rfl,HZ.o⟩
theorem F5 {base w b a l c} (h:Wr base w b a l c 0) (hbase:base≤w.heap.size) (g:Nat) (hg:w.heap[g]? =some (.cells #[.pointer (some ⟨b,0,none⟩)] 94 (0,0))) {w0:World} (hOld:Below w0.heap.size w0 w) (hB0:w0.heap.size≤base) {a1:Option Addr} {L:List nU} {c1:Nat} (hv:Vec lQ 2 w0 a1 L c1) (hroom:l.length+8+(L.flatMap iO).length≤65536):
 Calls Tryz.prog 184 #[.pointer (some ⟨b,0,none⟩), .slice a1 L.length c1, .func (.func 185) #[] #[.pointer (some ⟨g,0,none⟩)]] w fun e w'=>e= .returned (.tuple #[])∧∃a' X c',Hid (X=l++(int8 L.length++L.flatMap iO))∧Wr base w' b a' X c' 0∧Save (Off b a) w w'∧ig w.heap.size a a':=by
 have hBel:∀k,k<w0.heap.size→Off b a k:=fun k hk=>⟨by have:=h.ge;omega,fun e=>by have:=(h.own.aJ e.symm).1;omega⟩
 have hgo:Off b a g:=⟨by rintro rfl;have:=h.blk;rw[hg] at this;simp at this,fun e=>own_ne h.own hg AP e.symm⟩
 have hglt:g<w.heap.size:=(Array.getElem?_eq_some_iff.1 hg).1
 have hln:=hv.bF
 have HH:=AQ (And.intro h (And.intro hg hOld))
 have hK:=dK h hbase (L.length:Int) AL
 have HK:=AQ hK
 have HV:=AQ hv
 clear h hg hK
 go_enter Tryz.func184,Tryz.ntmps184
 go_wp2_with fail
 refine(HK.o).mono ?_
 rintro e w1 ⟨a2,X2,c2,H2,rfl,hW2,hS2,hN2⟩
 have HW2:=AQ (And.intro hW2 (And.intro hS2 hN2))
 have H2:Hid (X2=l++int8 L.length):=H2
 clear hW2 hS2 hN2 HK
 go_wp2_with fail
 go_loopw [14] (fun i wr=>∃(k:Nat) (a':Option Addr) (X:List UInt8) (c':Nat),i= .int .i64 (k:Int)∧k≤L.length∧Hid (X=l++(int8 L.length++(L.take k).flatMap iO))∧Wr base wr b a' X c' 0∧Save (Off b a) w wr∧ig w.heap.size a a') (fun i _=>L.length-(intOf i).toNat)
 case atStart=>exact⟨0,a2,X2,c2,rfl,Nat.zero_le _,by rw[Hid,H2.o];simp,HW2.o.1,HW2.o.2.1,HW2.o.2.2⟩
 case round=>
  obtain⟨k,a3,X3,c3,rfl,hk,H3,hW3,hS3,hN3⟩:=hrel
  have HW3:=AQ (And.intro hW3 (And.intro hS3 hN3))
  by_cases hlt:k<L.length
  ·have hB3:Below w0.heap.size w0 wr:=HH.o.2.2.trans (hS3.below HH.o.2.2.size hBel)
   have i0:=HV.o.index JX k hlt
   obtain⟨u0,u1⟩:=jo HV.o hB3 k hlt
   have HS:=AQ (kK iO L k hlt)
   have hfl:=oZ iO L (k+1)
   rw[HS.o] at hfl
   simp only[List.length_append] at hfl
   have hl3:X3.length=l.length+8+((L.take k).flatMap iO).length:=by rw[H3.o];simp[int8,aB];omega
   obtain⟨x,hx⟩:∃x,Hid (x=L[k]):=⟨L[k],rfl⟩
   rw[←hx.o] at u0 u1 HS hfl
   obtain⟨wb,hwb⟩:=AV (wr.alloc (.cells #[.int .i64 x.len.1, .int .i64 x.part.1] 77))
   have hbb:Below wr.heap.size wr wb:=by rw[hwb];exact(Below.refl _ _).alloc (Nat.le_refl _) _
   have hgb:wb.heap[g]? =some (.cells #[.pointer (some ⟨b,0,none⟩)] 94 (0,0)):=aG ((hS3.block g hglt hgo).trans HH.o.2.1) hbb
   have hbs:base≤wb.heap.size:=Nat.le_trans hbase (Nat.le_trans hS3.size hbb.size)
   have hbl:(iO x).length=8+8:=by simp[iO,int8,aB,iI,bD]<;>omega
   have HKC:=AQ (Kw (hW3.stay hbb) hbs g hgb x AL)
   have HBB:=AQ hbb
   clear hW3 hS3 hN3 hB3 hbb hgb hbs hfl
   go_wp2_with fail
   rw[←hwb]
   clear hwb
   refine(HKC.o).mono ?_
   rintro e w5 ⟨rfl,a5,X5,c5,H5,hW5,hS5,hN5⟩
   have HW5:=AQ (And.intro hW5 (And.intro (Save.off HW3.o.2.1 HW3.o.2.2 ((Save.of HBB.o).trans hS5)) (HW3.o.2.2.trans (fun g hg=>(hN5 g hg).imp id (fun h=>Nat.le_trans HBB.o.size h)) HW3.o.2.1.size)))
   have HN5:Hid (X5=l++(int8 L.length++(L.take (k+1)).flatMap iO)):=by rw[Hid,H5.o,H3.o,HS.o];simp
   clear hW5 hS5 hN5 HKC u0 u1 i0
   go_wp2_with fail
   go_roundw
   case rel=>exact⟨k+1,a5,X5,c5,by go_num,by omega,HN5.o,HW5.o.1,HW5.o.2.1,HW5.o.2.2⟩
   case measure=>simp[intOf];omega
  ·have hk2:k=L.length:=by omega
   have HN:Hid (X3=l++(int8 L.length++L.flatMap iO)):=by rw[Hid,H3.o,hk2,List.take_length]
   clear hW3 hS3 hN3 hk2
   go_wp2_with fail
   go_end0
   exact⟨rfl,a3,X3,c3,HN.o,HW3.o.1,HW3.o.2.1,HW3.o.2.2⟩
def Vj (x:cO) (b _ p:Nat):Nat→Value
 | 3=>(.pointer (some ⟨b,0,none⟩))
 | 4=>(.pointer (some ⟨p,0,none⟩))
 | 5=>(.int .i64 x.id.1)
 | 6=>(.pointer (some ⟨b,0,none⟩))
 | 7=>(.pointer (some ⟨p,1,none⟩))
 | 8=>(.pointer (some ⟨p,1,none⟩))
 | 9=>(.int .i64 x.reg.base.1)
 | 10=>(.pointer (some ⟨b,0,none⟩))
 | 11=>(.pointer (some ⟨p,1,none⟩))
 | 12=>(.pointer (some ⟨p,2,none⟩))
 | 13=>(.int .i64 x.reg.size.1)
 | 14=>(.pointer (some ⟨b,0,none⟩))
 | 15=>(.pointer (some ⟨p,3,none⟩))
 | 16=>(.bool x.keep)
 | 17=>(.pointer (some ⟨b,0,none⟩))
 | 18=>(.pointer (some ⟨p,4,none⟩))
 | 19=>(.slice x.a x.img.length x.c)
 | 20=>(.pointer (some ⟨b,0,none⟩))
 | _=>undef
def UF (_:cO) (_ g p:Nat):Nat→Value
 | 1=>(.pointer (some ⟨g,0,none⟩))
 | 2=>(.pointer (some ⟨p,0,none⟩))
 | _=>undef
def iY (x:cO):List UInt8:=(int8 x.id.1)++(int8 x.reg.base.1)++(int8 x.reg.size.1)++(iI x.keep)++(lu x.img)
theorem La {base w b a l c} (h:Wr base w b a l c 0) (hbase:base≤w.heap.size) (g:Nat) (hg:w.heap[g]? =some (.cells #[.pointer (some ⟨b,0,none⟩)] 94 (0,0))) (x:cO) {w0:World} (hOld:Below w0.heap.size w0 w) (hR:Row w0 x.a x.img x.c) (hB0:w0.heap.size≤base) (hroom:l.length+(8+8+8+1+(x.img.length+4))≤65536):
 Calls Tryz.prog 187 (#[.agg #[.int .i64 x.id.1, .int .i64 x.reg.base.1, .int .i64 x.reg.size.1, .bool x.keep, .slice x.a x.img.length x.c]]++ #[.pointer (some ⟨g,0,none⟩)]) w fun e w'=>e= .returned (.tuple #[])∧∃a' X c',Hid (X=l++iY x)∧Wr base w' b a' X c' 0∧Save (Off b a) w w'∧ig w.heap.size a a':=by
 show Calls Tryz.prog 187 #[.agg #[.int .i64 x.id.1, .int .i64 x.reg.base.1, .int .i64 x.reg.size.1, .bool x.keep, .slice x.a x.img.length x.c], .pointer (some ⟨g,0,none⟩)] w _
 obtain⟨w1,hw1⟩:=AV (w.alloc (.cells #[.int .i64 x.id.1, .int .i64 x.reg.base.1, .int .i64 x.reg.size.1, .bool x.keep, .slice x.a x.img.length x.c] 46))
 obtain⟨p,hp⟩:=AV (w.heap.size)
 have hb1:Below w.heap.size w w1:=by rw[hw1];exact(Below.refl _ w).alloc (Nat.le_refl _) _
 have hpx:w1.heap[p]? =some (.cells #[.int .i64 x.id.1, .int .i64 x.reg.base.1, .int .i64 x.reg.size.1, .bool x.keep, .slice x.a x.img.length x.c] 46 (0,0)):=by rw[hw1,hp];exact heap_alloc_new _ _
 have hW1:=h.stay hb1
 have hg1:=aG hg hb1
 have hbase:base≤w1.heap.size:=Nat.le_trans hbase hb1.size
 have hplt:p<w1.heap.size:=(Array.getElem?_eq_some_iff.1 hpx).1
 have hglt:g<w1.heap.size:=(Array.getElem?_eq_some_iff.1 hg1).1
 have hpo:Off b a p:=⟨by have:=h.lt;omega,fun e=>by have:=(h.own.aJ e.symm).2;omega⟩
 have hgo:Off b a g:=⟨by rintro rfl;have:=h.blk;rw[hg] at this;simp at this,fun e=>own_ne h.own hg AP e.symm⟩
 have hOld:=hOld.trans (hb1.mono hOld.size)
 have hBel:∀k,k<w0.heap.size→Off b a k:=fun k hk=>⟨by have:=h.ge;omega,fun e=>by have:=(h.own.aJ e.symm).1;omega⟩
 have hS1:w1.heap.size≤w1.heap.size:=Nat.le_refl _
 have St_save:∀ {k wx},(∃a' X c',Hid (X=l++(List.take k [int8 x.id.1,int8 x.reg.base.1,int8 x.reg.size.1,iI x.keep,lu x.img]).flatten)∧Wr base wx b a' X c' 0∧Save (Off b a) w1 wx∧ig w1.heap.size a a')→Save (Off b a) w1 wx:=fun⟨_,_,_,_,_,h,_⟩=>h
 have G0:∀wx,Save (Off b a) w1 wx→wx.cell? ⟨g,0,none⟩=some (.pointer (some ⟨b,0,none⟩)):=fun wx hs=>(hs.cell (p:=⟨g,0,none⟩) hglt hgo).trans (aA hg1 0 rfl)
 have C0:∀wx,Save (Off b a) w1 wx→wx.cell? ⟨p,0,none⟩=some (.int .i64 x.id.1):=fun wx hs=>(hs.cell (p:=⟨p,0,none⟩) hplt hpo).trans (aA hpx 0 rfl)
 have C1:∀wx,Save (Off b a) w1 wx→wx.cell? ⟨p,1,none⟩=some (.int .i64 x.reg.base.1):=fun wx hs=>(hs.cell (p:=⟨p,1,none⟩) hplt hpo).trans (aA hpx 1 rfl)
 have C2:∀wx,Save (Off b a) w1 wx→wx.cell? ⟨p,2,none⟩=some (.int .i64 x.reg.size.1):=fun wx hs=>(hs.cell (p:=⟨p,2,none⟩) hplt hpo).trans (aA hpx 2 rfl)
 have C3:∀wx,Save (Off b a) w1 wx→wx.cell? ⟨p,3,none⟩=some (.bool x.keep):=fun wx hs=>(hs.cell (p:=⟨p,3,none⟩) hplt hpo).trans (aA hpx 3 rfl)
 have C4:∀wx,Save (Off b a) w1 wx→wx.cell? ⟨p,4,none⟩=some (.slice x.a x.img.length x.c):=fun wx hs=>(hs.cell (p:=⟨p,4,none⟩) hplt hpo).trans (aA hpx 4 rfl)
 go_enter Tryz.func187,Tryz.ntmps187
 go_upto_region 1 with fail
 rw[←hw1,←hp]
 refine lT (Vj x b g p) (UF x b g p) [1,2] [3,7,11,14,17] (fun k wx=>∃a' X c',Hid (X=l++(List.take k [int8 x.id.1,int8 x.reg.base.1,int8 x.reg.size.1,iI x.keep,lu x.img]).flatten)∧Wr base wx b a' X c' 0∧Save (Off b a) w1 wx∧ig w1.heap.size a a') AB AB AB ⟨rfl,rfl,trivial⟩ (fun w' hb hh=>⟨a,l,c,by simp[Hid],hW1.stay hb,Save.of hb,ig.refl _ _⟩) ?_ ?_
 ·repeat' (first |exact aO |refine aI ?_ ?_)
  all_goals intro a hk
  ·exact⟨ah rfl, .inr ⟨by decide,fun k wx hk9 hst=>aS (.tmp 1) rfl (hk.o 1) (v:= .pointer (some ⟨b,0,none⟩)) (bH (fun w=>AB) (G0 wx (St_save hst))) ⟨rfl,rfl⟩⟩⟩
  ·exact⟨ah rfl, .inr ⟨by decide,fun k wx hk9 hst=>bJ (.tmp 2) rfl (hk.o 2) (v:= .pointer (some ⟨p,0,none⟩)) (fun w=>AB) ⟨rfl,rfl⟩⟩⟩
  ·exact⟨ah rfl, .inr ⟨by decide,fun k wx hk9 hst=>aS (.tmp 4) rfl (hk.s 4) (v:= .int .i64 x.id.1) (bH (fun w=>AB) (C0 wx (St_save hst))) ⟨rfl,rfl⟩⟩⟩
  ·refine⟨ah rfl, .inl ⟨0,rfl,fun wx hst=> ?_⟩⟩
   obtain⟨a',X,c',HX,hW,hS,hN⟩:=hst
   have hlen:X.length=l.length+0:=by rw[HX.o];simp[int8,aB,iI,bD]
   refine aT rfl rfl #[.pointer (some ⟨b,0,none⟩), .int .i64 x.id.1] (fun w=>AB) (by simp only[List.map_toArray,List.map_cons,List.map_nil,(show a.eval (.tmp 3)=(.pointer (some ⟨b,0,none⟩)) from hk.s 3),(show a.eval (.tmp 5)=(.int .i64 x.id.1) from hk.s 5)]) ((dK hW (Nat.le_trans hbase hS.size) x.id.1 AL).mono ?_)
   rintro e w' ⟨a2,X2,c2,H2,rfl,hW2,hS2,hN2⟩
   exact⟨_,rfl,⟨a2,X2,c2,by rw[Hid,H2.o,HX.o];simp[int8],hW2,Save.off hS hN hS2,hN.trans hN2 hS.size⟩,rfl⟩
  ·exact⟨ah rfl, .inr ⟨by decide,fun k wx hk9 hst=>bJ (.tmp 2) rfl (hk.o 2) (v:= .pointer (some ⟨p,1,none⟩)) (fun w=>AB) ⟨rfl,rfl⟩⟩⟩
  ·exact⟨ah rfl, .inr ⟨by decide,fun k wx hk9 hst=>bJ (.tmp 7) rfl (hk.s 7) (v:= .pointer (some ⟨p,1,none⟩)) (fun w=>AB) ⟨rfl,rfl⟩⟩⟩
  ·exact⟨ah rfl, .inr ⟨by decide,fun k wx hk9 hst=>aS (.tmp 8) rfl (hk.s 8) (v:= .int .i64 x.reg.base.1) (bH (fun w=>AB) (C1 wx (St_save hst))) ⟨rfl,rfl⟩⟩⟩
  ·refine⟨ah rfl, .inl ⟨1,rfl,fun wx hst=> ?_⟩⟩
   obtain⟨a',X,c',HX,hW,hS,hN⟩:=hst
   have hlen:X.length=l.length+0+8:=by rw[HX.o];simp[int8,aB,iI,bD]
   refine aT rfl rfl #[.pointer (some ⟨b,0,none⟩), .int .i64 x.reg.base.1] (fun w=>AB) (by simp only[List.map_toArray,List.map_cons,List.map_nil,(show a.eval (.tmp 6)=(.pointer (some ⟨b,0,none⟩)) from hk.s 6),(show a.eval (.tmp 9)=(.int .i64 x.reg.base.1) from hk.s 9)]) ((dK hW (Nat.le_trans hbase hS.size) x.reg.base.1 AL).mono ?_)
   rintro e w' ⟨a2,X2,c2,H2,rfl,hW2,hS2,hN2⟩
   exact⟨_,rfl,⟨a2,X2,c2,by rw[Hid,H2.o,HX.o];simp[int8],hW2,Save.off hS hN hS2,hN.trans hN2 hS.size⟩,rfl⟩
  ·exact⟨ah rfl, .inr ⟨by decide,fun k wx hk9 hst=>bJ (.tmp 2) rfl (hk.o 2) (v:= .pointer (some ⟨p,1,none⟩)) (fun w=>AB) ⟨rfl,rfl⟩⟩⟩
  ·exact⟨ah rfl, .inr ⟨by decide,fun k wx hk9 hst=>bJ (.tmp 11) rfl (hk.s 11) (v:= .pointer (some ⟨p,2,none⟩)) (fun w=>AB) ⟨rfl,rfl⟩⟩⟩
  ·exact⟨ah rfl, .inr ⟨by decide,fun k wx hk9 hst=>aS (.tmp 12) rfl (hk.s 12) (v:= .int .i64 x.reg.size.1) (bH (fun w=>AB) (C2 wx (St_save hst))) ⟨rfl,rfl⟩⟩⟩
  ·refine⟨ah rfl, .inl ⟨2,rfl,fun wx hst=> ?_⟩⟩
   obtain⟨a',X,c',HX,hW,hS,hN⟩:=hst
   have hlen:X.length=l.length+0+8+8:=by rw[HX.o];simp[int8,aB,iI,bD]
   refine aT rfl rfl #[.pointer (some ⟨b,0,none⟩), .int .i64 x.reg.size.1] (fun w=>AB) (by simp only[List.map_toArray,List.map_cons,List.map_nil,(show a.eval (.tmp 10)=(.pointer (some ⟨b,0,none⟩)) from hk.s 10),(show a.eval (.tmp 13)=(.int .i64 x.reg.size.1) from hk.s 13)]) ((dK hW (Nat.le_trans hbase hS.size) x.reg.size.1 AL).mono ?_)
   rintro e w' ⟨a2,X2,c2,H2,rfl,hW2,hS2,hN2⟩
   exact⟨_,rfl,⟨a2,X2,c2,by rw[Hid,H2.o,HX.o];simp[int8],hW2,Save.off hS hN hS2,hN.trans hN2 hS.size⟩,rfl⟩
  ·exact⟨ah rfl, .inr ⟨by decide,fun k wx hk9 hst=>bJ (.tmp 2) rfl (hk.o 2) (v:= .pointer (some ⟨p,3,none⟩)) (fun w=>AB) ⟨rfl,rfl⟩⟩⟩
  ·exact⟨ah rfl, .inr ⟨by decide,fun k wx hk9 hst=>aS (.tmp 15) rfl (hk.s 15) (v:= .bool x.keep) (bH (fun w=>AB) (C3 wx (St_save hst))) ⟨rfl,rfl⟩⟩⟩
  ·refine⟨ah rfl, .inl ⟨3,rfl,fun wx hst=> ?_⟩⟩
   obtain⟨a',X,c',HX,hW,hS,hN⟩:=hst
   have hlen:X.length=l.length+0+8+8+8:=by rw[HX.o];simp[int8,aB,iI,bD]
   refine aT rfl rfl #[.pointer (some ⟨b,0,none⟩), .bool x.keep] (fun w=>AB) (by simp only[List.map_toArray,List.map_cons,List.map_nil,(show a.eval (.tmp 14)=(.pointer (some ⟨b,0,none⟩)) from hk.s 14),(show a.eval (.tmp 16)=(.bool x.keep) from hk.s 16)]) ((EI hW (Nat.le_trans hbase hS.size) x.keep AL).mono ?_)
   rintro e w' ⟨a2,X2,c2,H2,rfl,hW2,hS2,hN2⟩
   exact⟨_,rfl,⟨a2,X2,c2,by rw[Hid,H2.o,HX.o];simp[int8],hW2,Save.off hS hN hS2,hN.trans hN2 hS.size⟩,rfl⟩
  ·exact⟨ah rfl, .inr ⟨by decide,fun k wx hk9 hst=>bJ (.tmp 2) rfl (hk.o 2) (v:= .pointer (some ⟨p,4,none⟩)) (fun w=>AB) ⟨rfl,rfl⟩⟩⟩
  ·exact⟨ah rfl, .inr ⟨by decide,fun k wx hk9 hst=>aS (.tmp 18) rfl (hk.s 18) (v:= .slice x.a x.img.length x.c) (bH (fun w=>AB) (C4 wx (St_save hst))) ⟨rfl,rfl⟩⟩⟩
  ·refine⟨ah rfl, .inl ⟨4,rfl,fun wx hst=> ?_⟩⟩
   obtain⟨a',X,c',HX,hW,hS,hN⟩:=hst
   have hlen:X.length=l.length+0+8+8+8+1:=by rw[HX.o];simp[int8,aB,iI,bD]
   refine aT rfl rfl #[.pointer (some ⟨b,0,none⟩), .slice x.a x.img.length x.c] (fun w=>AB) (by simp only[List.map_toArray,List.map_cons,List.map_nil,(show a.eval (.tmp 17)=(.pointer (some ⟨b,0,none⟩)) from hk.s 17),(show a.eval (.tmp 19)=(.slice x.a x.img.length x.c) from hk.s 19)]) ((vH hW (Nat.le_trans hbase hS.size) (hR.stay (hOld.trans (hS.below (Nat.le_trans hOld.size hS1) hBel))) AL).mono ?_)
   rintro e w' ⟨a2,X2,c2,H2,rfl,hW2,hS2,hN2⟩
   exact⟨_,rfl,⟨a2,X2,c2,by rw[Hid,H2.o,HX.o];simp[int8],hW2,Save.off hS hN hS2,hN.trans hN2 hS.size⟩,rfl⟩
 intro a9 wz hst hsame hall
 obtain⟨a',X,c',HX,hW,hS,hN⟩:=hst
 have he:=bK hsame [3,4,5,6,7,8,9,10,11,12,13,14,15,16,17,18,19,20] AB
 simp only[List.foldl_cons,List.foldl_nil] at he
 generalize a9.eval (.tmp 3)=y3 at he
 generalize a9.eval (.tmp 4)=y4 at he
 generalize a9.eval (.tmp 5)=y5 at he
 generalize a9.eval (.tmp 6)=y6 at he
 generalize a9.eval (.tmp 7)=y7 at he
 generalize a9.eval (.tmp 8)=y8 at he
 generalize a9.eval (.tmp 9)=y9 at he
 generalize a9.eval (.tmp 10)=y10 at he
 generalize a9.eval (.tmp 11)=y11 at he
 generalize a9.eval (.tmp 12)=y12 at he
 generalize a9.eval (.tmp 13)=y13 at he
 generalize a9.eval (.tmp 14)=y14 at he
 generalize a9.eval (.tmp 15)=y15 at he
 generalize a9.eval (.tmp 16)=y16 at he
 generalize a9.eval (.tmp 17)=y17 at he
 generalize a9.eval (.tmp 18)=y18 at he
 generalize a9.eval (.tmp 19)=y19 at he
 generalize a9.eval (.tmp 20)=y20 at he
 simp only[dQ] at he
 dsimp only[List.set_cons_zero,List.set_cons_succ] at he
 subst he
 clear hsame hall
 have HZ:Hid (∃a' X c',Hid (X=l++iY x)∧Wr base wz b a' X c' 0∧Save (Off b a) w wz∧ig w.heap.size a a'):=⟨a',X,c',by rw[Hid,HX.o];simp[iY],hW,(Save.of hb1).trans hS,fun g hg=>(hN g hg).imp id (fun h=>Nat.le_trans hb1.size h)⟩
 go_wp2_with fail
 go_end0
 exact⟨rfl,HZ.o⟩
theorem F6 {base w b a l c} (h:Wr base w b a l c 0) (hbase:base≤w.heap.size) (g:Nat) (hg:w.heap[g]? =some (.cells #[.pointer (some ⟨b,0,none⟩)] 94 (0,0))) {w0:World} (hOld:Below w0.heap.size w0 w) (hB0:w0.heap.size≤base) {a1:Option Addr} {L:List cO} {c1:Nat} (hv:Vec yT 5 w0 a1 L c1) (himg:∀x∈L,Row w0 x.a x.img x.c) (hroom:l.length+8+(L.flatMap iY).length≤65536):
 Calls Tryz.prog 186 #[.pointer (some ⟨b,0,none⟩), .slice a1 L.length c1, .func (.func 187) #[] #[.pointer (some ⟨g,0,none⟩)]] w fun e w'=>e= .returned (.tuple #[])∧∃a' X c',Hid (X=l++(int8 L.length++L.flatMap iY))∧Wr base w' b a' X c' 0∧Save (Off b a) w w'∧ig w.heap.size a a':=by
 have hBel:∀k,k<w0.heap.size→Off b a k:=fun k hk=>⟨by have:=h.ge;omega,fun e=>by have:=(h.own.aJ e.symm).1;omega⟩
 have hgo:Off b a g:=⟨by rintro rfl;have:=h.blk;rw[hg] at this;simp at this,fun e=>own_ne h.own hg AP e.symm⟩
 have hglt:g<w.heap.size:=(Array.getElem?_eq_some_iff.1 hg).1
 have hln:=hv.bF
 have HH:=AQ (And.intro h (And.intro hg hOld))
 have hK:=dK h hbase (L.length:Int) AL
 have HK:=AQ hK
 have HV:=AQ hv
 clear h hg hK
 go_enter Tryz.func186,Tryz.ntmps186
 go_wp2_with fail
 refine(HK.o).mono ?_
 rintro e w1 ⟨a2,X2,c2,H2,rfl,hW2,hS2,hN2⟩
 have HW2:=AQ (And.intro hW2 (And.intro hS2 hN2))
 have H2:Hid (X2=l++int8 L.length):=H2
 clear hW2 hS2 hN2 HK
 go_wp2_with fail
 go_loopw [14] (fun i wr=>∃(k:Nat) (a':Option Addr) (X:List UInt8) (c':Nat),i= .int .i64 (k:Int)∧k≤L.length∧Hid (X=l++(int8 L.length++(L.take k).flatMap iY))∧Wr base wr b a' X c' 0∧Save (Off b a) w wr∧ig w.heap.size a a') (fun i _=>L.length-(intOf i).toNat)
 case atStart=>exact⟨0,a2,X2,c2,rfl,Nat.zero_le _,by rw[Hid,H2.o];simp,HW2.o.1,HW2.o.2.1,HW2.o.2.2⟩
 case round=>
  obtain⟨k,a3,X3,c3,rfl,hk,H3,hW3,hS3,hN3⟩:=hrel
  have HW3:=AQ (And.intro hW3 (And.intro hS3 hN3))
  by_cases hlt:k<L.length
  ·have hB3:Below w0.heap.size w0 wr:=HH.o.2.2.trans (hS3.below HH.o.2.2.size hBel)
   have i0:=HV.o.index Cm k hlt
   obtain⟨u0,u1,u2,u3,u4⟩:=bQ HV.o hB3 k hlt
   have HS:=AQ (kK iY L k hlt)
   have hfl:=oZ iY L (k+1)
   rw[HS.o] at hfl
   simp only[List.length_append] at hfl
   have hl3:X3.length=l.length+8+((L.take k).flatMap iY).length:=by rw[H3.o];simp[int8,aB];omega
   have HROW:=AQ (himg L[k] (List.getElem_mem hlt))
   obtain⟨x,hx⟩:∃x,Hid (x=L[k]):=⟨L[k],rfl⟩
   rw[←hx.o] at u0 u1 u2 u3 u4 HS hfl HROW
   obtain⟨wb,hwb⟩:=AV (wr.alloc (.cells #[.int .i64 x.id.1, .int .i64 x.reg.base.1, .int .i64 x.reg.size.1, .bool x.keep, .slice x.a x.img.length x.c] 46))
   have hbb:Below wr.heap.size wr wb:=by rw[hwb];exact(Below.refl _ _).alloc (Nat.le_refl _) _
   have hgb:wb.heap[g]? =some (.cells #[.pointer (some ⟨b,0,none⟩)] 94 (0,0)):=aG ((hS3.block g hglt hgo).trans HH.o.2.1) hbb
   have hbs:base≤wb.heap.size:=Nat.le_trans hbase (Nat.le_trans hS3.size hbb.size)
   have hbl:(iY x).length=8+8+8+1+(x.img.length+4):=by simp[iY,int8,aB,iI,bD]<;>omega
   have HKC:=AQ (La (hW3.stay hbb) hbs g hgb x (HH.o.2.2.trans ((hS3.below HH.o.2.2.size hBel).trans (hbb.mono (HH.o.2.2.trans (hS3.below HH.o.2.2.size hBel)).size))) HROW.o hB0 AL)
   have HBB:=AQ hbb
   clear hW3 hS3 hN3 hB3 hbb hgb hbs hfl
   go_wp2_with fail
   rw[←hwb]
   clear hwb
   refine(HKC.o).mono ?_
   rintro e w5 ⟨rfl,a5,X5,c5,H5,hW5,hS5,hN5⟩
   have HW5:=AQ (And.intro hW5 (And.intro (Save.off HW3.o.2.1 HW3.o.2.2 ((Save.of HBB.o).trans hS5)) (HW3.o.2.2.trans (fun g hg=>(hN5 g hg).imp id (fun h=>Nat.le_trans HBB.o.size h)) HW3.o.2.1.size)))
   have HN5:Hid (X5=l++(int8 L.length++(L.take (k+1)).flatMap iY)):=by rw[Hid,H5.o,H3.o,HS.o];simp
   clear hW5 hS5 hN5 HKC u0 u1 u2 u3 u4 i0
   go_wp2_with fail
   go_roundw
   case rel=>exact⟨k+1,a5,X5,c5,by go_num,by omega,HN5.o,HW5.o.1,HW5.o.2.1,HW5.o.2.2⟩
   case measure=>simp[intOf];omega
  ·have hk2:k=L.length:=by omega
   have HN:Hid (X3=l++(int8 L.length++L.flatMap iY)):=by rw[Hid,H3.o,hk2,List.take_length]
   clear hW3 hS3 hN3 hk2
   go_wp2_with fail
   go_end0
   exact⟨rfl,a3,X3,c3,HN.o,HW3.o.1,HW3.o.2.1,HW3.o.2.2⟩
def Vy (x:Ch) (b _ p:Nat):Nat→Value
 | 3=>(.pointer (some ⟨b,0,none⟩))
 | 4=>(.pointer (some ⟨p,0,none⟩))
 | 5=>(.int .i64 x.id.1)
 | 6=>(.pointer (some ⟨b,0,none⟩))
 | 7=>(.pointer (some ⟨p,1,none⟩))
 | 8=>(.int .i64 x.src.1)
 | 9=>(.pointer (some ⟨b,0,none⟩))
 | 10=>(.pointer (some ⟨p,2,none⟩))
 | 11=>(.int .i64 x.dst.1)
 | 12=>(.pointer (some ⟨b,0,none⟩))
 | 13=>(.pointer (some ⟨p,3,none⟩))
 | 14=>(.int .i64 x.cap.1)
 | 15=>(.pointer (some ⟨b,0,none⟩))
 | 16=>(.pointer (some ⟨p,4,none⟩))
 | 17=>(.int .i64 x.size.1)
 | 18=>(.pointer (some ⟨b,0,none⟩))
 | _=>undef
def UN (_:Ch) (_ g p:Nat):Nat→Value
 | 1=>(.pointer (some ⟨g,0,none⟩))
 | 2=>(.pointer (some ⟨p,0,none⟩))
 | _=>undef
def xG (x:Ch):List UInt8:=(int8 x.id.1)++(int8 x.src.1)++(int8 x.dst.1)++(int8 x.cap.1)++(int8 x.size.1)
theorem KU {base w b a l c} (h:Wr base w b a l c 0) (hbase:base≤w.heap.size) (g:Nat) (hg:w.heap[g]? =some (.cells #[.pointer (some ⟨b,0,none⟩)] 94 (0,0))) (x:Ch) (hroom:l.length+(8+8+8+8+8)≤65536):
 Calls Tryz.prog 189 (#[.agg #[.int .i64 x.id.1, .int .i64 x.src.1, .int .i64 x.dst.1, .int .i64 x.cap.1, .int .i64 x.size.1]]++ #[.pointer (some ⟨g,0,none⟩)]) w fun e w'=>e= .returned (.tuple #[])∧∃a' X c',Hid (X=l++xG x)∧Wr base w' b a' X c' 0∧Save (Off b a) w w'∧ig w.heap.size a a':=by
 show Calls Tryz.prog 189 #[.agg #[.int .i64 x.id.1, .int .i64 x.src.1, .int .i64 x.dst.1, .int .i64 x.cap.1, .int .i64 x.size.1], .pointer (some ⟨g,0,none⟩)] w _
 obtain⟨w1,hw1⟩:=AV (w.alloc (.cells #[.int .i64 x.id.1, .int .i64 x.src.1, .int .i64 x.dst.1, .int .i64 x.cap.1, .int .i64 x.size.1] 48))
 obtain⟨p,hp⟩:=AV (w.heap.size)
 have hb1:Below w.heap.size w w1:=by rw[hw1];exact(Below.refl _ w).alloc (Nat.le_refl _) _
 have hpx:w1.heap[p]? =some (.cells #[.int .i64 x.id.1, .int .i64 x.src.1, .int .i64 x.dst.1, .int .i64 x.cap.1, .int .i64 x.size.1] 48 (0,0)):=by rw[hw1,hp];exact heap_alloc_new _ _
 have hW1:=h.stay hb1
 have hg1:=aG hg hb1
 have hbase:base≤w1.heap.size:=Nat.le_trans hbase hb1.size
 have hplt:p<w1.heap.size:=(Array.getElem?_eq_some_iff.1 hpx).1
 have hglt:g<w1.heap.size:=(Array.getElem?_eq_some_iff.1 hg1).1
 have hpo:Off b a p:=⟨by have:=h.lt;omega,fun e=>by have:=(h.own.aJ e.symm).2;omega⟩
 have hgo:Off b a g:=⟨by rintro rfl;have:=h.blk;rw[hg] at this;simp at this,fun e=>own_ne h.own hg AP e.symm⟩
 have St_save:∀ {k wx},(∃a' X c',Hid (X=l++(List.take k [int8 x.id.1,int8 x.src.1,int8 x.dst.1,int8 x.cap.1,int8 x.size.1]).flatten)∧Wr base wx b a' X c' 0∧Save (Off b a) w1 wx∧ig w1.heap.size a a')→Save (Off b a) w1 wx:=fun⟨_,_,_,_,_,h,_⟩=>h
 have G0:∀wx,Save (Off b a) w1 wx→wx.cell? ⟨g,0,none⟩=some (.pointer (some ⟨b,0,none⟩)):=fun wx hs=>(hs.cell (p:=⟨g,0,none⟩) hglt hgo).trans (aA hg1 0 rfl)
 have C0:∀wx,Save (Off b a) w1 wx→wx.cell? ⟨p,0,none⟩=some (.int .i64 x.id.1):=fun wx hs=>(hs.cell (p:=⟨p,0,none⟩) hplt hpo).trans (aA hpx 0 rfl)
 have C1:∀wx,Save (Off b a) w1 wx→wx.cell? ⟨p,1,none⟩=some (.int .i64 x.src.1):=fun wx hs=>(hs.cell (p:=⟨p,1,none⟩) hplt hpo).trans (aA hpx 1 rfl)
 have C2:∀wx,Save (Off b a) w1 wx→wx.cell? ⟨p,2,none⟩=some (.int .i64 x.dst.1):=fun wx hs=>(hs.cell (p:=⟨p,2,none⟩) hplt hpo).trans (aA hpx 2 rfl)
 have C3:∀wx,Save (Off b a) w1 wx→wx.cell? ⟨p,3,none⟩=some (.int .i64 x.cap.1):=fun wx hs=>(hs.cell (p:=⟨p,3,none⟩) hplt hpo).trans (aA hpx 3 rfl)
 have C4:∀wx,Save (Off b a) w1 wx→wx.cell? ⟨p,4,none⟩=some (.int .i64 x.size.1):=fun wx hs=>(hs.cell (p:=⟨p,4,none⟩) hplt hpo).trans (aA hpx 4 rfl)
 go_enter Tryz.func189,Tryz.ntmps189
 go_upto_region 1 with fail
 rw[←hw1,←hp]
 refine lT (Vy x b g p) (UN x b g p) [1,2] [3,6,9,12,15] (fun k wx=>∃a' X c',Hid (X=l++(List.take k [int8 x.id.1,int8 x.src.1,int8 x.dst.1,int8 x.cap.1,int8 x.size.1]).flatten)∧Wr base wx b a' X c' 0∧Save (Off b a) w1 wx∧ig w1.heap.size a a') AB AB AB ⟨rfl,rfl,trivial⟩ (fun w' hb hh=>⟨a,l,c,by simp[Hid],hW1.stay hb,Save.of hb,ig.refl _ _⟩) ?_ ?_
 ·repeat' (first |exact aO |refine aI ?_ ?_)
  all_goals intro a hk
  ·exact⟨ah rfl, .inr ⟨by decide,fun k wx hk9 hst=>aS (.tmp 1) rfl (hk.o 1) (v:= .pointer (some ⟨b,0,none⟩)) (bH (fun w=>AB) (G0 wx (St_save hst))) ⟨rfl,rfl⟩⟩⟩
  ·exact⟨ah rfl, .inr ⟨by decide,fun k wx hk9 hst=>bJ (.tmp 2) rfl (hk.o 2) (v:= .pointer (some ⟨p,0,none⟩)) (fun w=>AB) ⟨rfl,rfl⟩⟩⟩
  ·exact⟨ah rfl, .inr ⟨by decide,fun k wx hk9 hst=>aS (.tmp 4) rfl (hk.s 4) (v:= .int .i64 x.id.1) (bH (fun w=>AB) (C0 wx (St_save hst))) ⟨rfl,rfl⟩⟩⟩
  ·refine⟨ah rfl, .inl ⟨0,rfl,fun wx hst=> ?_⟩⟩
   obtain⟨a',X,c',HX,hW,hS,hN⟩:=hst
   have hlen:X.length=l.length+0:=by rw[HX.o];simp[int8,aB,iI,bD]
   refine aT rfl rfl #[.pointer (some ⟨b,0,none⟩), .int .i64 x.id.1] (fun w=>AB) (by simp only[List.map_toArray,List.map_cons,List.map_nil,(show a.eval (.tmp 3)=(.pointer (some ⟨b,0,none⟩)) from hk.s 3),(show a.eval (.tmp 5)=(.int .i64 x.id.1) from hk.s 5)]) ((dK hW (Nat.le_trans hbase hS.size) x.id.1 AL).mono ?_)
   rintro e w' ⟨a2,X2,c2,H2,rfl,hW2,hS2,hN2⟩
   exact⟨_,rfl,⟨a2,X2,c2,by rw[Hid,H2.o,HX.o];simp[int8],hW2,Save.off hS hN hS2,hN.trans hN2 hS.size⟩,rfl⟩
  ·exact⟨ah rfl, .inr ⟨by decide,fun k wx hk9 hst=>bJ (.tmp 2) rfl (hk.o 2) (v:= .pointer (some ⟨p,1,none⟩)) (fun w=>AB) ⟨rfl,rfl⟩⟩⟩
  ·exact⟨ah rfl, .inr ⟨by decide,fun k wx hk9 hst=>aS (.tmp 7) rfl (hk.s 7) (v:= .int .i64 x.src.1) (bH (fun w=>AB) (C1 wx (St_save hst))) ⟨rfl,rfl⟩⟩⟩
  ·refine⟨ah rfl, .inl ⟨1,rfl,fun wx hst=> ?_⟩⟩
   obtain⟨a',X,c',HX,hW,hS,hN⟩:=hst
   have hlen:X.length=l.length+0+8:=by rw[HX.o];simp[int8,aB,iI,bD]
   refine aT rfl rfl #[.pointer (some ⟨b,0,none⟩), .int .i64 x.src.1] (fun w=>AB) (by simp only[List.map_toArray,List.map_cons,List.map_nil,(show a.eval (.tmp 6)=(.pointer (some ⟨b,0,none⟩)) from hk.s 6),(show a.eval (.tmp 8)=(.int .i64 x.src.1) from hk.s 8)]) ((dK hW (Nat.le_trans hbase hS.size) x.src.1 AL).mono ?_)
   rintro e w' ⟨a2,X2,c2,H2,rfl,hW2,hS2,hN2⟩
   exact⟨_,rfl,⟨a2,X2,c2,by rw[Hid,H2.o,HX.o];simp[int8],hW2,Save.off hS hN hS2,hN.trans hN2 hS.size⟩,rfl⟩
  ·exact⟨ah rfl, .inr ⟨by decide,fun k wx hk9 hst=>bJ (.tmp 2) rfl (hk.o 2) (v:= .pointer (some ⟨p,2,none⟩)) (fun w=>AB) ⟨rfl,rfl⟩⟩⟩
  ·exact⟨ah rfl, .inr ⟨by decide,fun k wx hk9 hst=>aS (.tmp 10) rfl (hk.s 10) (v:= .int .i64 x.dst.1) (bH (fun w=>AB) (C2 wx (St_save hst))) ⟨rfl,rfl⟩⟩⟩
  ·refine⟨ah rfl, .inl ⟨2,rfl,fun wx hst=> ?_⟩⟩
   obtain⟨a',X,c',HX,hW,hS,hN⟩:=hst
   have hlen:X.length=l.length+0+8+8:=by rw[HX.o];simp[int8,aB,iI,bD]
   refine aT rfl rfl #[.pointer (some ⟨b,0,none⟩), .int .i64 x.dst.1] (fun w=>AB) (by simp only[List.map_toArray,List.map_cons,List.map_nil,(show a.eval (.tmp 9)=(.pointer (some ⟨b,0,none⟩)) from hk.s 9),(show a.eval (.tmp 11)=(.int .i64 x.dst.1) from hk.s 11)]) ((dK hW (Nat.le_trans hbase hS.size) x.dst.1 AL).mono ?_)
   rintro e w' ⟨a2,X2,c2,H2,rfl,hW2,hS2,hN2⟩
   exact⟨_,rfl,⟨a2,X2,c2,by rw[Hid,H2.o,HX.o];simp[int8],hW2,Save.off hS hN hS2,hN.trans hN2 hS.size⟩,rfl⟩
  ·exact⟨ah rfl, .inr ⟨by decide,fun k wx hk9 hst=>bJ (.tmp 2) rfl (hk.o 2) (v:= .pointer (some ⟨p,3,none⟩)) (fun w=>AB) ⟨rfl,rfl⟩⟩⟩
  ·exact⟨ah rfl, .inr ⟨by decide,fun k wx hk9 hst=>aS (.tmp 13) rfl (hk.s 13) (v:= .int .i64 x.cap.1) (bH (fun w=>AB) (C3 wx (St_save hst))) ⟨rfl,rfl⟩⟩⟩
  ·refine⟨ah rfl, .inl ⟨3,rfl,fun wx hst=> ?_⟩⟩
   obtain⟨a',X,c',HX,hW,hS,hN⟩:=hst
   have hlen:X.length=l.length+0+8+8+8:=by rw[HX.o];simp[int8,aB,iI,bD]
   refine aT rfl rfl #[.pointer (some ⟨b,0,none⟩), .int .i64 x.cap.1] (fun w=>AB) (by simp only[List.map_toArray,List.map_cons,List.map_nil,(show a.eval (.tmp 12)=(.pointer (some ⟨b,0,none⟩)) from hk.s 12),(show a.eval (.tmp 14)=(.int .i64 x.cap.1) from hk.s 14)]) ((dK hW (Nat.le_trans hbase hS.size) x.cap.1 AL).mono ?_)
   rintro e w' ⟨a2,X2,c2,H2,rfl,hW2,hS2,hN2⟩
   exact⟨_,rfl,⟨a2,X2,c2,by rw[Hid,H2.o,HX.o];simp[int8],hW2,Save.off hS hN hS2,hN.trans hN2 hS.size⟩,rfl⟩
  ·exact⟨ah rfl, .inr ⟨by decide,fun k wx hk9 hst=>bJ (.tmp 2) rfl (hk.o 2) (v:= .pointer (some ⟨p,4,none⟩)) (fun w=>AB) ⟨rfl,rfl⟩⟩⟩
  ·exact⟨ah rfl, .inr ⟨by decide,fun k wx hk9 hst=>aS (.tmp 16) rfl (hk.s 16) (v:= .int .i64 x.size.1) (bH (fun w=>AB) (C4 wx (St_save hst))) ⟨rfl,rfl⟩⟩⟩
  ·refine⟨ah rfl, .inl ⟨4,rfl,fun wx hst=> ?_⟩⟩
   obtain⟨a',X,c',HX,hW,hS,hN⟩:=hst
   have hlen:X.length=l.length+0+8+8+8+8:=by rw[HX.o];simp[int8,aB,iI,bD]
   refine aT rfl rfl #[.pointer (some ⟨b,0,none⟩), .int .i64 x.size.1] (fun w=>AB) (by simp only[List.map_toArray,List.map_cons,List.map_nil,(show a.eval (.tmp 15)=(.pointer (some ⟨b,0,none⟩)) from hk.s 15),(show a.eval (.tmp 17)=(.int .i64 x.size.1) from hk.s 17)]) ((dK hW (Nat.le_trans hbase hS.size) x.size.1 AL).mono ?_)
   rintro e w' ⟨a2,X2,c2,H2,rfl,hW2,hS2,hN2⟩
   exact⟨_,rfl,⟨a2,X2,c2,by rw[Hid,H2.o,HX.o];simp[int8],hW2,Save.off hS hN hS2,hN.trans hN2 hS.size⟩,rfl⟩
 intro a9 wz hst hsame hall
 obtain⟨a',X,c',HX,hW,hS,hN⟩:=hst
 have he:=bK hsame [3,4,5,6,7,8,9,10,11,12,13,14,15,16,17,18] AB
 simp only[List.foldl_cons,List.foldl_nil] at he
 generalize a9.eval (.tmp 3)=y3 at he
 generalize a9.eval (.tmp 4)=y4 at he
 generalize a9.eval (.tmp 5)=y5 at he
 generalize a9.eval (.tmp 6)=y6 at he
 generalize a9.eval (.tmp 7)=y7 at he
 generalize a9.eval (.tmp 8)=y8 at he
 generalize a9.eval (.tmp 9)=y9 at he
 generalize a9.eval (.tmp 10)=y10 at he
 generalize a9.eval (.tmp 11)=y11 at he
 generalize a9.eval (.tmp 12)=y12 at he
 generalize a9.eval (.tmp 13)=y13 at he
 generalize a9.eval (.tmp 14)=y14 at he
 generalize a9.eval (.tmp 15)=y15 at he
 generalize a9.eval (.tmp 16)=y16 at he
 generalize a9.eval (.tmp 17)=y17 at he
 generalize a9.eval (.tmp 18)=y18 at he
 simp only[dQ] at he
 dsimp only[List.set_cons_zero,List.set_cons_succ] at he
 subst he
 clear hsame hall
 have HZ:Hid (∃a' X c',Hid (X=l++xG x)∧Wr base wz b a' X c' 0∧Save (Off b a) w wz∧ig w.heap.size a a'):=⟨a',X,c',by rw[Hid,HX.o];simp[xG],hW,(Save.of hb1).trans hS,fun g hg=>(hN g hg).imp id (fun h=>Nat.le_trans hb1.size h)⟩
 go_wp2_with fail
 go_end0
 exact⟨rfl,HZ.o⟩
theorem GR {base w b a l c} (h:Wr base w b a l c 0) (hbase:base≤w.heap.size) (g:Nat) (hg:w.heap[g]? =some (.cells #[.pointer (some ⟨b,0,none⟩)] 94 (0,0))) {w0:World} (hOld:Below w0.heap.size w0 w) (hB0:w0.heap.size≤base) {a1:Option Addr} {L:List Ch} {c1:Nat} (hv:Vec yG 5 w0 a1 L c1) (hroom:l.length+8+(L.flatMap xG).length≤65536):
 Calls Tryz.prog 188 #[.pointer (some ⟨b,0,none⟩), .slice a1 L.length c1, .func (.func 189) #[] #[.pointer (some ⟨g,0,none⟩)]] w fun e w'=>e= .returned (.tuple #[])∧∃a' X c',Hid (X=l++(int8 L.length++L.flatMap xG))∧Wr base w' b a' X c' 0∧Save (Off b a) w w'∧ig w.heap.size a a':=by
 have hBel:∀k,k<w0.heap.size→Off b a k:=fun k hk=>⟨by have:=h.ge;omega,fun e=>by have:=(h.own.aJ e.symm).1;omega⟩
 have hgo:Off b a g:=⟨by rintro rfl;have:=h.blk;rw[hg] at this;simp at this,fun e=>own_ne h.own hg AP e.symm⟩
 have hglt:g<w.heap.size:=(Array.getElem?_eq_some_iff.1 hg).1
 have hln:=hv.bF
 have HH:=AQ (And.intro h (And.intro hg hOld))
 have hK:=dK h hbase (L.length:Int) AL
 have HK:=AQ hK
 have HV:=AQ hv
 clear h hg hK
 go_enter Tryz.func188,Tryz.ntmps188
 go_wp2_with fail
 refine(HK.o).mono ?_
 rintro e w1 ⟨a2,X2,c2,H2,rfl,hW2,hS2,hN2⟩
 have HW2:=AQ (And.intro hW2 (And.intro hS2 hN2))
 have H2:Hid (X2=l++int8 L.length):=H2
 clear hW2 hS2 hN2 HK
 go_wp2_with fail
 go_loopw [14] (fun i wr=>∃(k:Nat) (a':Option Addr) (X:List UInt8) (c':Nat),i= .int .i64 (k:Int)∧k≤L.length∧Hid (X=l++(int8 L.length++(L.take k).flatMap xG))∧Wr base wr b a' X c' 0∧Save (Off b a) w wr∧ig w.heap.size a a') (fun i _=>L.length-(intOf i).toNat)
 case atStart=>exact⟨0,a2,X2,c2,rfl,Nat.zero_le _,by rw[Hid,H2.o];simp,HW2.o.1,HW2.o.2.1,HW2.o.2.2⟩
 case round=>
  obtain⟨k,a3,X3,c3,rfl,hk,H3,hW3,hS3,hN3⟩:=hrel
  have HW3:=AQ (And.intro hW3 (And.intro hS3 hN3))
  by_cases hlt:k<L.length
  ·have hB3:Below w0.heap.size w0 wr:=HH.o.2.2.trans (hS3.below HH.o.2.2.size hBel)
   have i0:=HV.o.index JC k hlt
   obtain⟨u0,u1,u2,u3,u4⟩:=dN HV.o hB3 k hlt
   have HS:=AQ (kK xG L k hlt)
   have hfl:=oZ xG L (k+1)
   rw[HS.o] at hfl
   simp only[List.length_append] at hfl
   have hl3:X3.length=l.length+8+((L.take k).flatMap xG).length:=by rw[H3.o];simp[int8,aB];omega
   obtain⟨x,hx⟩:∃x,Hid (x=L[k]):=⟨L[k],rfl⟩
   rw[←hx.o] at u0 u1 u2 u3 u4 HS hfl
   obtain⟨wb,hwb⟩:=AV (wr.alloc (.cells #[.int .i64 x.id.1, .int .i64 x.src.1, .int .i64 x.dst.1, .int .i64 x.cap.1, .int .i64 x.size.1] 48))
   have hbb:Below wr.heap.size wr wb:=by rw[hwb];exact(Below.refl _ _).alloc (Nat.le_refl _) _
   have hgb:wb.heap[g]? =some (.cells #[.pointer (some ⟨b,0,none⟩)] 94 (0,0)):=aG ((hS3.block g hglt hgo).trans HH.o.2.1) hbb
   have hbs:base≤wb.heap.size:=Nat.le_trans hbase (Nat.le_trans hS3.size hbb.size)
   have hbl:(xG x).length=8+8+8+8+8:=by simp[xG,int8,aB,iI,bD]<;>omega
   have HKC:=AQ (KU (hW3.stay hbb) hbs g hgb x AL)
   have HBB:=AQ hbb
   clear hW3 hS3 hN3 hB3 hbb hgb hbs hfl
   go_wp2_with fail
   rw[←hwb]
   clear hwb
   refine(HKC.o).mono ?_
   rintro e w5 ⟨rfl,a5,X5,c5,H5,hW5,hS5,hN5⟩
   have HW5:=AQ (And.intro hW5 (And.intro (Save.off HW3.o.2.1 HW3.o.2.2 ((Save.of HBB.o).trans hS5)) (HW3.o.2.2.trans (fun g hg=>(hN5 g hg).imp id (fun h=>Nat.le_trans HBB.o.size h)) HW3.o.2.1.size)))
   have HN5:Hid (X5=l++(int8 L.length++(L.take (k+1)).flatMap xG)):=by rw[Hid,H5.o,H3.o,HS.o];simp
   clear hW5 hS5 hN5 HKC u0 u1 u2 u3 u4 i0
   go_wp2_with fail
   go_roundw
   case rel=>exact⟨k+1,a5,X5,c5,by go_num,by omega,HN5.o,HW5.o.1,HW5.o.2.1,HW5.o.2.2⟩
   case measure=>simp[intOf];omega
  ·have hk2:k=L.length:=by omega
   have HN:Hid (X3=l++(int8 L.length++L.flatMap xG)):=by rw[Hid,H3.o,hk2,List.take_length]
   clear hW3 hS3 hN3 hk2
   go_wp2_with fail
   go_end0
   exact⟨rfl,a3,X3,c3,HN.o,HW3.o.1,HW3.o.2.1,HW3.o.2.2⟩
end Go.Proofs.YtlholdllibghbaaGreat
