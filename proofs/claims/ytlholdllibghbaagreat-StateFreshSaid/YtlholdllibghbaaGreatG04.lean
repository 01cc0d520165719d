/- Texts of the proof, one behind the other: RefCat, Cat, Cut, RowsOwn. No condition but those that each names. -/
import Derived.Test.YtlholdllibghbaaGreatProg
import Derived.Test.YtlholdllibghbaaGreatG00
import Derived.Test.YtlholdllibghbaaGreatShelf
import Derived.Test.YtlholdllibghbaaGreatG02
import Derived.RangeFuncNested
import Derived.RangeFuncBound
import Derived.RangeFuncCalls
import Derived.RangeFuncLeaves
import Derived.Shelf.Abstract
import Derived.Shelf.RegionOpen
import Derived.OwnWalkIn
import Derived.TacticsInMore
import Derived.LoopNIn
import Derived.LoopIn
import Derived.Maps.AppendAt
import Derived.Test.YtlholdllibghbaaGreatG01
import Derived.Test.YtlholdllibghbaaGreatKit
namespace Go.Proofs.YtlholdllibghbaaGreat
open Go Go.RowKit Go.Cit
theorem bt:iV Tryz.prog 40 5:=⟨Tryz.underlying40,by intro w;kernel_rfl,by kernel_rfl⟩
theorem take_snoc {α:Type} (l:List α) (k:Nat) (h:k<l.length):l.take k++ [l[k]]=l.take (k+1):=by
 rw[List.take_succ_eq_append_getElem h]
open Go Go.RowKit Go.Cit
theorem rF:∀ls:List (List UInt8),Lib.join ls []=ls.flatten
 | []=>rfl
 | [x]=>by simp[Lib.join_one]
 |
  x::y::ls=>by
  have h:=rF (y::ls)
  simp only[Lib.join,List.intercalate] at h ⊢
  rw[List.intersperse_cons_cons]
  simp[h]
theorem Bc (ls:List (List UInt8)):Lib.lens ls=ls.flatten.length:=by
 simp[Lib.lens,List.length_flatten]
theorem eY {w a l cap} (h:Row w a l cap):Lib.HoldsBytes w (.slice a l.length cap) l:=by
 refine⟨a,cap,rfl,fun hn=> ?_,fun x hx i y hy=> ?_⟩
 ·rcases List.eq_nil_or_concat l with h0 |⟨_,_,h0⟩
  ·exact h0
  ·obtain⟨b,o,e⟩:=h.spot (by simp[h0])
   rw[hn] at e;simp at e
 ·subst hx
  obtain⟨hi,rfl⟩:=List.getElem?_eq_some_iff.1 hy
  obtain⟨b,o,e⟩:=h.spot (by intro h0;simp[h0] at hi)
  injection e with e
  subst e
  have:=h.cell i hi
  have ea:(⟨b,o,none⟩:Addr).add i=ad (some ⟨b,o,none⟩) i:=by unfold Addr.add ad;split<;>simp_all
  rw[ea];exact this
theorem kN {B:Nat} {w:World} {v:Value} {l:List UInt8} (h:Lib.FreshBytes B w v l):∃a c,v= .slice a l.length c∧Mine B w a l c:=by
 obtain⟨g,cap,zs,rfl,hB,hle,hm,hz,hr,hb,hc,hf⟩:=h
 refine⟨_,_,rfl,⟨hle,hm,fun h=>by simp at h,fun _=>⟨g,0,rfl⟩,fun i hi=> ?_⟩,fun k hk=> ?_,fun i hi=> ?_⟩
 ·have h1:=hc i AL
  simp only[ad,Nat.zero_add]
  rw[h1]
  have hzi:i<zs.length:=by omega
  have hzr:=hr zs[i] (List.getElem_mem hzi)
  have e:l[i]=UInt8.ofNat (zs[i]).toNat:=by
   have hb':l=Lib.bytesOf (zs.take l.length):=hb.symm
   have:l[i]? =(Lib.bytesOf (zs.take l.length))[i]? :=by rw[←hb']
   simp only[Lib.bytesOf,List.getElem?_map,List.getElem?_take,if_pos hi,List.getElem?_eq_getElem hi,List.getElem?_eq_getElem hzi,Option.map_some,Option.some.injEq] at this
   exact this
  rw[e,List.getD,List.getElem?_eq_getElem hzi]
  simp only[Option.getD_some,vb]
  rw[UInt8.toNat_ofNat_of_lt' (by show _<256;omega)]
  congr 2;omega
 ·simp[blk] at hk;omega
 ·simp only[ad,Nat.zero_add];exact hf i AL
theorem xO (w:World) (b o c:Nat) (vs:List Value) (ls:List (List UInt8)) (hP:Lib.PartsAt w ⟨b,o,none⟩ vs ls) (hcap:ls.length≤c) (hl:ls.flatten.length≤1000000000) (hn:ls.length≤1000000000):
 Calls Tryz.prog 190 #[.slice (some ⟨b,o,none⟩) ls.length c, .slice none 0 0] w fun e w'=>∃a cp,e= .returned (.slice a ls.flatten.length cp)∧Mine w.heap.size w' a ls.flatten cp∧Below w.heap.size w w':=by
 match ls,hP,hcap,hl,hn with
 |
  [],hP,hcap,hl,hn=>
  refine(Tryz.bytes_Join_none _ c _ w).mono ?_
  rintro e w' ⟨rfl,rfl⟩
  exact⟨_,_,rfl,⟨⟨Nat.le_refl _,Nat.zero_le _,fun h=>rfl,fun h=>(h rfl).elim,fun i h=>by simp at h⟩,fun g hg=>by simp[blk] at hg;omega,fun i h=>by simp at h⟩,(Below.refl _ _).alloc (Nat.le_refl _) _⟩
 |
  [l],hP,hcap,hl,hn=>
  obtain⟨p,cap,l',hl',hcell,hnone,hby⟩:=hP.get 0 AO
  simp only[List.getElem?_cons_zero,Option.some.injEq] at hl'
  subst hl'
  have hcell0:w.cell? ⟨b,o,none⟩=some (.slice p l.length cap):=by simpa[Addr.add] using hcell
  simp only[List.flatten_cons,List.flatten_nil,List.append_nil] at hl ⊢
  rcases Nat.eq_zero_or_pos l.length with h0 |h0
  ·rw[h0] at hcell0
   refine(Tryz.bytes_Join_one_empty b o c p cap _ w hcell0).mono ?_
   rintro e w' ⟨rfl,rfl⟩
   obtain rfl:l=[]:=List.eq_nil_of_length_eq_zero h0
   exact⟨none,0,rfl,Mine.nil _ _,Below.refl _ _⟩
  ·obtain⟨a0,rfl⟩:∃a0,p=some a0:=by
    cases p with
    | none=>have:=hnone rfl;simp[this] at h0
    | some a0=>exact⟨a0,rfl⟩
   refine(Tryz.bytes_Join_one b o c a0 cap l _ w hcell0 (hby a0 rfl) h0 AL).mono ?_
   rintro e w' ⟨v',rfl,hf,hb⟩
   obtain⟨a,cp,rfl,hm⟩:=kN hf
   exact⟨a,cp,rfl,hm,hb⟩
 |
  x::y::ls,hP,hcap,hl,hn=>
  refine(Tryz.bytes_Join_many b o _ c vs (x::y::ls) (.slice none 0 0) [] w rfl AO hP hcap (eY (Row.nil_ w)) AL (by rw[Bc];simp at hl ⊢;omega)).mono ?_
  rintro e w' ⟨v',rfl,hf,hb⟩
  rw[rF] at hf
  obtain⟨a,cp,rfl,hm⟩:=kN hf
  exact⟨a,cp,rfl,hm,hb⟩
theorem mZ (w:World) (b o c:Nat) (vs:List Value) (ls:List (List UInt8)) (hP:Lib.PartsAt w ⟨b,o,none⟩ vs ls) (hcap:ls.length≤c) (hl:ls.flatten.length≤1000000000) (hn:ls.length≤1000000000):
 Calls Tryz.prog 110 #[.slice (some ⟨b,o,none⟩) ls.length c] w fun e w'=>∃a cp,e= .returned (.slice a ls.flatten.length cp)∧Mine w.heap.size w' a ls.flatten cp∧Below w.heap.size w w':=by
 have hj:=xO w b o c vs ls hP hcap hl hn
 obtain⟨f,hf⟩:∃f,ls.flatten=f:=⟨_,rfl⟩
 rw[hf] at hj ⊢
 clear hf hl hP hn
 go_enter Tryz.func110,Tryz.ntmps110
 go_wp2_with (go_at_call 190;refine hj.mono ?_;rintro e w' ⟨a,cp,rfl,hm,hb⟩)
 go_ret
 exact⟨a,cp,rfl,hm,hb⟩
theorem nG (W:World) (vs:List Value) (ls:List (List UInt8)) (t:TypeId) (hlen:vs.length=ls.length) (h:∀(i:Nat) v l,vs[i]? =some v→ls[i]? =some l→Lib.HoldsBytes W v l):
 Lib.PartsAt (W.alloc (.cells vs.toArray t)) ⟨W.heap.size,0,none⟩ vs ls:=by
 refine⟨hlen,fun i v hv=> ?_,fun i v l hv hl=> ?_⟩
 ·have ea:(⟨W.heap.size,0,none⟩:Addr).add i=⟨W.heap.size,i,none⟩:=by unfold Addr.add;split<;>simp_all
  rw[ea,World.cell?,heap_alloc_new]
  simpa using hv
 ·obtain⟨p,cap,e,h1,h2⟩:=h i v l hv hl
  refine⟨p,cap,e,h1,fun a ha j x hx=> ?_⟩
  have hc:=h2 a ha j x hx
  have hlt:=World.block_lt_of_cell? W _ hc
  rw[((Below.refl W.heap.size W).alloc (Nat.le_refl _) (.cells vs.toArray t)).cell hlt]
  exact hc
theorem lq (W:World) (t:TypeId) {a1:Option Addr} {l1:List UInt8} {c1:Nat} (r1:Row W a1 l1 c1) (hl:l1.length≤1000000000):
 Calls Tryz.prog 110 #[.slice (some ⟨W.heap.size,0,none⟩) 1 1] (W.alloc (.cells #[.slice a1 l1.length c1] t)) fun e w'=>∃a cp,e= .returned (.slice a l1.length cp)∧Mine W.heap.size w' a l1 cp∧Below W.heap.size W w':=by
 have hP:=nG W [.slice a1 l1.length c1] [l1] t rfl (by
  intro i v l hv hl
  match i with
  | 0=>simp at hv hl;subst hv hl;exact eY r1
  | i+1=>simp at hv)
 refine(mZ _ _ _ 1 _ _ hP AO (by simpa using hl) AO).mono ?_
 rintro e w' ⟨a,cp,rfl,hm,hb⟩
 simp only[List.flatten_cons,List.flatten_nil,List.append_nil] at hm ⊢
 exact⟨a,cp,rfl,hm.low AO,((Below.refl _ _).alloc (Nat.le_refl _) _).trans (hb.mono AO)⟩
open Go Go.RowKit Go.Cit Go.Shelf
attribute [local go_sem] Oper.semAt_some
structure Rows (w:World) (a:Option Addr) (ds:List (Sl UInt8)) (cap:Nat):Prop where
 le:ds.length≤cap
 top:cap≤maxLen
 nil:a=none→cap=0
 spot:ds≠ []→∃b off,a=some ⟨b,off,none⟩
 cell:∀i (h:i<ds.length),w.cell? (ad a i)=some (.slice ds[i].a ds[i].l.length ds[i].c)
 row:∀d∈ds,Row w d.a d.l d.c
theorem Rows.aI {w:World} {a:Option Addr} {ds:List (Sl UInt8)} {cap:Nat} (h:Rows w a ds cap):ds.length≤9223372036854775807:=by
 have h1:=h.le;have h2:=h.top;unfold maxLen at h2;omega
theorem Rows.blk {w:World} {a:Option Addr} {ds:List (Sl UInt8)} {cap:Nat} (h:Rows w a ds cap) {i:Nat} (hi:i<ds.length):(ad a i).block<w.heap.size:=
 World.block_lt_of_cell? w _ (h.cell i hi)
theorem Rows.stay {w w':World} {a:Option Addr} {ds:List (Sl UInt8)} {cap:Nat} (h:Rows w a ds cap) (hb:Below w.heap.size w w'):Rows w' a ds cap:=
 ⟨h.le,h.top,h.nil,h.spot,fun i hi=>(hb.cell (h.blk hi)).trans (h.cell i hi),fun d hd=>(h.row d hd).stay hb⟩
theorem Rows.drewN {w:World} {a:Option Addr} {ds:List (Sl UInt8)} {cap:Nat} (h:Rows w a ds cap) (n:Nat):Rows (w.drewN n) a ds cap:=
 ⟨h.le,h.top,h.nil,h.spot,fun i hi=>h.cell i hi,fun d hd=>(h.row d hd).drewN n⟩
theorem Rows.save {S:Nat→Prop} {w w':World} {a:Option Addr} {ds:List (Sl UInt8)} {cap:Nat} (h:Rows w a ds cap) (hs:Save S w w') (ha:∀g,Go.Cit.blk a=some g→S g) (hd:∀d∈ds,∀g,Go.Cit.blk d.a=some g→S g):Rows w' a ds cap:=by
 refine⟨h.le,h.top,h.nil,h.spot,fun i hi=>(hs.cell (h.blk hi) ?_).trans (h.cell i hi),fun d hm=>(h.row d hm).save hs (hd d hm)⟩
 obtain⟨b,off,rfl⟩:=h.spot (by intro h0;simp[h0] at hi)
 have:=ha b rfl
 simpa[ad] using this
theorem FB:∀w,(sizeOf 40).run Tryz.prog w= .ok 1 w:=by intro w;kernel_rfl
theorem Rows.index {w:World} {a:Option Addr} {ds:List (Sl UInt8)} {cap:Nat} (h:Rows w a ds cap) (i:Nat) (hi:i<ds.length):
 ∀w,(Instr.indexAt 49 (.slice a ds.length cap) (.int .i64 (i:Int))).run Tryz.prog w= .ok (.pointer (some (ad a i))) w:=by
 intro w
 obtain⟨b,off,rfl⟩:=h.spot (by intro h0;simp[h0] at hi)
 have hT:Tryz.prog.underlying 49=some (.slice 40):=Tryz.underlying49
 have he:Tryz.prog.elem 49=40:=by simp[Program.elem,hT]
 rw[run_indexAt_slice w _ _ _ _ _ _ (by rw[he];exact hT),if_pos AL,he,FB]
 simp only[Result.andThen,ad,Addr.add]
 by_cases h0:i=0
 ·subst h0;simp
 ·simp[h0]
@[reducible] def sv (d:Sl UInt8):Value:= .slice d.a d.l.length d.c
theorem E8:(Tryz.prog.info? 40).map (fun i=>(i.zero,i.size,i.bytes))=some (some (.slice none 0 0),1,24):=by kernel_rfl
open Go Go.RowKit Go.Cit
@[reducible] def sf (d:Sl UInt8):List Value:=[sv d]
theorem jh:∀d,(sf d).length=1:=fun _=>rfl
theorem F5:∀d,∀u∈sf d,u.oneCell'=true:=by
 intro d u hu;obtain rfl:u=sv d:=by simpa using hu
 rfl
@[reducible] def IB:Sl UInt8:=⟨none,0,[]⟩
theorem rZ:bC Tryz.prog 49 40 1 24 (sv IB):=⟨Tryz.underlying49,E8,FB,rfl,by decide,by decide⟩
theorem gJ {w:World} {a:Option Addr} {ds:List (Sl UInt8)} {c:Nat} (h:Vec sf 1 w a ds c) (hr:∀d∈ds,Row w d.a d.l d.c):Rows w a ds c:=
 ⟨h.le,h.top,h.nil,h.spot,fun i hi=>h.cell1 (v:=sv) i hi,hr⟩
theorem Rows.vec {w:World} {a:Option Addr} {ds:List (Sl UInt8)} {c:Nat} (h:Rows w a ds c):Vec sf 1 w a ds c:=Vec.I9 (v:=sv) h.le h.top h.nil h.spot h.cell
end Go.Proofs.YtlholdllibghbaaGreat
