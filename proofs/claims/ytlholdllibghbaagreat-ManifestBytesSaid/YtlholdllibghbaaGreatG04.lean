/- Texts of the proof, one behind the other: RefCat, Cat, WordsDef, WordsRow. No condition but those that each names. -/
import Derived.Test.YtlholdllibghbaaGreatProg
import Derived.Test.YtlholdllibghbaaGreatG00
import Derived.Test.YtlholdllibghbaaGreatShelf
import Derived.Test.YtlholdllibghbaaGreatKit
set_option maxRecDepth 100000
set_option maxHeartbeats 8000000
namespace Go.Proofs.YtlholdllibghbaaGreat
open Go Go.RowKit Go.Cit
theorem bt:gW Tryz.prog 40 5:=⟨Tryz.underlying40,by intro w;kernel_rfl,by kernel_rfl⟩
theorem take_snoc {α:Type} (l:List α) (k:Nat) (h:k<l.length):l.take k++ [l[k]]=l.take (k+1):=by
 rw[List.take_succ_eq_append_getElem h]
theorem mD (w:World) (a0 a1:Option Addr) (l m:List UInt8) (c0 c1:Nat) (h0:Row w a0 l c0) (h1:Row w a1 m c1) (hl:l.length≤400000000) (hm:m.length≤400000000):
 Calls Tryz.prog 119 #[.slice a0 l.length c0, .slice a1 m.length c1] w fun e w'=>∃a c,e= .returned (.slice a (l++m).length c)∧Own 5 w.heap.size w' a (l++m) c∧Below w.heap.size w w':=by
 go_enter Tryz.func119,Tryz.ntmps119
 go_wp2
 go_loopw [5,6] (fun o i wr=>∃(k:Nat) (a:Option Addr) (c:Nat) (x:List UInt8),Hid (x=l.take k)∧k≤l.length∧i= .int .i64 k∧o= .slice a x.length c∧Own 5 w.heap.size wr a x c∧Below w.heap.size w wr) (fun _ i _=>l.length-(intOf i).toNat)
 case atStart=>exact⟨0,none,0,[],rfl,Nat.zero_le _,rfl,rfl,Own.nil _ _ _,Below.refl _ _⟩
 case round=>
  obtain⟨k,a,c,x,HX,hk,rfl,rfl,hown,hb⟩:=hrel
  have r0:=h0.stay hb
  have r1:=h1.stay hb
  have hs:=hb.size
  have hx:x.length≤k:=by rw[HX.o];simp;omega
  have hx9:x.length≤1000000000:=by omega
  by_cases hlt:k<l.length
  ·have i0:=r0.index bt.slice bt.sz k hlt
   have e0:=r0.cell k hlt
   go_wp2_with (at_builtin;refine iU bt (.tmp 14) (.tmp 19) rfl rfl hown hx9 hs rfl rfl ?_;intro a' c' w' hown' hgr)
   go_roundw
   case rel=>exact⟨k+1,a',c',x++ [l[k]],by rw[HX.o,take_snoc l k hlt];rfl,by omega,by go_num,by simp,hown',hb.grown hgr hs (fun j hj=>(hown.aK hj).1)⟩
   case measure=>simp[intOf];omega
  ·have hk2:k=l.length:=by omega
   have HX2:Hid (x=l):=by rw[Hid,HX.o,hk2,List.take_length]
   clear HX hk2
   go_wp2
   go_loopw [5,7] (fun o i wr=>∃(k:Nat) (a:Option Addr) (c:Nat) (x:List UInt8),Hid (x=l++m.take k)∧k≤m.length∧i= .int .i64 k∧o= .slice a x.length c∧Own 5 w.heap.size wr a x c∧Below w.heap.size w wr) (fun _ i _=>m.length-(intOf i).toNat)
   case atStart=>exact⟨0,a,c,x,by rw[HX2.o];simp[Hid],Nat.zero_le _,rfl,rfl,hown,hb⟩
   case round=>
    clear hs hx hx9 r0 r1 hown hb HX2 hlt hk
    obtain⟨k,a,c,x,HX,hk,rfl,rfl,hown,hb⟩:=hrel
    have r1:=h1.stay hb
    have hs:=hb.size
    have hx:x.length≤l.length+k:=by rw[HX.o];simp;omega
    have hx9:x.length≤1000000000:=by omega
    by_cases hlt:k<m.length
    ·have i0:=r1.index bt.slice bt.sz k hlt
     have e0:=r1.cell k hlt
     go_wp2_with (at_builtin;refine iU bt (.tmp 27) (.tmp 32) rfl rfl hown hx9 hs rfl rfl ?_;intro a' c' w' hown' hgr)
     go_roundw
     case rel=>exact⟨k+1,a',c',x++ [m[k]],by rw[HX.o,List.append_assoc,take_snoc m k hlt];rfl,by omega,by go_num,by simp,hown',hb.grown hgr hs (fun j hj=>(hown.aK hj).1)⟩
     case measure=>simp[intOf];omega
    ·have hk2:k=m.length:=by omega
     have HX2:Hid (x=l++m):=by rw[Hid,HX.o,hk2,List.take_length]
     clear HX hk2
     go_wp2
     go_ret
     have e:=HX2.o
     subst e
     exact⟨a,c,rfl,hown,hb⟩
theorem zy (w:World) (a0:Option Addr) (l:List UInt8) (c0:Nat) (h0:Row w a0 l c0) (hl:l.length≤400000000):
 Calls Tryz.prog 147 #[.slice a0 l.length c0] w fun e w'=>∃a c,e= .returned (.slice a l.length c)∧Own 5 w.heap.size w' a l c∧Below w.heap.size w w':=by
 have hc:=mD w none a0 [] l 0 c0 (Row.nil_ w) h0 AO hl
 simp only[List.nil_append,List.length_nil] at hc
 go_enter Tryz.func147,Tryz.ntmps147
 go_wp2_with (go_at_call 119;refine hc.mono ?_;rintro e w' ⟨a,c,rfl,ho,hb⟩)
 go_ret
 exact⟨a,c,rfl,ho,hb⟩
open Go Go.RowKit Go.Cit
theorem Cm:∀ls:List (List UInt8),Lib.join ls []=ls.flatten
 | []=>rfl
 | [x]=>by simp[Lib.join_one]
 |
  x::y::ls=>by
  have h:=Cm (y::ls)
  simp only[Lib.join,List.intercalate] at h ⊢
  rw[List.intersperse_cons_cons]
  simp[h]
theorem MK (ls:List (List UInt8)):Lib.lens ls=ls.flatten.length:=by
 simp[Lib.lens,List.length_flatten]
theorem dF {w a l cap} (h:Row w a l cap):Lib.HoldsBytes w (.slice a l.length cap) l:=by
 refine⟨a,cap,rfl,fun hn=> ?_,fun x hx i y hy=> ?_⟩
 ·rcases List.eq_nil_or_concat l with h0 |⟨_,_,h0⟩
  ·exact h0
  ·obtain⟨b,o,e⟩:=h.spot (by simp[h0])
   rw[hn] at e;simp at e
 ·subst hx
  obtain⟨hi,rfl⟩:=List.getElem?_eq_some_iff.1 hy
  obtain⟨b,o,e⟩:=h.spot (by intro h0;simp[h0] at hi)
  injection e with e
  subst e
  have:=h.cell i hi
  have ea:(⟨b,o,none⟩:Addr).add i=ad (some ⟨b,o,none⟩) i:=by unfold Addr.add ad;split<;>simp_all
  rw[ea];exact this
theorem kV {B:Nat} {w:World} {v:Value} {l:List UInt8} (h:Lib.FreshBytes B w v l):∃a c,v= .slice a l.length c∧Mine B w a l c:=by
 obtain⟨g,cap,zs,rfl,hB,hle,hm,hz,hr,hb,hc,hf⟩:=h
 refine⟨_,_,rfl,⟨hle,hm,fun h=>by simp at h,fun _=>⟨g,0,rfl⟩,fun i hi=> ?_⟩,fun k hk=> ?_,fun i hi=> ?_⟩
 ·have h1:=hc i AL
  simp only[ad,Nat.zero_add]
  rw[h1]
  have hzi:i<zs.length:=by omega
  have hzr:=hr zs[i] (List.getElem_mem hzi)
  have e:l[i]=UInt8.ofNat (zs[i]).toNat:=by
   have hb':l=Lib.bytesOf (zs.take l.length):=hb.symm
   have:l[i]? =(Lib.bytesOf (zs.take l.length))[i]? :=by rw[←hb']
   simp only[Lib.bytesOf,List.getElem?_map,List.getElem?_take,if_pos hi,List.getElem?_eq_getElem hi,List.getElem?_eq_getElem hzi,Option.map_some,Option.some.injEq] at this
   exact this
  rw[e,List.getD,List.getElem?_eq_getElem hzi]
  simp only[Option.getD_some,vb]
  rw[UInt8.toNat_ofNat_of_lt' (by show _<256;omega)]
  congr 2;omega
 ·simp[blk] at hk;omega
 ·simp only[ad,Nat.zero_add];exact hf i AL
theorem Ij (w:World) (b o c:Nat) (vs:List Value) (ls:List (List UInt8)) (hP:Lib.PartsAt w ⟨b,o,none⟩ vs ls) (hcap:ls.length≤c) (hl:ls.flatten.length≤1000000000) (hn:ls.length≤1000000000):
 Calls Tryz.prog 190 #[.slice (some ⟨b,o,none⟩) ls.length c, .slice none 0 0] w fun e w'=>∃a cp,e= .returned (.slice a ls.flatten.length cp)∧Mine w.heap.size w' a ls.flatten cp∧Below w.heap.size w w':=by
 match ls,hP,hcap,hl,hn with
 |
  [],hP,hcap,hl,hn=>
  refine(Tryz.bytes_Join_none _ c _ w).mono ?_
  rintro e w' ⟨rfl,rfl⟩
  exact⟨_,_,rfl,⟨⟨Nat.le_refl _,Nat.zero_le _,fun h=>rfl,fun h=>(h rfl).elim,fun i h=>by simp at h⟩,fun g hg=>by simp[blk] at hg;omega,fun i h=>by simp at h⟩,(Below.refl _ _).alloc (Nat.le_refl _) _⟩
 |
  [l],hP,hcap,hl,hn=>
  obtain⟨p,cap,l',hl',hcell,hnone,hby⟩:=hP.get 0 AO
  simp only[List.getElem?_cons_zero,Option.some.injEq] at hl'
  subst hl'
  have hcell0:w.cell? ⟨b,o,none⟩=some (.slice p l.length cap):=by simpa[Addr.add] using hcell
  simp only[List.flatten_cons,List.flatten_nil,List.append_nil] at hl ⊢
  rcases Nat.eq_zero_or_pos l.length with h0 |h0
  ·rw[h0] at hcell0
   refine(Tryz.bytes_Join_one_empty b o c p cap _ w hcell0).mono ?_
   rintro e w' ⟨rfl,rfl⟩
   obtain rfl:l=[]:=List.eq_nil_of_length_eq_zero h0
   exact⟨none,0,rfl,Mine.nil _ _,Below.refl _ _⟩
  ·obtain⟨a0,rfl⟩:∃a0,p=some a0:=by
    cases p with
    | none=>have:=hnone rfl;simp[this] at h0
    | some a0=>exact⟨a0,rfl⟩
   refine(Tryz.bytes_Join_one b o c a0 cap l _ w hcell0 (hby a0 rfl) h0 AL).mono ?_
   rintro e w' ⟨v',rfl,hf,hb⟩
   obtain⟨a,cp,rfl,hm⟩:=kV hf
   exact⟨a,cp,rfl,hm,hb⟩
 |
  x::y::ls,hP,hcap,hl,hn=>
  refine(Tryz.bytes_Join_many b o _ c vs (x::y::ls) (.slice none 0 0) [] w rfl AO hP hcap (dF (Row.nil_ w)) AL (by rw[MK];simp at hl ⊢;omega)).mono ?_
  rintro e w' ⟨v',rfl,hf,hb⟩
  rw[Cm] at hf
  obtain⟨a,cp,rfl,hm⟩:=kV hf
  exact⟨a,cp,rfl,hm,hb⟩
theorem kQ (w:World) (b o c:Nat) (vs:List Value) (ls:List (List UInt8)) (hP:Lib.PartsAt w ⟨b,o,none⟩ vs ls) (hcap:ls.length≤c) (hl:ls.flatten.length≤1000000000) (hn:ls.length≤1000000000):
 Calls Tryz.prog 110 #[.slice (some ⟨b,o,none⟩) ls.length c] w fun e w'=>∃a cp,e= .returned (.slice a ls.flatten.length cp)∧Mine w.heap.size w' a ls.flatten cp∧Below w.heap.size w w':=by
 have hj:=Ij w b o c vs ls hP hcap hl hn
 obtain⟨f,hf⟩:∃f,ls.flatten=f:=⟨_,rfl⟩
 rw[hf] at hj ⊢
 clear hf hl hP hn
 go_enter Tryz.func110,Tryz.ntmps110
 go_wp2_with (go_at_call 190;refine hj.mono ?_;rintro e w' ⟨a,cp,rfl,hm,hb⟩)
 go_ret
 exact⟨a,cp,rfl,hm,hb⟩
theorem oN (W:World) (vs:List Value) (ls:List (List UInt8)) (t:TypeId) (hlen:vs.length=ls.length) (h:∀(i:Nat) v l,vs[i]? =some v→ls[i]? =some l→Lib.HoldsBytes W v l):
 Lib.PartsAt (W.alloc (.cells vs.toArray t)) ⟨W.heap.size,0,none⟩ vs ls:=by
 refine⟨hlen,fun i v hv=> ?_,fun i v l hv hl=> ?_⟩
 ·have ea:(⟨W.heap.size,0,none⟩:Addr).add i=⟨W.heap.size,i,none⟩:=by unfold Addr.add;split<;>simp_all
  rw[ea,World.cell?,heap_alloc_new]
  simpa using hv
 ·obtain⟨p,cap,e,h1,h2⟩:=h i v l hv hl
  refine⟨p,cap,e,h1,fun a ha j x hx=> ?_⟩
  have hc:=h2 a ha j x hx
  have hlt:=World.block_lt_of_cell? W _ hc
  rw[((Below.refl W.heap.size W).alloc (Nat.le_refl _) (.cells vs.toArray t)).cell hlt]
  exact hc
theorem uq (W:World) (t:TypeId) {a1:Option Addr} {l1:List UInt8} {c1:Nat} (r1:Row W a1 l1 c1) (hl:l1.length≤1000000000):
 Calls Tryz.prog 110 #[.slice (some ⟨W.heap.size,0,none⟩) 1 1] (W.alloc (.cells #[.slice a1 l1.length c1] t)) fun e w'=>∃a cp,e= .returned (.slice a l1.length cp)∧Mine W.heap.size w' a l1 cp∧Below W.heap.size W w':=by
 have hP:=oN W [.slice a1 l1.length c1] [l1] t rfl (by
  intro i v l hv hl
  match i with
  | 0=>simp at hv hl;subst hv hl;exact dF r1
  | i+1=>simp at hv)
 refine(kQ _ _ _ 1 _ _ hP AO (by simpa using hl) AO).mono ?_
 rintro e w' ⟨a,cp,rfl,hm,hb⟩
 simp only[List.flatten_cons,List.flatten_nil,List.append_nil] at hm ⊢
 exact⟨a,cp,rfl,hm.low AO,((Below.refl _ _).alloc (Nat.le_refl _) _).trans (hb.mono AO)⟩
theorem tY (W:World) (t:TypeId) {a1 a2:Option Addr} {l1 l2:List UInt8} {c1 c2:Nat} (r1:Row W a1 l1 c1) (r2:Row W a2 l2 c2) (hl:l1.length≤300000000) (hl2:l2.length≤300000000):
 Calls Tryz.prog 110 #[.slice (some ⟨W.heap.size,0,none⟩) 2 2] (W.alloc (.cells #[.slice a1 l1.length c1, .slice a2 l2.length c2] t)) fun e w'=>∃a cp,e= .returned (.slice a (l1++l2).length cp)∧Mine W.heap.size w' a (l1++l2) cp∧Below W.heap.size W w':=by
 have hP:=oN W [.slice a1 l1.length c1, .slice a2 l2.length c2] [l1,l2] t rfl (by
  intro i v l hv hl
  match i with
  | 0=>simp at hv hl;subst hv hl;exact dF r1
  | 1=>simp at hv hl;subst hv hl;exact dF r2
  | i+2=>simp at hv)
 refine(kQ _ _ _ 2 _ _ hP AO (by simp;omega) AO).mono ?_
 rintro e w' ⟨a,cp,rfl,hm,hb⟩
 simp only[List.flatten_cons,List.flatten_nil,List.append_nil] at hm ⊢
 exact⟨a,cp,rfl,hm.low AO,((Below.refl _ _).alloc (Nat.le_refl _) _).trans (hb.mono AO)⟩
end Go.Proofs.YtlholdllibghbaaGreat
namespace Go.Cit
def dv:Nat→UInt64→UInt64
 | 0,x=>x
 | k+1,x=>Px (dv k x) (qI 256)
def rowB (x:UInt64):Nat→List UInt8
 | 0=> []
 | k+1=>sN (dv k x)::rowB x k
theorem aB (x:UInt64):∀n,(rowB x n).length=n
 | 0=>rfl
 | n+1=>by rw[rowB,List.length_cons,aB x n]
def dS (l:List UInt8):UInt64:=l.foldl (fun x d=>OB (jV (qI 256) x) (NG d)) (qI 0)
def rJ (s:UInt64×UInt64) (d:UInt8):UInt64×UInt64:=(OB s.1 (jV s.2 (NG d)),jV s.2 (qI 256))
def zQ (l:List UInt8):UInt64×UInt64:=l.reverse.foldl rJ (qI 0,qI 1)
theorem OI (x:UInt64):sN (Nu x (qI 256))=sN x:=by
 apply UInt8.toNat_inj.1
 unfold sN Nu
 rw[UInt64.toNat_toUInt8,UInt64.toNat_toUInt8,UInt64.toNat_mod]
 exact Nat.mod_mod _ _
theorem Du (d:UInt8) (l:List UInt8):zQ (d::l)=rJ (zQ l) d:=by
 unfold zQ;rw[List.reverse_cons,List.foldl_append];rfl
def Ac:Nat→UInt64
 | 0=>1
 | n+1=>Ac n*256
theorem GX:∀l:List UInt8,(zQ l).2=Ac l.length
 | []=>rfl
 | d::l=>by rw[Du];show jV (zQ l).2 (qI 256)=_;rw[GX l];rfl
def vF (x:UInt64) (d:UInt8):UInt64:=OB (jV (qI 256) x) (NG d)
theorem tV:∀(l:List UInt8) (x:UInt64),l.foldl vF x=x*Ac l.length+l.foldl vF 0
 | [],x=>by show x=x*1+0;simp
 |
  d::l,x=>by
  rw[List.foldl_cons,List.foldl_cons,tV l (vF x d),tV l (vF 0 d)]
  show(256*x+d.toUInt64)*Ac l.length+_=x*(Ac l.length*256)+((256*0+d.toUInt64)*Ac l.length+_)
  rw[←UInt64.add_assoc]
  congr 1
  rw[UInt64.mul_zero,UInt64.zero_add,UInt64.add_mul]
  congr 1
  rw[UInt64.mul_comm 256 x,UInt64.mul_assoc,UInt64.mul_comm 256]
theorem KC:∀l:List UInt8,(zQ l).1=dS l
 | []=>rfl
 |
  d::l=>by
  rw[Du]
  show(zQ l).1+(zQ l).2*d.toUInt64=_
  rw[KC l,GX l]
  show dS l+Ac l.length*d.toUInt64=List.foldl vF (256*0+d.toUInt64) l
  rw[tV l,UInt64.mul_zero,UInt64.zero_add,UInt64.add_comm,UInt64.mul_comm]
  rfl
end Go.Cit
namespace Go.Proofs.YtlholdllibghbaaGreat
open Go Go.RowKit Go.Cit
theorem JE (x:UInt64) (n k:Nat) (h:k<n):(List.replicate (n-k) 0++rowB x k).set (n-k-1) (sN (dv k x))=List.replicate (n-(k+1)) 0++rowB x (k+1):=by
 obtain⟨m,hm⟩:∃m,n-k=m+1:=⟨n-k-1,by omega⟩
 rw[hm,show n-(k+1)=m from by omega,Nat.add_sub_cancel,List.replicate_succ',List.append_assoc,List.set_append_right _ _ AO]
 simp[rowB]
theorem DC (w:World) (x:UInt64) (n:Nat) (h1:1≤n) (h8:n≤8):
 Calls Tryz.prog 221 #[vq x, .int .i64 n] w fun e w'=>∃a c,e= .returned (.slice a n c)∧Own 5 w.heap.size w' a (rowB x n) c∧Below w.heap.size w w':=by
 have t1:decide ((n:Int)<1)=false:=by simp;omega
 have t2:decide (8<(n:Int))=false:=by simp;omega
 go_enter Tryz.func221,Tryz.ntmps221
 go_wp2_with (refine BU bt (.tmp 12) (.tmp 12) rfl rfl n .i64 .i64 rfl rfl rfl AL ?_;intro w1 hown hgr hsz)
 go_loopw [0,1] (fun y i wr=>∃(k:Nat) (l:List UInt8),Hid (l=List.replicate (n-k) 0++rowB x k)∧Hid (l.length=n)∧k≤n∧i= .int .i64 ((n:Int)-k-1)∧y=vq (dv k x)∧Own 5 w.heap.size wr (some ⟨w.heap.size,0,none⟩) l n∧Below w.heap.size w wr) (fun _ i _=>(intOf i+1).toNat)
 case atStart=>exact⟨0,List.replicate n 0,by simp[Hid,rowB],by simp[Hid],Nat.zero_le _,by go_num,rfl,hown,grown_below hgr (Nat.le_refl _) AO⟩
 case round=>
  clear hown hgr hsz
  obtain⟨k,l,HX,HL,hk,rfl,rfl,hown,hb⟩:=hrel
  by_cases hlt:k<n
  ·have hi:n-k-1<l.length:=by rw[HL.o];omega
   have i0:=hown.isRow.index bt.slice bt.sz (n-k-1) hi
   have e0:=hown.isRow.cell (n-k-1) hi
   have f0:=hown.frozen (n-k-1) hi
   have ei:((n:Int)-k-1)=((n-k-1:Nat):Int):=by omega
   rw[HL.o,←ei] at i0
   have hst:=hown.stored (n-k-1) hi (sN (dv k x))
   clear ei
   have HST:=AQ hst
   clear hst
   go_wp2
   go_roundw
   case rel=>
    exact⟨k+1,l.set (n-k-1) (sN (dv k x)),by rw[Hid,HX.o];exact JE x n k hlt,by rw[Hid,List.length_set];exact HL.o,by omega,by go_num,rfl,HST.o.1,hb.grown HST.o.2 hb.size (fun j hj=>(hown.aK hj).1)⟩
   case measure=>simp[intOf];omega
  ·have hk2:k=n:=by omega
   subst hk2
   have HX2:Hid (l=rowB x k):=by rw[Hid,HX.o];simp
   clear HX
   go_wp2
   go_ret
   refine⟨_,_,rfl, ?_,hb⟩
   rw[←HX2.o];exact hown
theorem lY (w:World) (x:UInt64) (n:Nat) (h8:n≤8):
 Calls Tryz.prog 200 #[vq x, .int .i64 n] w fun e w'=>∃a c,e= .returned (.slice a n c)∧Own 5 w.heap.size w' a (rowB x n) c∧Below w.heap.size w w':=by
 go_enter Tryz.func200,Tryz.ntmps200
 go_wp2
 go_loopw [0,5,6] (fun y t i wr=>∃(k:Nat) (a:Option Addr) (c:Nat) (l:List UInt8),Hid (l=(rowB x k).reverse)∧Hid (l.length=k)∧k≤n∧i= .int .i64 k∧y=vq (dv k x)∧t= .slice a l.length c∧Own 5 w.heap.size wr a l c∧Below w.heap.size w wr) (fun _ _ i _=>n-(intOf i).toNat)
 case atStart=>exact⟨0,none,0,[],rfl,rfl,Nat.zero_le _,rfl,rfl,rfl,Own.nil _ _ _,Below.refl _ _⟩
 case round=>
  obtain⟨k,a,c,l,HX,HL,hk,rfl,rfl,rfl,hown,hb⟩:=hrel
  have hs:=hb.size
  have hl9:l.length≤1000000000:=by rw[HL.o];omega
  by_cases hlt:k<n
  ·go_wp2_with (at_builtin;refine iU bt (.tmp 14) (.tmp 18) rfl rfl hown hl9 hs rfl rfl ?_;intro a' c' w' hown' hgr)
   go_roundw
   case rel=>exact⟨k+1,a',c',l++ [sN (Nu (dv k x) (qI 256))],by rw[Hid,HX.o,OI,rowB,List.reverse_cons],by rw[Hid,List.length_append,HL.o];rfl,by omega,by go_num,rfl,by simp,hown',hb.grown hgr hs (fun j hj=>(hown.aK hj).1)⟩
   case measure=>simp[intOf];omega
  ·have hk2:k=n:=by omega
   subst hk2
   have hlk:l.length≤8:=by rw[HL.o];omega
   go_wp2
   go_loopw [7,8] (fun t i wx=>∃(j:Nat) (a2:Option Addr) (c2:Nat) (m:List UInt8),Hid (m=(rowB x k).take j)∧Hid (m.length=j)∧j≤l.length∧i= .int .i64 ((l.length:Int)-1-j)∧t= .slice a2 m.length c2∧Own 5 wr.heap.size wx a2 m c2∧Below wr.heap.size wr wx) (fun _ i _=>(intOf i+1).toNat)
   case atStart=>exact⟨0,none,0,[],rfl,rfl,Nat.zero_le _,by go_num,rfl,Own.nil _ _ _,Below.refl _ _⟩
   case round=>
    obtain⟨j,a2,c2,m,HM,HN,hj,rfl,rfl,hown2,hb2⟩:=hrel
    have hs2:=hb2.size
    have r1:=hown.isRow.stay hb2
    have hm9:m.length≤1000000000:=by rw[HN.o];omega
    by_cases hlt2:j<l.length
    ·have hi:l.length-1-j<l.length:=by omega
     have i0:=r1.index bt.slice bt.sz (l.length-1-j) hi
     have e0:=r1.cell (l.length-1-j) hi
     have ei:((l.length:Int)-1-j)=((l.length-1-j:Nat):Int):=by omega
     rw[←ei] at i0
     clear ei
     obtain⟨b,hbb⟩:∃b,l[l.length-1-j]=b:=⟨_,rfl⟩
     rw[hbb] at e0
     have HB:Hid ((rowB x k).take j++ [b]=(rowB x k).take (j+1)):=by
      have hjr:j<(rowB x k).length:=by rw[aB];have:=HL.o;omega
      rw[Hid,←take_snoc _ j hjr,←hbb]
      congr 2
      have:=HX.o
      subst this
      rw[List.getElem_reverse]
      congr 1
      simp at hlt2 ⊢
      omega
     clear hbb
     go_wp2_with (at_builtin;refine iU bt (.tmp 29) (.tmp 34) rfl rfl hown2 hm9 hs2 rfl rfl ?_;intro a' c' w' hown' hgr)
     go_roundw
     case rel=>exact⟨j+1,a',c',m++ [b],by rw[Hid,HM.o];exact HB.o,by rw[Hid,List.length_append,HN.o];rfl,by omega,by go_num,by simp,hown',hb2.grown hgr hs2 (fun j hj=>(hown2.aK hj).1)⟩
     case measure=>simp[intOf];omega
    ·have hj2:j=l.length:=by omega
     have HM2:Hid (m=rowB x k):=by rw[Hid,HM.o,hj2,HL.o];exact List.take_of_length_le (by rw[aB];exact Nat.le_refl _)
     have HN2:Hid (m.length=k):=by rw[Hid,HN.o,hj2,HL.o]
     clear HM HN hj2
     go_wp2
     go_ret
     refine⟨a2,c2,by rw[←HN2.o];rfl, ?_,hb.trans (hb2.mono hs)⟩
     rw[←HM2.o];exact hown2.low hs
end Go.Proofs.YtlholdllibghbaaGreat
