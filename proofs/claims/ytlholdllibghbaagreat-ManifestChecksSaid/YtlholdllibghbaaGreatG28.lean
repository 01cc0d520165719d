/- Texts of the proof, one behind the other: Ints, Spare, RefForm, RowsOwn. No condition but those that each names. -/
import Derived.Test.YtlholdllibghbaaGreatG27
import Derived.Lib.ConvBytes
import Derived.Deep.AppendSrc
import Derived.Deep.MidRow
import Derived.Deep.Upon
import Derived.Test.YtlholdllibghbaaGreatG01
import Derived.Test.YtlholdllibghbaaGreatG23
import Derived.Test.YtlholdllibghbaaGreatG02
import Derived.Test.YtlholdllibghbaaGreatKit
set_option maxRecDepth 100000
set_option maxHeartbeats 8000000
namespace Go.Proofs.YtlholdllibghbaaGreat
open Go Go.RowKit Go.Cit
structure Ints (w:World) (a:Option Addr) (zs:List Int) (cap:Nat):Prop where
 le:zs.length≤cap
 top:cap≤maxLen
 spot:zs≠ []→∃b off,a=some ⟨b,off,none⟩
 cell:∀i (h:i<zs.length),w.cell? (ad a i)=some (.int .i64 zs[i])
 rng:∀i (h:i<zs.length), -9223372036854775808≤zs[i]∧zs[i]≤9223372036854775807
theorem Ints.bU {w a zs cap} (h:Ints w a zs cap):zs.length≤9223372036854775807:=by
 have h1:=h.le;have h2:=h.top;unfold maxLen at h2;omega
theorem Ints.stay {w w':World} {a zs cap} (h:Ints w a zs cap) (hb:Below w.heap.size w w'):Ints w' a zs cap:=
 ⟨h.le,h.top,h.spot,fun i hi=>(hb.cell (World.block_lt_of_cell? w _ (h.cell i hi))).trans (h.cell i hi),h.rng⟩
theorem Yr:∀w,(sizeOf 3).run Tryz.prog w= .ok 1 w:=by intro w;kernel_rfl
theorem Ints.index {w a zs cap} (h:Ints w a zs cap) (i:Nat) (hi:i<zs.length):
 ∀w,(Instr.indexAt 199 (.slice a zs.length cap) (.int .i64 (i:Int))).run Tryz.prog w= .ok (.pointer (some (ad a i))) w:=by
 intro w
 obtain⟨b,off,rfl⟩:=h.spot (by intro h0;simp[h0] at hi)
 have hT:Tryz.prog.underlying 199=some (.slice 3):=Tryz.underlying199
 have he:Tryz.prog.elem 199=3:=by simp[Program.elem,hT]
 rw[run_indexAt_slice w _ _ _ _ _ _ (by rw[he];exact hT),if_pos AL,he,Yr]
 simp only[Result.andThen,ad,Addr.add]
 by_cases h0:i=0
 ·subst h0;simp
 ·simp[h0]
theorem vW (w:World) (l:List UInt8) (hl:l.length≤1000000000):∃c w',(convert 9 40 (.string ⟨l.toArray⟩)).run Tryz.prog w= .ok (.slice (some ⟨w.heap.size,0,none⟩) l.length c) w'∧Row w' (some ⟨w.heap.size,0,none⟩) l c∧Below w.heap.size w w':=by
 have hr:=Lib.run_convert_string_bytes (P:=Tryz.prog) w 9 40 5 ⟨l.toArray⟩ Tryz.underlying9 Tryz.underlying40 Tryz.underlying5
 have hz:(⟨l.toArray⟩:ByteArray).size=l.length:=by simp[ByteArray.size]
 refine⟨_,_,by rw[hz] at hr;exact hr,⟨by rw[←hz];exact grownCap_ge _ _ _ _,grownCap_le_maxLen _ _ _ _ (by unfold maxLen;omega),fun h=>by simp at h,fun _=>⟨_,_,rfl⟩,fun i hi=> ?_⟩,⟨?_, ?_, ?_, ?_,fun k hk=>Lib.bytesWorld_at_old w _ _ k hk⟩⟩
 ·simp only[ad,Nat.zero_add]
  rw[Lib.bytesWorld_cell w _ _ i (by rw[hz];exact hi)]
  simp[List.getD,hi]
 ·unfold Lib.bytesWorld World.freeze;split<;>rfl
 ·unfold Lib.bytesWorld World.freeze;split<;>rfl
 ·unfold Lib.bytesWorld World.freeze;split<;>rfl
 ·rw[Lib.bytesWorld_size];omega
end Go.Proofs.YtlholdllibghbaaGreat
namespace Go.Cit
open Go Go.RowKit
structure tX (B:Nat) (w:World) (a:Option Addr) (l:List UInt8) (cap:Nat):Prop where
 row:Row w a l cap
 spot:∃g,a=some ⟨g,0,none⟩∧B≤g∧w.there g 0 cap
theorem vO (b:Nat):∀(vs:List Value) (o:Nat) (w:World),(w.setCells b o vs).tape=w.tape
 | [],_,_=>rfl
 | v::r,o,w=>by rw[World.setCells,vO b r];rfl
theorem size_setCells (b:Nat):∀(vs:List Value) (o:Nat) (w:World),(w.setCells b o vs).heap.size=w.heap.size
 | [],_,_=>rfl
 | v::r,o,w=>by rw[World.setCells,size_setCells b r];simp[World.setCell]
section
variable {P:Program} {T E:TypeId}
theorem zO (hBT:iD P T E) {w:World} {ops:Array Oper} {rest:List Oper} {o:Oper} {act:Act} {Q:Exit→Act→World→Prop} (s x:Operand) (hgd:o.guard=none)
 (ho:o.op= .call {callee:= .builtin .append,args:= #[s,x],argTypes:= #[T,T]}) {B:Nat}
 {a b:Option Addr} {l m:List UInt8} {cap c:Nat} (hown:tX B w a l cap) (hm:Row w b m c) (hne:m≠ []) (hlen:l.length+m.length≤1000000000) (hbase:B≤w.heap.size)
 (hs:act.eval s= .slice a l.length cap) (hx:act.eval x= .slice b m.length c)
 (h:∀a' cap' w',tX B w' a' (l++m) cap'→Below B w w'→wpList P ops Q rest (act.put o.dst (.slice a' (l++m).length cap')) w'):wpList P ops Q (o::rest) act w:=by
 obtain⟨i,hi,hz0,hz1,hz2⟩:=info_parts hBT.info
 obtain⟨g,rfl,hg,hth⟩:=hown.spot
 obtain⟨g2,off,rfl⟩:=hm.spot hne
 have hsrc:Src P i.size T (.slice (some ⟨g2,off,none⟩) m.length c) m.length (m.map vb) w:=by
  rw[hz1]
  exact Src.ofSlice w hBT.slice ⟨g2,off,none⟩ m.length c (m.map vb) AO (tV hm) (by intro u hu;obtain⟨y,_,rfl⟩:=List.mem_map.1 hu;rfl)
 have hgs:g<w.heap.size∨cap=0:=by
  rcases Nat.eq_zero_or_pos cap with h0 |h0
  ·exact .inr h0
  ·exact .inl (by obtain⟨v,hv⟩:=Option.isSome_iff_exists.1 (hth 0 h0).1;exact World.block_lt_of_cell? w _ hv)
 by_cases hroom:l.length+m.length≤cap
 ·have hr:=run_append_room_src (P:=P) w T T o.type E i hBT.slice hi g 0 l.length cap (.slice (some ⟨g2,off,none⟩) m.length c) m.length (m.map vb) hsrc hroom
   (fun j hj=>by rw[hz1,Nat.mul_one];have:=(hth (l.length+j) (by simp at hj;omega)).1;simpa using this)
   (fun j hj=>by rw[hz1,Nat.mul_one];have:=(hth (l.length+j) (by simp at hj;omega)).2;simpa using this)
  rw[hz1,Nat.mul_one,Nat.zero_add,←List.length_append] at hr
  refine aj hgd (by unfold execOp;simp only[ho,resolve,invoke,builtin,Sem.run_bind,Sem.run_pure,Result.andThen_ok,List.map_toArray,List.map_cons,List.map_nil,hs,hx,hr];rfl) (h _ _ _ ⟨⟨by rw[List.length_append];exact hroom,hown.row.top,fun h=>by simp at h,fun _=>⟨_,_,rfl⟩,fun j hj=> ?_⟩,g,rfl,hg,World.there_setCells hth _ _ _⟩ ?_)
  ·rw[nV]
   have hthm:∀k,k<(m.map vb).length→(w.cell? ⟨g,l.length+k,none⟩).isSome=true:=fun k hk=>by
    have:=(hth (l.length+k) (by simp at hk;omega)).1;simpa using this
   by_cases hjl:j<l.length
   ·rw[World.cell?_setCells_out g _ _ _ _ (fun _ _=> .inl hjl),List.getElem_append_left hjl]
    have:=hown.row.cell j hjl
    rwa[nV] at this
   ·have hj2:j-l.length<m.length:=by rw[List.length_append] at hj;omega
    have:=World.cell?_setCells_in g (m.map vb) l.length w hthm (j-l.length) (by simpa using hj2)
    rw[show l.length+(j-l.length)=j by omega] at this
    rw[this,List.getElem_append_right AL]
    simp
  ·exact⟨World.os_setCells _ _ _ _,vO _ _ _ _,World.output_setCells _ _ _ _,by rw[size_setCells];exact Nat.le_refl _,fun k hk=>World.heap_setCells_other w g _ _ AL AL⟩
 ·have hold:(Builtin.firstCells i.size l.length (.slice (some ⟨g,0,none⟩) l.length cap)).run P w.drew= .ok (l.map vb).toArray w.drew:=by
   rw[hz1]
   exact run_firstCells_some w.drew 1 l.length ⟨g,0,none⟩ l.length cap (l.map vb) AO (tV hown.row.drew)
  have hr:=run_append_grow_src (P:=P) w T T o.type E i (.int .u8 0) hBT.slice hi hz0 (some ⟨g,0,none⟩) l.length cap (l.map vb) hold (.slice (some ⟨g2,off,none⟩) m.length c) m.length (m.map vb) hsrc AL AL (by have:=nextslicecap_le (need:=l.length+m.length) (old:=cap) AL;rw[hz2];omega)
  rw[←List.length_append] at hr
  refine aj hgd (by unfold execOp;simp only[ho,resolve,invoke,builtin,Sem.run_bind,Sem.run_pure,Result.andThen_ok,List.map_toArray,List.map_cons,List.map_nil,hs,hx,hr];rfl) (h _ _ _ ⟨⟨grownCap_ge _ _ _ _,grownCap_le_maxLen _ _ _ _ (by rw[List.length_append];unfold maxLen;omega),fun h=>by simp at h,fun _=>⟨_,_,rfl⟩,fun j hj=> ?_⟩,w.heap.size,rfl,hbase,fun j hj=> ?_⟩ ?_)
  ·rw[nV]
   have hz:=heap_alloc_new w.drew (.cells (((l.map vb)++(m.map vb)).toArray++Builtin.zeroCells (Value.int .u8 0).cells (grownCap w (l++m).length cap E-(l++m).length)) E)
   rw[World.cell?,show w.heap.size=w.drew.heap.size from rfl,hz]
   have hj3:j<l.length+m.length:=by simpa using hj
   simp only[Array.getElem?_append,List.size_toArray,List.length_append,List.length_map,if_pos hj3,List.getElem?_toArray]
   rw[←List.map_append,List.getElem?_map,List.getElem?_eq_getElem hj];rfl
  ·have hz:=heap_alloc_new w.drew (.cells (((l.map vb)++(m.map vb)).toArray++Builtin.zeroCells (Value.int .u8 0).cells (grownCap w (l++m).length cap E-(l++m).length)) E)
   rw[World.cell?,World.frozen?,Nat.zero_add,show w.heap.size=w.drew.heap.size from rfl,hz]
   refine⟨?_,by simp⟩
   have hge:=grownCap_ge w (l++m).length cap E
   have hsz:(((l.map vb)++(m.map vb)).toArray++Builtin.zeroCells (Value.int .u8 0).cells (grownCap w (l++m).length cap E-(l++m).length)).size=grownCap w (l++m).length cap E:=by
    simp only[Array.size_append,List.size_toArray,size_zeroCells,List.length_append,List.length_map] at hge ⊢
    show _+_*1=_
    omega
   simp only[Option.isSome_iff_exists]
   exact⟨_,Array.getElem?_eq_getElem (by rw[hsz];exact hj)⟩
  ·exact((Below.refl _ _).drew).trans ((Below.refl _ w.drew).alloc hbase _)
end
end Go.Cit
namespace Go.Cit
open Go Go.RowKit
theorem tX.stay {B:Nat} {w w':World} {a:Option Addr} {l:List UInt8} {cap:Nat} (h:tX B w a l cap) (hb:Below w.heap.size w w'):tX B w' a l cap:=by
 obtain⟨g,rfl,hg,hth⟩:=h.spot
 refine⟨h.row.stay hb,g,rfl,hg,fun j hj=> ?_⟩
 obtain⟨h1,h2⟩:=hth j hj
 obtain⟨v,hv⟩:=Option.isSome_iff_exists.1 h1
 have hk:=World.block_lt_of_cell? w _ hv
 exact⟨by rw[hb.cell hk];exact h1,by rw[hb.frozen hk];exact h2⟩
theorem tX.mono {B B':Nat} {w:World} {a:Option Addr} {l:List UInt8} {cap:Nat} (h:tX B w a l cap) (hB:B'≤B):tX B' w a l cap:=by
 obtain⟨g,rfl,hg,hth⟩:=h.spot
 exact⟨h.row,g,rfl,Nat.le_trans hB hg,hth⟩
end Go.Cit
namespace Go.Proofs.YtlholdllibghbaaGreat
open Go Go.RowKit Go.Cit
def IE (z:Int):UInt64:=UInt64.ofNat (z%18446744073709551616).toNat
theorem Qb (z:Int):IntKind.u64.wrap z=((IE z).toNat:Int):=by
 unfold IE
 have h1:IntKind.u64.wrap z=z%18446744073709551616:=by simp[IntKind.wrap,IntKind.signed,IntKind.bits]
 rw[h1]
 have h2:(z%18446744073709551616).toNat<18446744073709551616:=by omega
 have h3:(UInt64.ofNat (z%18446744073709551616).toNat).toNat=(z%18446744073709551616).toNat:=by simp;omega
 rw[h3]
 omega
def kN (s:List UInt8) (zs:List Int):List UInt8:=s++ [0]++(zs.map fun z=>rowB (IE z) 8).flatten
theorem KC (s:List UInt8) (zs:List Int) (k:Nat) (h:k<zs.length):kN s (zs.take (k+1))=kN s (zs.take k)++rowB (IE zs[k]) 8:=by
 unfold kN
 rw[←take_snoc zs k h,List.map_append,List.flatten_append]
 simp
theorem Gp (w:World) (l:List UInt8) (hl:l.length≤1000000000):∃c w',(convert 9 40 (.string ⟨l.toArray⟩)).run Tryz.prog w= .ok (.slice (some ⟨w.heap.size,0,none⟩) l.length c) w'∧tX w.heap.size w' (some ⟨w.heap.size,0,none⟩) l c∧Below w.heap.size w w':=by
 have hr:=Lib.run_convert_string_bytes (P:=Tryz.prog) w 9 40 5 ⟨l.toArray⟩ Tryz.underlying9 Tryz.underlying40 Tryz.underlying5
 obtain⟨c2,w2,hr2,hrow,hb⟩:=vW w l hl
 have hz:(⟨l.toArray⟩:ByteArray).size=l.length:=by simp[ByteArray.size]
 have he:=hr.symm.trans hr2
 simp only[Result.ok.injEq,Value.slice.injEq] at he
 obtain⟨⟨-, -,rfl⟩,rfl⟩:=he
 refine⟨_,_,hr2,⟨hrow,_,rfl,Nat.le_refl _,fun j hj=> ?_⟩,hb⟩
 have hge:l.length≤grownCap w l.length 0 5:=grownCap_ge _ _ _ _
 have hsz:(Lib.bytesCells w 5 ⟨l.toArray⟩).size=grownCap w (⟨l.toArray⟩:ByteArray).size 0 5:=by
  unfold Lib.bytesCells
  simp[ByteArray.size] at hge ⊢
  omega
 rw[Nat.zero_add,World.cell?,World.frozen?,Lib.bytesWorld_at_new]
 refine⟨?_, ?_⟩
 ·simp only[Option.isSome_iff_exists]
  exact⟨_,Array.getElem?_eq_getElem (by rw[hsz];exact hj)⟩
 ·simp only[hsz,decide_eq_false_iff_not,Bool.and_eq_false_iff]
  left;omega
theorem JV (w:World) (s:List UInt8) (hs9:s.length≤1000) (a:Option Addr) (zs:List Int) (c:Nat) (h:Ints w a zs c) (hz9:zs.length≤1000):
 Calls Tryz.prog 154 #[.string ⟨s.toArray⟩, .slice a zs.length c] w fun e w'=>∃a' c',e= .returned (.slice a' (kN s zs).length c')∧Row w' a' (kN s zs) c'∧Below w.heap.size w w':=by
 have HSP:=AQ (Gp w s AL)
 have HZ:=AQ h
 obtain⟨n,hn⟩:=AU zs.length
 rw[←hn.o]
 have hn9:n≤1000:=by rw[hn.o];exact hz9
 clear h
 obtain⟨c1,w1,hr1,hS1,hb1⟩:=HSP.o
 have HS1:=AQ hS1
 have HB1:=AQ hb1
 clear hS1 hb1 HSP
 go_enter Tryz.func154,Tryz.ntmps154
 have hl9:s.length≤1000:=hs9
 have HLT:Hid (Row (w1.alloc (.cells #[.int .u8 0] 5)) (some ⟨w1.heap.size,0,none⟩) [0] 1):=AQ (mJ w1 #[.int .u8 0] 5 [0] (by rfl) AO).isRow
 have HBL:Hid (Below w1.heap.size w1 (w1.alloc (.cells #[.int .u8 0] 5))):=(Below.refl _ _).alloc (Nat.le_refl _) _
 have HSL:=AQ (HS1.o.stay HBL.o)
 have HSZ:=AQ (HB1.o.size)
 obtain⟨l0,hl0⟩:∃l0,Hid (l0=s++ [0]):=⟨s++ [0],rfl⟩
 go_wp2_with (first
  | ((with_reducible refine zO bt (o:=⟨some 10, .call _,_,_,_,_⟩) (.tmp 8) (.tmp 9) AA AA HSL.o HLT.o AO (by simp;omega) (Nat.le_trans HSZ.o HBL.o.size) AA AA ?_);intro a2 c2 w2 hO2 hb2;rw[←hl0.o] at hO2 ⊢;have HO2:=AQ hO2;have HB2:=AQ (HB1.o.trans ((HBL.o.mono HSZ.o).trans hb2));clear hO2 hb2))
 have HLA:Hid (l0.length=s.length+1+8*0):=by rw[Hid,hl0.o];simp
 go_loopw [5,6] (fun t i wr=>∃(k:Nat) (a':Option Addr) (c':Nat) (l:List UInt8),Hid (l=kN s (zs.take k))∧Hid (l.length=s.length+1+8*k)∧k≤n∧i= .int .i64 k∧t= .slice a' l.length c'∧Hid (tX w.heap.size wr a' l c')∧Hid (Below w.heap.size w wr)) (fun _ i _=>n-(intOf i).toNat)
 case atStart=>exact⟨0,a2,c2,l0,by rw[Hid,hl0.o];simp[kN],HLA,Nat.zero_le _,rfl,rfl,HO2,HB2⟩
 case round=>
  obtain⟨k,a',c',l,HX,HL,hk,rfl,rfl,HO,HB⟩:=hrel
  by_cases hlt:k<n
  ·have hkz:k<zs.length:=by rw[←hn.o];exact hlt
   have hZ:=HZ.o.stay HB.o
   have i0:=hZ.index k hkz
   have e0:=hZ.cell k hkz
   rw[←hn.o] at i0
   obtain⟨z,hz⟩:∃z,Hid (z=zs[k]):=⟨zs[k],rfl⟩
   rw[←hz.o] at e0
   clear hZ
   go_wp2_with fail
   have hc:=lg wr (IE z) 8 AP
   rw[Qb z]
   refine Calls.mono hc ?_
   rintro e w4 ⟨a4,c4,rfl,hO4,hb4⟩
   have hbs:=HB.o.size
   have HO4:Hid (Row w4 a4 (rowB (IE z) 8) c4):=hO4.isRow
   have HOs:=AQ (HO.o.stay hb4)
   have HB4:=AQ (HB.o.trans (hb4.mono hbs))
   have HR8:=AQ (aG (IE z) 8)
   have HNX:Hid (l++rowB (IE z) 8=kN s (zs.take (k+1))):=by rw[Hid,KC s zs k hkz,HX.o,hz.o]
   have hl9':l.length≤100000:=by rw[HL.o];omega
   have HL8:Hid ((l++rowB (IE z) 8).length=s.length+1+8*(k+1)):=by rw[Hid,List.length_append,HR8.o,HL.o];omega
   clear hO4 hb4 hbs hc
   generalize rowB (IE z) 8=R at HO4 HR8 HNX HL8
   have hR0:R≠ []:=by intro h0;have:=HR8.o;rw[h0] at this;simp at this
   obtain⟨l2,hl2⟩:∃l2,Hid (l2=l++R):=⟨l++R,rfl⟩
   rw[←hl2.o] at HNX HL8
   go_wp2_with (first
    | ((with_reducible refine zO bt (o:=⟨some 24, .call _,_,_,_,_⟩) (.tmp 17) (.tmp 23) AA AA HOs.o HO4.o hR0 (by rw[HR8.o];omega) HB4.o.size AA (by rw[HR8.o];with_unfolding_all rfl) ?_);intro a5 c5 w5 hO5 hb5;rw[←hl2.o] at hO5 ⊢;have HO5:=AQ hO5;have HB5:=AQ (HB4.o.trans hb5);clear hO5 hb5))
   go_roundw
   case rel=>exact⟨k+1,a5,c5,l2,HNX,HL8,by omega,by go_num,rfl,HO5,HB5⟩
   case measure=>simp[intOf];omega
  ·have hk2:k=n:=by omega
   subst hk2
   have HF:Hid (l=kN s zs):=by rw[Hid,HX.o,hn.o,List.take_length]
   go_wp2
   go_ret
   obtain rfl:=HF.o
   exact⟨a',c',rfl,HO.o.row,HB.o⟩
open Go Go.RowKit Go.Cit
@[reducible] def sf (d:Sl UInt8):List Value:=[sv d]
theorem KL:∀d,(sf d).length=1:=fun _=>rfl
theorem Uj:∀d,∀u∈sf d,u.oneCell'=true:=by
 intro d u hu;obtain rfl:u=sv d:=by simpa using hu
 rfl
@[reducible] def Xx:Sl UInt8:=⟨none,0,[]⟩
theorem TT:dA Tryz.prog 49 40 1 24 (sv Xx):=⟨Tryz.underlying49,Nj,TW,rfl,by decide,by decide⟩
theorem Rows.vec {w:World} {a:Option Addr} {ds:List (Sl UInt8)} {c:Nat} (h:Rows w a ds c):Vec sf 1 w a ds c:=Vec.Vs (v:=sv) h.le h.top h.nil h.spot h.cell
end Go.Proofs.YtlholdllibghbaaGreat
