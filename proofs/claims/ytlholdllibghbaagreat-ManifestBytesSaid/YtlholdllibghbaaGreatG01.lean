/- Texts of the proof, one behind the other: Vec, Typed, Ty, Bridge. No condition but those that each names. -/
import Derived.Test.YtlholdllibghbaaGreatG00
import Derived.Great.BuildSlice
import Derived.Great.FillDense
import Derived.Orders
import Derived.OpenShut
import Derived.Test.YtlholdllibghbaaGreatKit
namespace Go.Cit
open Go Go.RowKit
structure bT (P:Program) (T E:TypeId) (n by_:Nat) (z:Value):Prop where
 slice:P.underlying T=some (.slice E)
 info:(P.info? E).map (fun i=>(i.zero,i.size,i.bytes))=some (some z,n,by_)
 sz:∀w,(sizeOf E).run P w= .ok n w
 zs:z.cells.size=n
 pos:0<n
 few:by_≤10000
structure Vec {α:Type} (f:α→List Value) (n:Nat) (w:World) (a:Option Addr) (l:List α) (cap:Nat):Prop where
 le:l.length≤cap
 top:cap≤maxLen
 nil:a=none→cap=0
 spot:l≠ []→∃b off,a=some ⟨b,off,none⟩
 cell:∀i (h:i<l.length) j,j<n→w.cell? (ad a (i*n+j))=(f l[i])[j]?
structure aS {α:Type} (f:α→List Value) (n:Nat) (E:TypeId) (B:Nat) (w:World) (a:Option Addr) (l:List α) (cap:Nat):Prop where
 row:w.ownsRow B E n (.slice a l.length cap) l.length (l.flatMap f)
section
variable {α:Type} {f:α→List Value} {n:Nat}
theorem Vec.nil_ (w:World):Vec f n w none [] 0:=⟨Nat.le_refl _,Nat.zero_le _,fun _=>rfl,fun h=>(h rfl).elim,fun i h=>by simp at h⟩
theorem Vec.bK {w a cap} {l:List α} (h:Vec f n w a l cap):l.length≤9223372036854775807:=by
 have h1:=h.le;have h2:=h.top;unfold maxLen at h2;omega
theorem Vec.lt {w a cap} {l:List α} (h:Vec f n w a l cap) (hf:∀x,(f x).length=n) {i j:Nat} (hi:i<l.length) (hj:j<n):(ad a (i*n+j)).block<w.heap.size:=by
 have:=h.cell i hi j hj
 have hj':j<(f l[i]).length:=by rw[hf];exact hj
 rw[List.getElem?_eq_getElem hj'] at this
 exact World.block_lt_of_cell? w _ this
theorem Vec.stay {w w':World} {a cap} {l:List α} (h:Vec f n w a l cap) (hf:∀x,(f x).length=n) (hb:Below w.heap.size w w'):Vec f n w' a l cap:=
 ⟨h.le,h.top,h.nil,h.spot,fun i hi j hj=>(hb.cell (h.lt hf hi hj)).trans (h.cell i hi j hj)⟩
theorem Vec.drewN {w:World} {a cap} {l:List α} (h:Vec f n w a l cap) (k:Nat):Vec f n (w.drewN k) a l cap:=⟨h.le,h.top,h.nil,h.spot,h.cell⟩
theorem Vec.save {S:Nat→Prop} {w w':World} {a cap} {l:List α} (h:Vec f n w a l cap) (hf:∀x,(f x).length=n) (hs:Save S w w') (ha:l≠ []→∀g,blk a=some g→S g):Vec f n w' a l cap:=by
 refine⟨h.le,h.top,h.nil,h.spot,fun i hi j hj=> ?_⟩
 have hne:l≠ []:=by intro h0;simp[h0] at hi
 obtain⟨g,off,rfl⟩:=h.spot hne
 exact(hs.cell (h.lt hf hi hj) (ha hne g rfl)).trans (h.cell i hi j hj)
theorem Vec.cell1 {v:α→Value} {w a cap} {l:List α} (h:Vec (fun x=> [v x]) 1 w a l cap) (i:Nat) (hi:i<l.length):w.cell? (ad a i)=some (v l[i]):=by
 have:=h.cell i hi 0 AP
 simpa using this
theorem Vec.Uo {v:α→Value} {w a cap} {l:List α} (h1:l.length≤cap) (h2:cap≤maxLen) (h3:a=none→cap=0) (h4:l≠ []→∃b off,a=some ⟨b,off,none⟩) (h5:∀i (h:i<l.length),w.cell? (ad a i)=some (v l[i])):Vec (fun x=> [v x]) 1 w a l cap:=
 ⟨h1,h2,h3,h4,fun i hi j hj=>by
  obtain rfl:j=0:=by omega
  rw[Nat.mul_one,Nat.add_zero,h5 i hi];rfl⟩
theorem vk {β:Type} {f:α→List β} (hf:∀x,(f x).length=n):∀(l:List α) (i j:Nat) (h:i<l.length),j<n→(l.flatMap f)[i*n+j]? =(f l[i])[j]?
 | [],i,j,h,_=>by simp at h
 |
  x::l,0,j,_,hj=>by
  rw[List.flatMap_cons,List.getElem?_append_left (by rw[hf];omega)]
  simp
 |
  x::l,i+1,j,h,hj=>by
  have e:(i+1)*n+j-n=i*n+j:=by rw[Nat.succ_mul];omega
  rw[List.flatMap_cons,List.getElem?_append_right (by rw[hf,Nat.succ_mul];omega),hf,e]
  exact vk hf l i j (by simpa using h) hj
theorem jr {β:Type} {f:α→List β} (hf:∀x,(f x).length=n) (l:List α):(l.flatMap f).length=l.length*n:=by
 induction l with
 | nil=>simp
 | cons x l ih=>rw[List.flatMap_cons,List.length_append,hf,ih,List.length_cons,Nat.succ_mul];omega
theorem OM (g off j:Nat):(⟨g,off,none⟩:Addr).add j=ad (some ⟨g,off,none⟩) j:=by unfold Addr.add ad;split<;>simp_all
theorem rP (g i:Nat):ad (some ⟨g,0,none⟩) i=⟨g,i,none⟩:=by simp[ad]
theorem aS.vec {E B w a cap} {l:List α} (h:aS f n E B w a l cap) (hf:∀x,(f x).length=n):Vec f n w a l cap:=by
 rcases h.row.2 with⟨hv,hn⟩ |⟨g,c,cur,hv,hb,hg,hle,hm,hc,ht⟩
 ·injection hv with h1 h2 h3
  obtain rfl:l=[]:=List.eq_nil_of_length_eq_zero hn
  subst h1 h3
  exact Vec.nil_ w
 ·have hcells:=h.row.cells (g:=g) (by injection hv with h1;rw[h1];rfl)
  injection hv with h1 h2 h3
  subst h1 h3
  refine⟨hle,hm,fun h0=>by simp at h0,fun _=>⟨g,0,rfl⟩,fun i hi j hj=> ?_⟩
  have hj':j<(f l[i]).length:=by rw[hf];exact hj
  have e:=vk hf l i j hi hj
  rw[List.getElem?_eq_getElem hj'] at e ⊢
  have:=hcells (i*n+j) _ e
  have ea:(⟨g,0,none⟩:Addr).add (i*n+j)=ad (some ⟨g,0,none⟩) (i*n+j):=by unfold Addr.add ad;split<;>simp_all
  rwa[ea] at this
theorem aS.aK {E B w a cap} {l:List α} (h:aS f n E B w a l cap) {g:Nat} (hg:blk a=some g):B≤g∧g<w.heap.size:=by
 cases a with
 | none=>simp[blk] at hg
 | some x=>exact h.row.lt g (by simpa[Value.ownBlock,blk] using hg)
theorem aS.save {S:Nat→Prop} {E B} {w w':World} {a cap} {l:List α} (r:aS f n E B w a l cap) (h:Save S w w') (hs:∀g,blk a=some g→S g):aS f n E B w' a l cap:=by
 refine⟨r.row.1, ?_⟩
 rcases r.row.2 with hn |⟨g,c,cur,hv,hbg,hg,rest⟩
 ·exact .inl hn
 ·injection hv with h1 h2 h3
  subst h1
  refine .inr ⟨g,c,cur,by rw[h2,h3],hbg, ?_,rest⟩
  rw[h.block g (Array.getElem?_eq_some_iff.1 hg).1 (hs g rfl)];exact hg
theorem aS.alloc {E B w a cap} {l:List α} (h:aS f n E B w a l cap) (o:Obj):aS f n E B (w.alloc o) a l cap:=⟨h.row.alloc o⟩
theorem aS.low {E B B' w a cap} {l:List α} (h:aS f n E B w a l cap) (hB:B'≤B):aS f n E B' w a l cap:=by
 refine⟨h.row.1, ?_⟩
 rcases h.row.2 with hn |⟨g,c,cur,hv,hbg,rest⟩
 ·exact .inl hn
 ·exact .inr ⟨g,c,cur,hv,Nat.le_trans hB hbg,rest⟩
theorem aS.nil_ (f:α→List Value) (n:Nat) (E B:Nat) (w:World):aS f n E B w none [] 0:=⟨World.ownsRow_nil w B E n⟩
theorem aS.stay {E B} {w w':World} {a cap} {l:List α} (r:aS f n E B w a l cap) (h:Below w.heap.size w w'):aS f n E B w' a l cap:=r.save (Save.of (S:=fun _=>True) h) (fun _ _=>trivial)
end
section
variable {P:Program} {T E:TypeId} {n by_:Nat} {z:Value} {α:Type} {f:α→List Value}
theorem Vec.index (hE:bT P T E n by_ z) {w a cap} {l:List α} (h:Vec f n w a l cap) (i:Nat) (hi:i<l.length):
 ∀w,(Instr.indexAt T (.slice a l.length cap) (.int .i64 (i:Int))).run P w= .ok (.pointer (some (ad a (i*n)))) w:=by
 intro w
 have hT:=hE.slice
 obtain⟨b,off,rfl⟩:=h.spot (by intro h0;simp[h0] at hi)
 have he:P.elem T=E:=by simp[Program.elem,hT]
 rw[run_indexAt_slice w T _ _ _ _ _ (by rw[he];exact hT),if_pos AL,he,hE.sz]
 simp only[Result.andThen,ad,Addr.add]
 by_cases h0:i*n=0
 ·simp[h0]
 ·simp[h0]
theorem Vec.lS {v:α→Value} (hE:bT P T E 1 by_ z) {w a cap} {l:List α} (h:Vec (fun x=> [v x]) 1 w a l cap) (i:Nat) (hi:i<l.length):
 ∀w,(Instr.indexAt T (.slice a l.length cap) (.int .i64 (i:Int))).run P w= .ok (.pointer (some (ad a i))) w:=by
 have:=h.index hE i hi
 rwa[Nat.mul_one] at this
theorem Ky (hE:bT P T E n by_ z) (hf:∀x,(f x).length=n) (h1:∀x,∀u∈f x,u.oneCell'=true) {w:World} {o:Oper} {act:Act} {K:Act→World→Prop} {Q:Exit→Act→World→Prop} (s x:Operand)
 (ho:o.op= .call {callee:= .builtin .append,args:= #[s,x],argTypes:= #[T,T]}) {B:Nat}
 {a b:Option Addr} {l m:List α} {cap c:Nat} (hown:aS f n E B w a l cap) (hm:Vec f n w b m c) (hne:m≠ []) (hlen:l.length+m.length≤1000000000) (hbase:B≤w.heap.size)
 (hs:act.eval s= .slice a l.length cap) (hx:act.eval x= .slice b m.length c)
 (h:∀a' cap' w',aS f n E B w' a' (l++m) cap'→w.grownBy w' (blk a)→iI w.heap.size a a'→K (act.put o.dst (.slice a' (l++m).length cap')) w'):Oper.wp P o act w K Q:=by
 obtain⟨i,hi,hz0,hz1,hz2⟩:=info_parts hE.info
 obtain⟨g,off,rfl⟩:=hm.spot hne
 refine wp_append_lies w s x T ho B E i z n by_ hE.slice hi hz0 hz1 hz2 hE.zs hE.pos _ l.length (l.flatMap f) hs hown.row ⟨g,off,none⟩ m.length c (m.flatMap f) hx (jr hf m) ?_ ?_ (List.length_pos_iff.2 hne) (by unfold maxLen;omega) ?_ hbase w.heap.size rfl ?_
 ·intro j u hu
  have hj:j<m.length*n:=by rw[←jr hf m];exact(List.getElem?_eq_some_iff.1 hu).1
  have hn:=hE.pos
  have e1:j=j/n*n+j%n:=by rw[Nat.mul_comm];exact(Nat.div_add_mod j n).symm
  have hi':j/n<m.length:=(Nat.div_lt_iff_lt_mul hn).2 hj
  have hj':j%n<n:=Nat.mod_lt _ hn
  rw[OM]
  rw[e1] at hu ⊢
  rw[vk hf m _ _ hi' hj'] at hu
  rw[hm.cell _ hi' _ hj',hu]
 ·intro u hu
  obtain⟨y,_,hy⟩:=List.mem_flatMap.1 hu
  exact h1 y u hy
 ·have:=Nat.mul_le_mul hlen hE.few
  omega
 ·intro g' cap' w' hown' hgr hat hlt
  rw[fG] at hgr hat
  rw[←List.length_append,←List.flatMap_append] at hown'
  rw[←List.length_append]
  refine h (some ⟨g',0,none⟩) cap' w' ⟨hown'⟩ hgr (fun k hk=> ?_)
  simp only[blk,Option.map_some,Option.some.injEq] at hk
  subst hk
  rcases hat with h1 |h1
  ·exact .inl h1
  ·exact .inr AL
theorem qW (hE:bT P T E n by_ z) (hf:∀x,(f x).length=n) (h1:∀x,∀u∈f x,u.oneCell'=true) {w:World} {ops:Array Oper} {rest:List Oper} {o:Oper} {act:Act} {Q:Exit→Act→World→Prop} (s x:Operand) (hgd:o.guard=none)
 (ho:o.op= .call {callee:= .builtin .append,args:= #[s,x],argTypes:= #[T,T]}) {B:Nat}
 {a b:Option Addr} {l m:List α} {cap c:Nat} (hown:aS f n E B w a l cap) (hm:Vec f n w b m c) (hne:m≠ []) (hlen:l.length+m.length≤1000000000) (hbase:B≤w.heap.size)
 (hs:act.eval s= .slice a l.length cap) (hx:act.eval x= .slice b m.length c)
 (h:∀a' cap' w',aS f n E B w' a' (l++m) cap'→w.grownBy w' (blk a)→iI w.heap.size a a'→wpList P ops Q rest (act.put o.dst (.slice a' (l++m).length cap')) w'):wpList P ops Q (o::rest) act w:=
 wpList_plain hgd fun _ hK=>Ky hE hf h1 s x ho hown hm hne hlen hbase hs hx fun a' cap' w' g1 g2 g3=>hK _ _ (h a' cap' w' g1 g2 g3)
theorem jh (w:World) (cs:Array Value) (E n:Nat) (l:List α) (hf:∀x,(f x).length=n) (h:cs=(l.flatMap f).toArray) (hl:l.length≤1000000000):
 aS f n E w.heap.size (w.alloc (.cells cs E)) (some ⟨w.heap.size,0,none⟩) l l.length:=by
 refine⟨?_⟩
 subst h
 have hs:(l.flatMap f).toArray.size=l.length*n:=by rw[List.size_toArray,jr hf]
 have:=World.ownsRow_lit (base:=w.heap.size) (e:=E) (size:=n) w (l.flatMap f).toArray l.length (Nat.le_refl _) (by unfold maxLen;omega) hs
 simpa using this
theorem Ey (w:World) (cs:Array Value) (E n:Nat) (l:List α) (hf:∀x,(f x).length=n) (h:cs=(l.flatMap f).toArray) (hl:l.length≤1000000000):
 Vec f n (w.alloc (.cells cs E)) (some ⟨w.heap.size,0,none⟩) l l.length:=(jh w cs E n l hf h hl).vec hf
theorem dA (hE:bT P T E n by_ z) (hf:∀x,(f x).length=n) (h1:∀x,∀u∈f x,u.oneCell'=true) {w0:World} {ops:Array Oper} {rest:List Oper} {o:Oper} {act:Act} {Q:Exit→Act→World→Prop} (s x:Operand) (hgd:o.guard=none)
 (ho:o.op= .call {callee:= .builtin .append,args:= #[s,x],argTypes:= #[T,T]}) {B:Nat} {cs:Array Value}
 {a:Option Addr} {l:List α} {cap:Nat} {y:α} (hown:aS f n E B w0 a l cap) (hcs:cs=(f y).toArray) (hlen:l.length+1≤1000000000) (hbase:B≤w0.heap.size)
 (hs:act.eval s= .slice a l.length cap) (hx:act.eval x= .slice (some ⟨w0.heap.size,0,none⟩) 1 1)
 (h:∀a' cap' w',aS f n E B w' a' (l++ [y]) cap'→w0.grownBy w' (blk a)→iI w0.heap.size a a'→wpList P ops Q rest (act.put o.dst (.slice a' (l++ [y]).length cap')) w'):wpList P ops Q (o::rest) act (w0.alloc (.cells cs E)):=by
 have hv:Vec f n (w0.alloc (.cells cs E)) (some ⟨w0.heap.size,0,none⟩) [y] 1:=Ey w0 cs E n [y] hf (by rw[hcs];simp) AO
 refine qW hE hf h1 s x hgd ho (hown.alloc _) hv AO hlen (by simp;omega) hs hx ?_
 intro a' cap' w' g1 g2 g3
 refine h a' cap' w' g1 ?_ (fun g hg=> ?_)
 ·have h0:=World.grownBy_alloc w0 (.cells cs E) (blk a)
  refine⟨g2.os.trans h0.os,g2.tape.trans h0.tape,g2.output.trans h0.output,Nat.le_trans h0.size g2.size,fun k hk hne=> ?_⟩
  rw[g2.block k (Nat.lt_of_lt_of_le hk h0.size) hne,h0.block k hk hne]
 ·rcases g3 g hg with h |h
  ·exact .inl h
  ·right;simp at h;omega
theorem aS.grown {E B w w' a cap} {l:List α} (h:aS f n E B w a l cap) (hg:w.grownBy w' (blk a)) (hb:B≤w.heap.size):Below B w w':=
 grown_below hg hb (fun _ hk=>(h.aK hk).1)
theorem IV (hE:bT P T E n by_ z) (hf:∀x,(f x).length=n) (h1:∀x,∀u∈f x,u.oneCell'=true) {w0:World} {ops:Array Oper} {o:Oper} {act:Act} {K:Act→World→Prop} {Q:Exit→Act→World→Prop} {F:Prop} (s x:Operand) (hgd:o.guard=none)
 (ho:o.op= .call {callee:= .builtin .append,args:= #[s,x],argTypes:= #[T,T]}) {B:Nat} {cs:Array Value}
 {a:Option Addr} {l:List α} {cap:Nat} {y:α} (hown:aS f n E B w0 a l cap) (hcs:cs=(f y).toArray) (hlen:l.length+1≤1000000000) (hbase:B≤w0.heap.size)
 (hs:act.eval s= .slice a l.length cap) (hx:act.eval x= .slice (some ⟨w0.heap.size,0,none⟩) 1 1)
 (h:∀a' cap' w',aS f n E B w' a' (l++ [y]) cap'→w0.grownBy w' (blk a)→iI w0.heap.size a a'→K (act.put o.dst (.slice a' (l++ [y]).length cap')) w'):
 if Region.wanted o (yielded ops act.tmps)=true then Oper.wp P o act ((w0.alloc (.cells cs E)).drew) K Q else F:=by
 have hw:Region.wanted o (yielded ops act.tmps)=true:=by simp[Region.wanted,hgd]
 rw[if_pos hw]
 have hv:Vec f n ((w0.alloc (.cells cs E)).drew) (some ⟨w0.heap.size,0,none⟩) [y] 1:=(Ey w0 cs E n [y] hf (by rw[hcs];simp) AO).drewN 1
 have hO:aS f n E B ((w0.alloc (.cells cs E)).drew) a l cap:=(hown.alloc _).save (Save.drewN (S:=fun _=>True) _ 1) (fun _ _=>trivial)
 refine Ky hE hf h1 s x ho hO hv AO hlen (by show B≤(w0.alloc (.cells cs E)).heap.size;simp;omega) hs hx ?_
 intro a' cap' w' g1 g2 g3
 refine h a' cap' w' g1 ?_ (fun g hg=> ?_)
 ·have h0:w0.grownBy ((w0.alloc (.cells cs E)).drew) (blk a):=⟨rfl,rfl,rfl,by show _≤(w0.alloc (.cells cs E)).heap.size;simp,fun k hk _=>(World.grownBy_alloc w0 (.cells cs E) none).block k hk AO⟩
  refine⟨g2.os.trans h0.os,g2.tape.trans h0.tape,g2.output.trans h0.output,Nat.le_trans h0.size g2.size,fun k hk hne=> ?_⟩
  rw[g2.block k (Nat.lt_of_lt_of_le hk h0.size) hne,h0.block k hk hne]
 ·rcases g3 g hg with h |h
  ·exact .inl h
  ·right
   have h':(w0.alloc (.cells cs E)).heap.size≤g:=h
   simp at h';omega
@[reducible] def cb (x:UInt8):List Value:=[vb x]
theorem yV:∀x,(cb x).length=1:=fun _=>rfl
theorem DN:∀x,∀u∈cb x,u.oneCell'=true:=by
 intro x u hu;obtain rfl:u=vb x:=by simpa using hu
 rfl
theorem JU (l:List UInt8):l.flatMap cb=l.map vb:=by
 induction l with
 | nil=>rfl
 | cons x l ih=>rw[List.flatMap_cons,ih];rfl
theorem aS.own {E B:Nat} {w:World} {a:Option Addr} {l:List UInt8} {c:Nat} (h:aS cb 1 E B w a l c):Own E B w a l c:=⟨by have:=h.row;rwa[JU] at this⟩
theorem Own.uU {E B:Nat} {w:World} {a:Option Addr} {l:List UInt8} {c:Nat} (h:Own E B w a l c):aS cb 1 E B w a l c:=⟨by have:=h.row;rwa[←JU] at this⟩
theorem bT.ofBytes {P:Program} {T E:TypeId} (h:gW P T E):bT P T E 1 1 (.int .u8 0):=⟨h.slice,h.info,h.sz,rfl,by decide,by decide⟩
theorem aS.stored {v:α→Value} {B g:Nat} {w:World} {l:List α} {cap:Nat} (h:aS (fun x=> [v x]) 1 E B w (some ⟨g,0,none⟩) l cap) (i:Nat) (y:α):
 aS (fun x=> [v x]) 1 E B (w.setCell ⟨g,i,none⟩ (v y)) (some ⟨g,0,none⟩) (l.set i y) cap∧w.grownBy (w.setCell ⟨g,i,none⟩ (v y)) (some g):=by
 have hs:=h.row.stored i (v y)
 have e:∀l:List α,l.flatMap (fun x=> [v x])=l.map v:=fun l=>by
  induction l with
  | nil=>rfl
  | cons x l ih=>rw[List.flatMap_cons,ih];rfl
 refine⟨⟨?_⟩,hs.2⟩
 have:=hs.1
 rw[e] at this
 rw[e,List.length_set,List.map_set]
 exact this
theorem aS.frozen {B g:Nat} {w:World} {l:List α} {cap:Nat} (h:aS f n E B w (some ⟨g,0,none⟩) l cap) (i:Nat):w.frozen? ⟨g,i,none⟩=false:=by
 rcases h.row.2 with⟨hv,_⟩ |⟨g',c',cur,hv,hb,hg,_⟩
 ·simp at hv
 ·simp only[Value.slice.injEq,Option.some.injEq,Addr.mk.injEq,and_true,true_and] at hv
  obtain⟨rfl,_⟩:=hv
  simp[World.frozen?,hg]
theorem nI (hE:bT P T E n by_ z) (hf:∀x,(f x).length=n) (h1:∀x,∀u∈f x,u.oneCell'=true) {w:World} {ops:Array Oper} {rest:List Oper} {o:Oper} {act:Act} {Q:Exit→Act→World→Prop} (s x:Operand) (hgd:o.guard=none)
 (ho:o.op= .call {callee:= .builtin .append,args:= #[s,x],argTypes:= #[T,T]}) {B:Nat}
 {a b:Option Addr} {l m:List α} {cap c:Nat} (hown:aS f n E B w a l cap) (hm:Vec f n w b m c) (hlen:l.length+m.length≤1000000000) (hbase:B≤w.heap.size)
 (hs:act.eval s= .slice a l.length cap) (hx:act.eval x= .slice b m.length c)
 (h:∀a' cap' w',aS f n E B w' a' (l++m) cap'→w.grownBy w' (blk a)→wpList P ops Q rest (act.put o.dst (.slice a' (l++m).length cap')) w'):wpList P ops Q (o::rest) act w:=by
 by_cases h0:m=[]
 ·subst h0
  obtain⟨i,hi,hz0,hz1,hz2⟩:=info_parts hE.info
  cases b with
  |
   none=>
   have hc:=hm.nil rfl
   subst hc
   refine wpList_append_own_none hgd s x T ho B E i n hE.slice hi (.slice a l.length cap) l.length (l.flatMap f) hs hown.row hx ?_
   have hk:=h a cap w
   rw[List.append_nil] at hk
   exact hk hown ⟨rfl,rfl,rfl,Nat.le_refl _,fun _ _ _=>rfl⟩
  |
   some p=>
   refine wpList_append_own w hgd s x T ho B E i z n by_ hE.slice hi hz0 hz1 hz2 hE.zs hE.pos _ l.length (l.flatMap f) hs hown.row p 0 c [] hx AO (fun j u hu=>by simp at hu) (fun u hu=>by simp at hu) (by simp at hlen;unfold maxLen;omega) (by have:=Nat.mul_le_mul hlen hE.few;simp at this ⊢;omega) hbase ?_
   intro v' w' hown' hgr hnil
   rw[fG] at hgr
   have hv':∃a' cap',v'= .slice a' l.length cap':=by
    rcases hown'.2 with⟨hv,hn⟩ |⟨g',c',cur,hv,_⟩
    ·exact⟨none,0,by rw[hv];simp;omega⟩
    ·exact⟨some ⟨g',0,none⟩,c',by rw[hv];simp⟩
   obtain⟨a',cap',rfl⟩:=hv'
   have hk:=h a' cap' w'
   rw[List.append_nil] at hk
   exact hk ⟨by simpa using hown'⟩ hgr
 ·exact qW hE hf h1 s x hgd ho hown hm h0 hlen hbase hs hx (fun a' cap' w' g1 g2 _=>h a' cap' w' g1 g2)
theorem CZ (ρ:Operand→Value):∀(vs:List Value) (xs:List Operand) (i:Nat),xs.map ρ=vs→(xs.zipIdx i).map (fun x=>(x.2,ρ x.1))=(vs.zipIdx i).map (fun x=>(x.2,x.1))
 | [],xs,i,h=>by
  obtain rfl:xs=[]:=by simpa using h
  rfl
 | v::vs,[],i,h=>by simp at h
 |
  v::vs,x::xs,i,h=>by
  simp only[List.map_cons,List.cons.injEq] at h
  simp only[List.zipIdx_cons,List.map_cons]
  rw[h.1,CZ ρ vs xs (i+1) h.2]
theorem tZ (hE:bT P T E n by_ z) {ρ:Operand→Value} {o:Oper} (xs:List Operand) (vs:List Value) (k:Nat) (ho:o.op= .buildSlice T k ((xs.zipIdx 0).map fun x=>(x.2,x.1)).toArray) (hx:xs.map ρ=vs) (hk:vs.length=k) (h0:0<k) (hs:∀v∈vs,v.cells.size=n) (hk9:k*n≤2^24) (w:World):
 (execOp ρ o).run P w= .ok (.value (.slice (some ⟨w.heap.size,0,none⟩) k k)) (w.alloc (.cells (vs.flatMap fun v=>v.cells.toList).toArray E)):=by
 obtain⟨i,hi,hz0,hz1,hz2⟩:=info_parts hE.info
 have hn:=hE.pos
 have hfill:=Great.fill_whole (s:=n) hn vs ((Array.range (k*n)).map (z.cells[· %z.cells.size]!)) hs (by rw[hk];simp)
 have hb:=run_buildSlice (P:=P) w T E k ((vs.zipIdx 0).map fun x=>(x.2,x.1)).toArray _ i z hE.slice hi hz0 (by rw[hz1];omega) (by rw[hz1];exact Nat.ne_of_gt (Nat.mul_pos h0 hn)) (by rw[hz1];exact hfill)
 unfold execOp
 rw[ho]
 dsimp only
 rw[show(((xs.zipIdx 0).map fun x=>(x.2,x.1)).toArray.map fun (i,x)=>(i,ρ x))=((vs.zipIdx 0).map fun x=>(x.2,x.1)).toArray by
  rw[List.map_toArray,List.map_map,←CZ ρ vs xs 0 hx];rfl,Sem.run_bind,hb]
 rfl
end
end Go.Cit
namespace Go.Cit
open Go Go.RowKit
section
variable {P:Program} {ops:Array Oper} {Q:Exit→Act→World→Prop}
def fF (ops:Array Oper) (a0 a:Act):Prop:=
 a.defers=a0.defers∧a.tmps.size=a0.tmps.size∧∀d,(∀(i:Nat) (o:Oper),ops[i]? =some o→o.dst≠some d)→a.tmps.getD d undef=a0.tmps.getD d undef
def jg (ops:Array Oper) (n:Nat):Bool:=
 (List.range ops.size).all fun i=>match ops[i]? with
  | none=>true
  | some o=>(o.after.all fun e=> !Region.binds .any e || decide (e.on<i)) && (match o.dst with |some d=>decide (d<n) |none=>true) &&
   (List.range i).all fun j=>match ops[j]? with
    | none=>true
    | some p=>match o.dst,p.dst with |some d,some d'=>decide (d≠d') |_,_=>true
theorem bG {n:Nat} (h:jg ops n=true) {i:Nat} {o:Oper} (ho:ops[i]? =some o):
 (∀e∈o.after,Region.binds .any e=true→e.on<i)∧(∀d,o.dst=some d→d<n)∧(∀j p d,ops[j]? =some p→j<i→o.dst=some d→p.dst≠some d):=by
 have hi:i<ops.size:=(Array.getElem?_eq_some_iff.1 ho).1
 have h1:=List.all_eq_true.1 h i (List.mem_range.2 hi)
 rw[ho] at h1
 simp only[Bool.and_eq_true] at h1
 obtain⟨⟨ha,hd⟩,hu⟩:=h1
 refine⟨fun e he hb=> ?_,fun d hdd=> ?_,fun j p d hp hji hdd hpd=> ?_⟩
 ·have:=(Array.all_eq_true_iff_forall_mem.1 ha) e he
  simp[hb] at this
  exact this
 ·rw[hdd] at hd;simpa using hd
 ·have:=List.all_eq_true.1 hu j (List.mem_range.2 hji)
  rw[hp] at this
  simp[hdd,hpd] at this
theorem dM (a:Act) (d:Tmp) (v:Value) (h:d<a.tmps.size):(a.put (some d) v).tmps.getD d undef=v:=by
 simp[Act.put,Array.getD,h]
theorem bH (a:Act) (o:Option Tmp) (d:Tmp) (v:Value) (h:o≠some d):(a.put o v).tmps.getD d undef=a.tmps.getD d undef:=by
 cases o with
 | none=>rfl
 |
  some e=>
  have hne:e≠d:=fun h'=>h (by rw[h'])
  simp[Act.put,Array.getElem?_setIfInBounds_ne hne]
theorem iR (a:Act) (o:Option Tmp) (v:Value):(a.put o v).tmps.size=a.tmps.size:=by cases o<;>simp[Act.put]
theorem put_defers (a:Act) (o:Option Tmp) (v:Value):(a.put o v).defers=a.defers:=by cases o<;>rfl
def tN (listed:Array Bool) (n:Nat):Nat:=((List.range n).filter fun i=> !listed.getD i true).length
theorem nS {listed:Array Bool} {n:Nat} (h:tN listed n=0):∀i,i<n→listed.getD i true=true:=by
 intro i hi
 have:=List.eq_nil_of_length_eq_zero h
 have h2:=List.filter_eq_nil_iff.1 this i (List.mem_range.2 hi)
 simpa using h2
theorem filter_le {α:Type} (p q:α→Bool) (hpq:∀x,q x=true→p x=true):∀l:List α,(l.filter q).length≤(l.filter p).length
 | []=>Nat.le_refl _
 |
  z::l=>by
  have ih:=filter_le p q hpq l
  by_cases hz:q z=true
  ·rw[List.filter_cons_of_pos hz,List.filter_cons_of_pos (hpq z hz)];exact Nat.succ_le_succ ih
  ·rw[List.filter_cons_of_neg hz]
   by_cases hz':p z=true
   ·rw[List.filter_cons_of_pos hz'];exact Nat.le_succ_of_le ih
   ·rw[List.filter_cons_of_neg hz'];exact ih
theorem filter_lt {α:Type} (p q:α→Bool) (hpq:∀x,q x=true→p x=true):∀(l:List α) (x:α),x∈l→p x=true→q x=false→(l.filter q).length<(l.filter p).length
 | [],x,hx,_,_=>by simp at hx
 |
  y::l,x,hx,hp,hq=>by
  rcases List.mem_cons.1 hx with rfl |hx
  ·rw[List.filter_cons_of_pos hp,List.filter_cons_of_neg (by rw[hq];decide)]
   exact Nat.lt_succ_of_le (filter_le p q hpq l)
  ·have ih:=filter_lt p q hpq l x hx hp hq
   by_cases hy:q y=true
   ·rw[List.filter_cons_of_pos hy,List.filter_cons_of_pos (hpq y hy)];exact Nat.succ_lt_succ ih
   ·rw[List.filter_cons_of_neg hy]
    by_cases hy':p y=true
    ·rw[List.filter_cons_of_pos hy'];exact Nat.lt_succ_of_lt ih
    ·rw[List.filter_cons_of_neg hy'];exact ih
theorem pI {listed:Array Bool} {n i:Nat} (hi:i<n) (hs:i<listed.size) (h:listed.getD i true=false):tN (listed.setIfInBounds i true) n<tN listed n:=by
 refine filter_lt _ _ ?_ _ i (List.mem_range.2 hi) (by simp[h]) ?_
 ·intro x hx
  by_cases hxi:i=x
  ·subst hxi;simp[h]
  ·rw[getD_set_ne true hxi] at hx;exact hx
 ·simp[hs]
end
end Go.Cit
namespace Go.Cit
open Go Go.RowKit
def dB (p:Nat→Oper→Prop):List Oper→Nat→Prop
 | [],_=>True
 | o::os,n=>p n o∧dB p os (n+1)
theorem dB.get {p:Nat→Oper→Prop} (os:List Oper):∀n,dB p os n→∀i o,os[i]? =some o→p (n+i) o:=by
 induction os with
 | nil=>intro n _ i o ho;simp at ho
 |
  cons x os ih=>
  intro n h i o ho
  cases i with
  |
   zero=>
   have hx:x=o:=by simpa using ho
   subst hx
   exact h.1
  |
   succ i=>
   have:=ih (n+1) h.2 i o (by simpa using ho)
   rwa[Nat.add_assoc,Nat.add_comm 1 i] at this
theorem aI {p:Nat→Oper→Prop} {o:Oper} {os:List Oper} {n:Nat} (h:p n o) (hs:dB p os (n+1)):dB p (o::os) n:=⟨h,hs⟩
theorem aU {p:Nat→Oper→Prop} {n:Nat}:dB p [] n:=trivial
def iC (ops:Array Oper) (o:Oper) (d:Nat):Bool:=
 o.after.any fun e=>Region.binds .any e && (match ops[e.on]? with |some p=>decide (p.dst=some d) |none=>false)
def jc (ops:Array Oper) (d:Nat):Bool:=ops.all fun o=>decide (o.dst≠some d)
def rD (ops:Array Oper) (o:Oper) (d:Nat) (b:Bool):Bool:=
 match o.guard with |none=>false |some (j,c)=>decide (c=b) && (match ops[j]? with |some p=>decide (p.dst=some d) |none=>false)
section
variable {P:Program} {ops:Array Oper} {Q:Exit→Act→World→Prop}
def Wanted (ops:Array Oper) (o:Oper) (a:Act):Prop:=Region.wanted o (yielded ops a.tmps)=true
theorem ah {o:Oper} {a:Act} (h:o.guard=none):Wanted ops o a:=by unfold Wanted Region.wanted;rw[h]
theorem CP {o:Oper} {a:Act} (d:Nat) (b:Bool) (h:rD ops o d b=true) (hv:a.eval (.tmp d)= .bool b):Wanted ops o a:=by
 unfold Wanted Region.wanted
 unfold rD at h
 split at h
 ·exact absurd h AP
 ·rename_i j c hg
  rw[hg]
  simp only[Bool.and_eq_true,decide_eq_true_eq] at h
  obtain⟨rfl,h⟩:=h
  split at h
  ·rename_i p hp
   simp only[decide_eq_true_eq] at h
   have hd:d<a.tmps.size:=by
    rcases Nat.lt_or_ge d a.tmps.size with h' |h'
    ·exact h'
    ·simp[Act.eval,Array.getD,Nat.not_lt.2 h',undef] at hv
   have e:a.tmps[d]? =some (.bool c):=by
    rw[Array.getElem?_eq_getElem hd,←hv]
    simp[Act.eval,Array.getD,hd]
   simp[yielded,hp,h,e]
  ·exact absurd h AP
end
end Go.Cit
namespace Go.Cit
open Go Go.RowKit
theorem GZ {n:Int} (h:(Lit.int .u8 n).wf=true):∃x:UInt8,n=x.toNat:=by
 have hb:=bounds_u8 h
 exact⟨UInt8.ofNat n.toNat,by rw[UInt8.toNat_ofNat_of_lt' (by show _<256;omega)];omega⟩
theorem KW {n:Int} (h:(Lit.int .u32 n).wf=true):∃x:UInt32,n=x.toNat:=by
 have hb:=bounds_u32 h
 exact⟨UInt32.ofNat n.toNat,by rw[UInt32.toNat_ofNat_of_lt' (by show _<4294967296;omega)];omega⟩
theorem Md {n:Int} (h:(Lit.int .u64 n).wf=true):∃x:UInt64,n=x.toNat:=by
 have hb:=bounds_u64 h
 exact⟨UInt64.ofNat n.toNat,by rw[UInt64.toNat_ofNat_of_lt' (by show _<18446744073709551616;omega)];omega⟩
theorem KO {n:Int} (h:(Lit.int .i64 n).wf=true): -9223372036854775808≤n∧n≤9223372036854775807:=bounds_i64 h
theorem yu:∀(zs:List Int),(∀n∈zs,(Lit.int .u8 n).wf=true)→∃l:List UInt8,zs=l.map (fun x=>(x.toNat:Int))
 | [],_=>⟨[],rfl⟩
 |
  z::zs,h=>by
  obtain⟨x,hx⟩:=GZ (h z AO)
  obtain⟨l,hl⟩:=yu zs (fun n hn=>h n (by simp[hn]))
  exact⟨x::l,by simp[hx,hl]⟩
theorem row_of {w:World} {a:Option Addr} {len cap:Nat} {zs:List Int}
 (h:(a=none∧len=0∧cap=0∧zs=[])∨
  ∃x,a=some x∧len≤cap∧cap≤maxLen∧zs.length=cap∧(∀i,i<zs.length→w.cell? (x.add i)=some (.int .u8 (zs.getD i 0)))∧∀n∈zs,(Lit.int .u8 n).wf=true):
 ∃l:List UInt8,len=l.length∧Row w a l cap:=by
 rcases h with⟨rfl,rfl,rfl,rfl⟩ |⟨x,rfl,hle,hm,hz,hc,hwf⟩
 ·exact⟨[],rfl,Row.nil_ w⟩
 ·obtain⟨l,rfl⟩:=yu zs hwf
  rw[List.length_map] at hz hc
  have hlen:(l.take len).length=len:=by rw[List.length_take];omega
  refine⟨l.take len,hlen.symm,by rw[hlen];exact hle,hm,fun h=>by simp at h,fun hne=> ?_,fun i hi=> ?_⟩
  ·have h0:0<l.length:=by
    rcases Nat.eq_zero_or_pos l.length with h |h
    ·exact absurd (by rw[List.eq_nil_of_length_eq_zero h];simp) hne
    ·exact h
   have:=World.cell?_spot (hc 0 h0)
   obtain⟨b,off,sp⟩:=x
   simp[Addr.add] at this
   exact⟨b,off,by rw[this]⟩
  ·rw[hlen] at hi
   have hi':i<l.length:=by omega
   have h1:=hc i hi'
   have hs:=World.cell?_spot h1
   obtain⟨b,off,sp⟩:=x
   have e:(⟨b,off,sp⟩:Addr).add i=ad (some ⟨b,off,sp⟩) i:=by
    unfold Addr.add ad
    by_cases h0:i=0
    ·subst h0;simp[Addr.add] at hs;simp[hs]
    ·simp[h0]
   rw[←e,h1]
   simp[hi']
end Go.Cit
