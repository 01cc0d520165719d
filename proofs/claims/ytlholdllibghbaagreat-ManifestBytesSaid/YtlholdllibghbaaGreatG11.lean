/- Texts of the proof, one behind the other: Two, Vec0, Del, Set. No condition but those that each names. -/
import Derived.Test.YtlholdllibghbaaGreatG10
import Derived.Test.YtlholdllibghbaaGreatG01
import Derived.Deep.AppendSrc
import Derived.Deep.MidRow
import Derived.Deep.Upon
import Derived.IntWalk
import Derived.Test.YtlholdllibghbaaGreatG06
import Derived.Laws.OwnMore
import Derived.Test.YtlholdllibghbaaGreatKit
namespace Go.Cit
open Go Go.RowKit
def Alike (w w':World):Prop:=Below w.heap.size w w'∧w'.heap=w.heap
structure wZ (ops:Array Oper) (X Y:Nat→Value) (olds:List Nat) (o:Oper) (a:Act):Prop where
 slot:∀d,iC ops o d=true→a.eval (.tmp d)=X d
 old:∀d,(jc ops d && olds.contains d)=true→a.eval (.tmp d)=Y d
theorem wZ.s {ops:Array Oper} {X Y:Nat→Value} {olds:List Nat} {o:Oper} {a:Act} (h:wZ ops X Y olds o a) (d:Nat) (e:iC ops o d=true:=by kernel_rfl):a.eval (.tmp d)=X d:=h.slot d e
theorem wZ.o {ops:Array Oper} {X Y:Nat→Value} {olds:List Nat} {o:Oper} {a:Act} (h:wZ ops X Y olds o a) (d:Nat) (e:(jc ops d && olds.contains d)=true:=by kernel_rfl):a.eval (.tmp d)=Y d:=h.old d e
section
variable {P:Program} {ops:Array Oper} {Q:Exit→Act→World→Prop}
theorem dB.Tj {p q:Nat→Oper→Prop} (h:∀n o,p n o→q n o):∀(os:List Oper) (n:Nat),dB p os n→dB q os n
 | [],_,_=>trivial
 | _::os,n,hs=>⟨h n _ hs.1,dB.Tj h os (n+1) hs.2⟩
theorem rM {p q:Value→World→Prop} {r:Result Next} (h:∀v w,p v w→q v w) (hr:bQ P p r):bQ P q r:=by
 match r,hr with
 | .ok (.value v) w',hr=>exact h _ _ hr
 | .ok .skip w',hr=>exact h _ _ hr
 | .ok (.enter f args) w',hr=>exact Calls.mono hr fun e w'' ⟨v,he,hp⟩=>⟨v,he,h _ _ hp⟩
theorem QS {X:Nat→Value} {o:Oper} {v:Value} {w:World} (h:Ih X o v):tyP (fun d v _=>v=X d) o v w:=by
 unfold Ih at h
 rcases hd:o.dst with _ |d
 ·exact eU hd _ _
 ·rw[fZ hd];rw[hd] at h;exact h
end
end Go.Cit
namespace Go.Cit
open Go Go.RowKit
section
variable {P:Program} {T E:TypeId} {n by_:Nat} {z:Value} {α:Type} {f:α→List Value}
theorem Qp (hE:bT P T E n by_ z) (hf:∀x,(f x).length=n) (h1:∀x,∀u∈f x,u.oneCell'=true) {w:World} {b:Option Addr} {m:List α} {c:Nat} (hm:Vec f n w b m c):Src P n T (.slice b m.length c) m.length (m.flatMap f) w:=by
 cases b with
 |
  none=>
  have hc:=hm.nil rfl
  have hle:=hm.le
  obtain rfl:m=[]:=List.eq_nil_of_length_eq_zero AL
  subst hc
  exact Src.ofNil w hE.slice 0
 |
  some p=>
  refine Src.ofSlice w hE.slice p m.length c _ (jr hf m) (fun j u hu=> ?_) (fun u hu=> ?_)
  ·have hj:j<m.length*n:=by rw[←jr hf m];exact(List.getElem?_eq_some_iff.1 hu).1
   have hn:=hE.pos
   have e1:j=j/n*n+j%n:=by rw[Nat.mul_comm];exact(Nat.div_add_mod j n).symm
   have hi':j/n<m.length:=(Nat.div_lt_iff_lt_mul hn).2 hj
   have hj':j%n<n:=Nat.mod_lt _ hn
   obtain⟨g,off,hp⟩:=hm.spot (by intro h0;simp[h0] at hi')
   injection hp with hp
   subst hp
   rw[OM]
   rw[e1] at hu ⊢
   rw[vk hf m _ _ hi' hj'] at hu
   rw[hm.cell _ hi' _ hj',hu]
  ·obtain⟨y,_,hy⟩:=List.mem_flatMap.1 hu
   exact h1 y u hy
theorem mP (hE:bT P T E n by_ z) (hf:∀x,(f x).length=n) (h1:∀x,∀u∈f x,u.oneCell'=true) {w:World} {g:Nat} {b:Option Addr} {m:List α} {c:Nat} {B:Nat} (ty:TypeId)
 (hown:aS f n E B w (some ⟨g,0,none⟩) [] 0) (hm:Vec f n w b m c) (hlen:m.length≤1000000) (hB:B≤w.heap.size):
 ∃a' c' w',(Builtin.append_ #[T,T] ty #[.slice (some ⟨g,0,none⟩) 0 0, .slice b m.length c]).run P w= .ok (.slice a' m.length c') w'∧aS f n E B w' a' m c'∧Below w.heap.size w w':=by
 obtain⟨i,hi,hz0,hz1,hz2⟩:=info_parts hE.info
 have hsrc:=Qp hE hf h1 hm
 rw[←hz1] at hsrc
 have hfew:=hE.few
 by_cases h0:m=[]
 ·subst h0
  have hr:=run_append_room_src (P:=P) w T T ty E i hE.slice hi g 0 0 0 (.slice b 0 c) 0 [] hsrc (Nat.le_refl _) (fun j hj=>by simp at hj) (fun j hj=>by simp at hj)
  exact⟨_,_,_,hr,hown,Below.refl _ _⟩
 ·have hpos:0<m.length:=List.length_pos_iff.2 h0
  have hold:(Builtin.firstCells i.size 0 (.slice (some ⟨g,0,none⟩) 0 0)).run P w.drew= .ok ([]:List Value).toArray w.drew:=run_firstCells_some w.drew i.size 0 ⟨g,0,none⟩ 0 0 [] AO (fun j u hu=>by simp at hu)
  have hcap:=nextslicecap_le (need:=0+m.length) (old:=0) AL
  have hr:=run_append_grow_src (P:=P) w T T ty E i z hE.slice hi hz0 (some ⟨g,0,none⟩) 0 0 [] hold (.slice b m.length c) m.length (m.flatMap f) hsrc AL AL (by rw[hz2];exact Nat.le_trans (Nat.mul_le_mul (Nat.le_trans hcap (show 2*(0+m.length)≤2000000 by omega)) hfew) AP)
  rw[Nat.zero_add] at hr
  refine⟨_,_,_,hr,⟨?_⟩,((Below.refl _ w).drew).alloc (Nat.le_refl _) _⟩
  have hge:=grownCap_ge w m.length 0 E
  refine⟨jr hf m, .inr ⟨w.heap.size,_,_,rfl,hB,heap_alloc_new w.drew _,hge,grownCap_le_maxLen _ _ _ _ (by unfold maxLen;omega), ?_, ?_⟩⟩
  ·simp only[List.nil_append,Array.size_append,List.size_toArray,size_zeroCells,hE.zs,jr hf m]
   rw[←Nat.add_mul];congr 1;omega
  ·simp only[List.nil_append,Array.toList_append]
   rw[List.take_append_of_le_length (by simp[jr hf m])]
   exact List.take_of_length_le (by simp[jr hf m])
end
end Go.Cit
namespace Go.Cit
open Go Go.RowKit
theorem PU (wh:Int) (n:Nat) (h:0<n) (h9:n≤1000000):∃k:Nat,k<n∧wrap64 ((IntKind.u64.wrap wh).tmod (n:Int))=(k:Int):=by
 have h0:0≤IntKind.u64.wrap wh:=by
  have e:IntKind.u64.wrap wh=wh%(18446744073709551616:Int):=rfl
  rw[e];omega
 generalize IntKind.u64.wrap wh=z at h0
 obtain⟨m,rfl⟩:∃m:Nat,z=(m:Int):=⟨z.toNat,by omega⟩
 have e:(m:Int).tmod (n:Int)=((m%n:Nat):Int):=by
  rw[Int.tmod_eq_emod_of_nonneg AL];exact(Int.natCast_emod m n).symm
 have hlt:=Nat.mod_lt m h
 refine⟨m%n,hlt, ?_⟩
 rw[e]
 exact IntWalk.wrap64_in _ AL
section
variable {α:Type} {f:α→List Value} {n by_:Nat} {E T:TypeId} {z:Value} {P:Program}
theorem FN {P:Program} {T:TypeId} {w:World} {p:Addr} {u:Value} {a:Option Addr} {n c:Nat} (hs:∀w,(sizeOf T).run P w= .ok 1 w) (h:w.cell? p=some u) (hf:w.frozen? p=false):(Instr.storeAt T (.pointer (some p)) (.slice a n c)).run P w= .ok () (w.setCell p (.slice a n c)):=by
 unfold Instr.storeAt Instr.sureAddr storeVar
 simp[go_sem,hs,Result.andThen,h,hf]
end
theorem Fb {P:Program} {w:World} {o:Oper} {ρ:Operand→Value} {post:Value→World→Prop} {ty:TypeId} {x:Operand} {lo hi mx:Option Operand} (h:o.op= .slice ty x lo hi mx) {vx v:Value} {vl vh vm:Option Value} (hx:ρ x=vx) (hl:lo.map ρ=vl) (hh:hi.map ρ=vh) (hm:mx.map ρ=vm)
 (hr:∀w,(Instr.sliceAt ty vx vl vh vm).run P w= .ok v w) (hp:post v w):bQ P post ((execOp ρ o).run P w):=by
 refine fA (v:=v) (w':=w) ?_ hp
 unfold execOp;rw[h];dsimp only;rw[hx,hl,hh,hm,Sem.run_bind,hr];rfl
end Go.Cit
namespace Go.Cit
open Go Go.RowKit
section
variable {α:Type} {f:α→List Value} {n:Nat} {E:TypeId}
structure Held (f:α→List Value) (n:Nat) (E:TypeId) (w:World) (g:Nat) (l:List α) (cap:Nat):Prop where
 vec:Vec f n w (some ⟨g,0,none⟩) l cap
 blk:∃cs,w.heap[g]? =some (.cells cs E (0,0))
theorem aS.held {B:Nat} {w:World} {g:Nat} {l:List α} {cap:Nat} (hf:∀x,(f x).length=n) (h:aS f n E B w (some ⟨g,0,none⟩) l cap):Held f n E w g l cap:=
 ⟨h.vec hf,by
  rcases h.row.2 with⟨hv,_⟩ |⟨g',c',cur,hv,_,hc,_⟩
  ·simp at hv
  ·simp only[Value.slice.injEq,Option.some.injEq,Addr.mk.injEq,and_true,true_and] at hv
   obtain⟨rfl,_⟩:=hv
   exact⟨cur,hc⟩⟩
theorem Held.stay {w w':World} {g:Nat} {l:List α} {cap:Nat} (hf:∀x,(f x).length=n) (h:Held f n E w g l cap) (hb:Below w.heap.size w w'):Held f n E w' g l cap:=by
 obtain⟨h1,cs,h2⟩:=h
 exact⟨h1.stay hf hb,cs,(hb.block _ (Array.getElem?_eq_some_iff.1 h2).1).trans h2⟩
theorem Held.save {S:Nat→Prop} {w w':World} {g:Nat} {l:List α} {cap:Nat} (hf:∀x,(f x).length=n) (h:Held f n E w g l cap) (hs:Save S w w') (hg:S g):Held f n E w' g l cap:=by
 obtain⟨h1,cs,h2⟩:=h
 exact⟨h1.save hf hs (fun _ j hj=>by simp[Go.Cit.blk] at hj;rw[←hj];exact hg),cs,(hs.block _ (Array.getElem?_eq_some_iff.1 h2).1 hg).trans h2⟩
theorem Held.free {w:World} {g:Nat} {l:List α} {cap:Nat} (h:Held f n E w g l cap) (j:Nat):w.frozen? ⟨g,j,none⟩=false:=by
 obtain⟨_,cs,h2⟩:=h
 simp[World.frozen?,h2]
theorem uM {w:World} {b i:Nat} {cs:Array Value} {fr:Nat×Nat} (v:Value) (h:w.heap[b]? =some (.cells cs E fr)):(w.setCell ⟨b,i,none⟩ v).heap[b]? =some (.cells (cs.setIfInBounds i v) E fr):=by
 simp[World.setCell,Array.getElem?_modify,h]
theorem Held.set {w:World} {g:Nat} {l:List α} {cap:Nat} (h:Held f n E w g l cap) (hf:∀x,(f x).length=n) {k j:Nat} (hk:k<l.length) (hj:j<n) {x:α} {v:Value} (hx:f x=(f l[k]).set j v):
 Held f n E (w.setCell ⟨g,k*n+j,none⟩ v) g (l.set k x) cap:=by
 obtain⟨h1,cs,h2⟩:=h
 refine⟨⟨by rw[List.length_set];exact h1.le,h1.top,h1.nil,fun _=>⟨g,0,rfl⟩,fun i hi q hq=> ?_⟩,_,uM v h2⟩
 rw[List.length_set] at hi
 rw[rP,cell_of_row _ g (i*n+q) _ E (0,0) (uM v h2)]
 have hc:=h1.cell i hi q hq
 rw[rP,cell_of_row _ g (i*n+q) _ E (0,0) h2] at hc
 have hkc:=h1.cell k hk j hj
 rw[rP,cell_of_row _ g (k*n+j) _ E (0,0) h2] at hkc
 have hlt:k*n+j<cs.size:=by
  have hj':j<(f l[k]).length:=by rw[hf];exact hj
  rw[List.getElem?_eq_getElem hj'] at hkc
  exact(Array.getElem?_eq_some_iff.1 hkc).1
 rw[List.getElem_set]
 by_cases hik:k=i
 ·subst hik
  rw[if_pos rfl,hx,List.getElem?_set]
  by_cases hjq:j=q
  ·subst hjq
   have hj':j<(f l[k]).length:=by rw[hf];exact hj
   simp[hlt,hj']
  ·rw[if_neg hjq,Array.getElem?_setIfInBounds_ne AL]
   exact hc
 ·rw[if_neg hik,Array.getElem?_setIfInBounds_ne ?_]
  ·exact hc
  ·intro e
   have h3:k<i∨i<k:=by omega
   rcases h3 with h3 |h3
   ·have:=Nat.mul_le_mul_right n (show k+1≤i by omega)
    rw[Nat.add_mul] at this;omega
   ·have:=Nat.mul_le_mul_right n (show i+1≤k by omega)
    rw[Nat.add_mul] at this;omega
end
end Go.Cit
