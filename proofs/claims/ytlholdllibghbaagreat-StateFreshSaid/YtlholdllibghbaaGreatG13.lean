/- Texts of the proof, one behind the other: Copied, Is12, CfgLem, Print. No condition but those that each names. -/
import Derived.Test.YtlholdllibghbaaGreatG12
import Derived.Test.YtlholdllibghbaaGreatG10
import Derived.Test.YtlholdllibghbaaGreatG06
import Derived.Test.YtlholdllibghbaaGreatG09
import Derived.Deep.CutBlock
import Derived.Deep.DeepCutAuto
import Derived.Test.YtlholdllibghbaaGreatG11
import Derived.Test.YtlholdllibghbaaGreatKit
namespace Go.Proofs.YtlholdllibghbaaGreat
open Go Go.RowKit Go.Cit
theorem pO {α:Type} {f:α→List Value} {n:Nat} {E:TypeId} {B:Nat} {w:World} {a:Option Addr} {l:List α} {c:Nat} (h:aW f n E B w a l c) {g:Nat} (hg:blk a=some g):∃C,w.heap[g]? =some (.cells C E (0,0)):=by
 rcases h.row.2 with⟨hv,_⟩ |⟨g',c',cur,hv,_,hc,_⟩
 ·injection hv with h1;subst h1;simp[blk] at hg
 ·injection hv with h1;subst h1
  simp[blk] at hg
  subst hg
  exact⟨cur,hc⟩
theorem iJ {α:Type} {f:α→List Value} {n:Nat} {E T:TypeId} {B:Nat} {w:World} {a:Option Addr} {l:List α} {c:Nat} (h:aW f n E B w a l c) {k:Nat} {C:Array Value} {fr:Nat×Nat} (hk:w.heap[k]? =some (.cells C T fr)) (hne:E≠T):∀g,blk a=some g→g≠k:=by
 rintro g hg rfl
 obtain⟨D,hD⟩:=pO h hg
 rw[hk] at hD
 injection hD with hD
 injection hD with _ e
 exact hne e.symm
theorem lT {P:Program} {T E:TypeId} {n by_:Nat} {z:Value} (hE:bC P T E n by_ z) {ρ:Operand→Value} {o:Oper} (x:Operand) (v:Value) (C:Array Value) (hC:v.cells=C) (ho:o.op= .buildSlice T 1 #[(0,x)]) (hx:ρ x=v) (hv:C.size=n) (hn:n≤1000) (w:World):
 (execOp ρ o).run P w= .ok (.value (.slice (some ⟨w.heap.size,0,none⟩) 1 1)) (w.alloc (.cells C E)):=by
 subst hC;exact Ec hE x v ho hx hv hn w
theorem nR {ρ:Operand→Value} {o:Oper} {T T':TypeId} {w w':World} {x y:Operand} {v u r:Value} (ho:o.op= .call {callee:= .builtin .append,args:= #[x,y],argTypes:= #[T,T']}) (hx:ρ x=v) (hy:ρ y=u)
 (hr:(Builtin.append_ #[T,T'] o.type #[v,u]).run Tryz.prog w= .ok r w'):(execOp ρ o).run Tryz.prog w= .ok (.value r) w':=by
 unfold execOp
 simp only[ho,resolve,invoke,builtin,Sem.run_bind,Sem.run_pure,Result.andThen_ok,List.map_toArray,List.map_cons,List.map_nil,hx,hy,hr]
open Go Go.RowKit Go.Cit
def i1:I64:=⟨1,by decide⟩
def i0:I64:=⟨0,by decide⟩
open Go Go.RowKit Go.Cit
theorem ay {w w':World} {k:Nat} {o:Obj} (h:w.heap[k]? =some o) (hb:Below w.heap.size w w'):w'.heap[k]? =some o:=(hb.block k (Array.getElem?_eq_some_iff.1 h).1).trans h
theorem bT {w:World} {b i:Nat} {cs:Array Value} {E:TypeId} {fr:Nat×Nat} (v:Value) (h:w.heap[b]? =some (.cells cs E fr)):(w.setCell ⟨b,i,none⟩ v).heap[b]? =some (.cells (cs.setIfInBounds i v) E fr):=by
 simp[World.setCell,Array.getElem?_modify,h]
theorem EW {α β:Type} (f:α→β) (l:List α) (k:Nat) (x:α) (hk:k<l.length) (h:f x=f l[k]):(l.set k x).map f=l.map f:=by
 rw[List.map_set,h]
 apply List.ext_getElem?
 intro i
 rw[List.getElem?_set]
 by_cases hi:k=i
 ·subst hi;simp[hk]
 ·simp[hi]
theorem Dn {α:Type} {f:α→List Value} {n E B:Nat} {w:World} {a:Option Addr} {l:List α} {c:Nat} (h:aW f n E B w a l c) (hl:l≠ []):∃g,a=some ⟨g,0,none⟩∧B≤g∧g<w.heap.size:=by
 rcases h.row.2 with⟨hv,h0⟩ |⟨g,c',cur,hv,hB,hg,_⟩
 ·exact absurd (List.eq_nil_of_length_eq_zero h0) hl
 ·injection hv with h1
  exact⟨g,h1,hB,(Array.getElem?_eq_some_iff.1 hg).1⟩
def i3:I64:=⟨3,by decide⟩
@[reducible] def cU (U:aZ):Array Value:= #[.slice U.wa U.ws.length U.wc, .slice U.pa U.ps.length U.pc, .slice U.ca U.cs.length U.cc]
open Go Go.RowKit Go.Cit
def int8 (n:Int):List UInt8:=rowB (BI n) 8
theorem jY {α β:Type} (f:α→List β) (L:List α) (k:Nat) (h:k<L.length):(L.take (k+1)).flatMap f=(L.take k).flatMap f++f L[k]:=by
 rw[List.take_succ_eq_append_getElem h,List.flatMap_append];simp
theorem uI {α β:Type} (f:α→List β) (L:List α) (k:Nat):((L.take k).flatMap f).length≤(L.flatMap f).length:=by
 conv=>rhs;rw[←List.take_append_drop k L,List.flatMap_append,List.length_append]
 omega
def FI (x:Ch):List UInt8:=(int8 x.id.1)++(int8 x.src.1)++(int8 x.dst.1)++(int8 x.cap.1)++(int8 x.size.1)
end Go.Proofs.YtlholdllibghbaaGreat
