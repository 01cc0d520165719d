/- Texts of the proof, one behind the other: Set, Pairs, VAll, VChk. No condition but those that each names. -/
import Derived.Test.YtlholdllibghbaaGreatG10
import Derived.Deep.MidRow
import Derived.Deep.Upon
import Derived.Deep.AppendSrc
import Derived.IntWalk
import Derived.Test.YtlholdllibghbaaGreatG02
import Derived.Laws.OwnMore
import Derived.Test.YtlholdllibghbaaGreatG06
import Derived.RangeFuncNested
import Derived.RangeFuncBound
import Derived.RangeFuncCalls
import Derived.RangeFuncLeaves
import Derived.Shelf.Abstract
import Derived.Shelf.RegionOpen
import Derived.OwnWalkIn
import Derived.TacticsInMore
import Derived.LoopNIn
import Derived.LoopIn
import Derived.Laws.EntriesVeiled
import Derived.Test.YtlholdllibghbaaGreatKit
set_option maxRecDepth 100000
set_option maxHeartbeats 8000000
namespace Go.Cit
open Go Go.RowKit
section
variable {α:Type} {f:α→List Value} {n:Nat} {E:TypeId}
structure Held (f:α→List Value) (n:Nat) (E:TypeId) (w:World) (g:Nat) (l:List α) (cap:Nat):Prop where
 vec:Vec f n w (some ⟨g,0,none⟩) l cap
 blk:∃cs,w.heap[g]? =some (.cells cs E (0,0))
theorem aW.held {B:Nat} {w:World} {g:Nat} {l:List α} {cap:Nat} (hf:∀x,(f x).length=n) (h:aW f n E B w (some ⟨g,0,none⟩) l cap):Held f n E w g l cap:=
 ⟨h.vec hf,by
  rcases h.row.2 with⟨hv,_⟩ |⟨g',c',cur,hv,_,hc,_⟩
  ·simp at hv
  ·simp only[Value.slice.injEq,Option.some.injEq,Addr.mk.injEq,and_true,true_and] at hv
   obtain⟨rfl,_⟩:=hv
   exact⟨cur,hc⟩⟩
theorem Held.stay {w w':World} {g:Nat} {l:List α} {cap:Nat} (hf:∀x,(f x).length=n) (h:Held f n E w g l cap) (hb:Below w.heap.size w w'):Held f n E w' g l cap:=by
 obtain⟨h1,cs,h2⟩:=h
 exact⟨h1.stay hf hb,cs,(hb.block _ (Array.getElem?_eq_some_iff.1 h2).1).trans h2⟩
theorem Held.save {S:Nat→Prop} {w w':World} {g:Nat} {l:List α} {cap:Nat} (hf:∀x,(f x).length=n) (h:Held f n E w g l cap) (hs:Save S w w') (hg:S g):Held f n E w' g l cap:=by
 obtain⟨h1,cs,h2⟩:=h
 exact⟨h1.save hf hs (fun _ j hj=>by simp[Go.Cit.blk] at hj;rw[←hj];exact hg),cs,(hs.block _ (Array.getElem?_eq_some_iff.1 h2).1 hg).trans h2⟩
theorem Held.free {w:World} {g:Nat} {l:List α} {cap:Nat} (h:Held f n E w g l cap) (j:Nat):w.frozen? ⟨g,j,none⟩=false:=by
 obtain⟨_,cs,h2⟩:=h
 simp[World.frozen?,h2]
theorem lV {w:World} {b i:Nat} {cs:Array Value} {fr:Nat×Nat} (v:Value) (h:w.heap[b]? =some (.cells cs E fr)):(w.setCell ⟨b,i,none⟩ v).heap[b]? =some (.cells (cs.setIfInBounds i v) E fr):=by
 simp[World.setCell,Array.getElem?_modify,h]
theorem Held.set {w:World} {g:Nat} {l:List α} {cap:Nat} (h:Held f n E w g l cap) (hf:∀x,(f x).length=n) {k j:Nat} (hk:k<l.length) (hj:j<n) {x:α} {v:Value} (hx:f x=(f l[k]).set j v):
 Held f n E (w.setCell ⟨g,k*n+j,none⟩ v) g (l.set k x) cap:=by
 obtain⟨h1,cs,h2⟩:=h
 refine⟨⟨by rw[List.length_set];exact h1.le,h1.top,h1.nil,fun _=>⟨g,0,rfl⟩,fun i hi q hq=> ?_⟩,_,lV v h2⟩
 rw[List.length_set] at hi
 rw[iG,cell_of_row _ g (i*n+q) _ E (0,0) (lV v h2)]
 have hc:=h1.cell i hi q hq
 rw[iG,cell_of_row _ g (i*n+q) _ E (0,0) h2] at hc
 have hkc:=h1.cell k hk j hj
 rw[iG,cell_of_row _ g (k*n+j) _ E (0,0) h2] at hkc
 have hlt:k*n+j<cs.size:=by
  have hj':j<(f l[k]).length:=by rw[hf];exact hj
  rw[List.getElem?_eq_getElem hj'] at hkc
  exact(Array.getElem?_eq_some_iff.1 hkc).1
 rw[List.getElem_set]
 by_cases hik:k=i
 ·subst hik
  rw[if_pos rfl,hx,List.getElem?_set]
  by_cases hjq:j=q
  ·subst hjq
   have hj':j<(f l[k]).length:=by rw[hf];exact hj
   simp[hlt,hj']
  ·rw[if_neg hjq,Array.getElem?_setIfInBounds_ne AL]
   exact hc
 ·rw[if_neg hik,Array.getElem?_setIfInBounds_ne ?_]
  ·exact hc
  ·intro e
   have h3:k<i∨i<k:=by omega
   rcases h3 with h3 |h3
   ·have:=Nat.mul_le_mul_right n (show k+1≤i by omega)
    rw[Nat.add_mul] at this;omega
   ·have:=Nat.mul_le_mul_right n (show i+1≤k by omega)
    rw[Nat.add_mul] at this;omega
end
end Go.Cit
namespace Go.Cit
open Go Go.RowKit
structure aX (W W':World):Prop where
 size:W.heap.size≤W'.heap.size
 cells:∀(k:Nat) (C:Array Value) (T:TypeId) (fr:Nat×Nat),W.heap[k]? =some (.cells C T fr)→W'.heap[k]? =some (.cells C T fr)
theorem aX.refl (W:World):aX W W:=⟨Nat.le_refl _,fun _ _ _ _ h=>h⟩
theorem aX.trans {A B C:World} (h:aX A B) (k:aX B C):aX A C:=⟨Nat.le_trans h.size k.size,fun _ _ _ _ x=>k.cells _ _ _ _ (h.cells _ _ _ _ x)⟩
theorem aX.of {A B:World} (h:Below A.heap.size A B):aX A B:=⟨h.size,fun k _ _ _ x=>(h.block k (Array.getElem?_eq_some_iff.1 x).1).trans x⟩
theorem aX.alloc (W:World) (o:Obj):aX W (W.alloc o):= .of ((Below.refl _ _).alloc (Nat.le_refl _) _)
theorem aX.put {w W:World} {l:Nat} {o o':Obj} (h:W.heap[l]? =some o) (hc:o.isCells=false):aX W (W.putObj l o'):=by
 refine⟨by simp,fun k C T fr x=> ?_⟩
 by_cases e:k=l
 ·subst e;rw[h] at x;cases x;cases hc
 ·exact(World.putObj_heap_other e).trans x
theorem aX.cell {A B:World} (h:aX A B) {p:Addr} {v:Value} (hp:A.cell? p=some v):B.cell? p=some v:=by
 unfold World.cell? at hp ⊢
 split at hp
 ·rename_i C e fr hk
  rw[h.cells _ _ _ _ hk];exact hp
 ·exact absurd hp AO
theorem Vec.kc {α:Type} {f:α→List Value} {n:Nat} {w w':World} {a:Option Addr} {l:List α} {c:Nat} (h:Vec f n w a l c) (hf:∀x,(f x).length=n) (k:aX w w'):Vec f n w' a l c:=by
 refine⟨h.le,h.top,h.nil,h.spot,fun i hi j hj=> ?_⟩
 have e:=h.cell i hi j hj
 have hj':j<(f l[i]).length:=by rw[hf];exact hj
 rw[List.getElem?_eq_getElem hj'] at e ⊢
 exact k.cell e
theorem Vec.from_ {P:Program} {T E:TypeId} {n by_:Nat} {z:Value} {α:Type} {f:α→List Value} (hE:bC P T E n by_ z) {w:World} {a:Option Addr} {cap:Nat} {l:List α} (h:Vec f n w a l cap) (lo:Nat) (h1:lo≤l.length):∃a' m cap',m=l.drop lo∧
 (∀w,(Instr.sliceAt T (.slice a l.length cap) (some (.int .i64 (lo:Int))) none none).run P w= .ok (.slice a' m.length cap') w)∧Vec f n w a' m cap':=by
 have hT:=hE.slice
 have he:P.elem T=E:=by simp[Program.elem,hT]
 have hle:=h.le
 have htop:=h.top
 have hlen:(l.drop lo).length=l.length-lo:=List.length_drop
 refine⟨if cap=lo then a else a.map (·.add (lo*n)),_,cap-lo,rfl,fun w=> ?_,by omega,by omega,fun hn=> ?_,fun hne=> ?_,fun i hi j hj=> ?_⟩
 ·rw[run_sliceAt_slice _ _ _ _ _ _ (by rw[he];exact hT),run_slice_l w T a _ _ (by rw[he];exact hT) .i64 lo AL AL,he,hE.sz]
  simp[Result.andThen,sliced]
 ·split at hn
  ·omega
  ·have:=h.nil (by simpa using hn);omega
 ·have hlt:lo<l.length:=by
   rcases Nat.lt_or_ge lo l.length with h |h
   ·exact h
   ·exact absurd (List.eq_nil_of_length_eq_zero AL) hne
  obtain⟨b,off,rfl⟩:=h.spot (by intro h0;simp[h0] at hlt)
  rw[if_neg AL]
  refine⟨b,off+lo*n, ?_⟩
  by_cases h0:lo*n=0
  ·simp[Addr.add,h0]
  ·simp[Addr.add,h0]
 ·have hl:lo+i<l.length:=by omega
  obtain⟨b,off,rfl⟩:=h.spot (by intro h0;simp[h0] at hl)
  rw[if_neg AL]
  have hc:=h.cell (lo+i) hl j hj
  have e:ad (Option.map (·.add (lo*n)) (some (⟨b,off,none⟩:Addr))) (i*n+j)=ad (some ⟨b,off,none⟩) ((lo+i)*n+j):=by
   rw[Nat.add_mul]
   by_cases h0:lo*n=0
   ·simp[Addr.add,ad,h0]
   ·simp[Addr.add,ad,h0,Nat.add_assoc]
  rw[e,hc]
  simp
end Go.Cit
namespace Go.Proofs.YtlholdllibghbaaGreat
open Go Go.RowKit Go.Cit Go.Shelf
attribute [local go_sem] Oper.semAt_some
def bV:List Reg→List (Reg×Reg)
 | []=> []
 | a::r=>r.map (fun b=>(a,b))++bV r
theorem uT (l:List Reg) (k:Nat) (h:k<l.length):bV (l.drop k)=(l.drop (k+1)).map (fun b=>(l[k],b))++bV (l.drop (k+1)):=by
 rw[List.drop_eq_getElem_cons h];rfl
theorem kW {w w':World} {a:Option Addr} {l:List Reg} {c:Nat} (h:Vec xK 2 w a l c) (hb:aX w w') (k:Nat) (hk:k<l.length):
 w'.cell? (ad a (k*2))=some (.int .i64 l[k].base.1)∧w'.cell? ⟨(ad a (k*2)).block,(ad a (k*2)).off+1,none⟩=some (.int .i64 l[k].size.1):=by
 have h:=h.kc iW hb
 exact⟨h.pW k hk AP rfl,h.field k hk 1 AP rfl⟩
theorem Ae (m L Bn:Nat) (a:Option Addr) (l:List Reg) (c:Nat) (J Jx:List (Reg×Reg)→World→Prop) (hJ:∀s W o,J s W→J s (W.alloc o))
 (hY:∀pre x W,J pre W→pre.length<(bV l).length→YieldAt Fence.wide (m-1) Tryz.prog L #[.agg #[.int .i64 x.1.base.1, .int .i64 x.1.size.1], .agg #[.int .i64 x.2.base.1, .int .i64 x.2.size.1]] W fun e W'=>
  (e= .returned (.bool true)∧J (pre++ [x]) W'∧aX W W')∨(e= .returned (.bool false)∧Jx (pre++ [x]) W'))
 (W:World) (hc:W.cell? ⟨Bn,0,none⟩=some (.slice a l.length c)) (hv:Vec xK 2 W a l c) (h0:J [] W):
 CallsIn Fence.wide m Tryz.prog 262 #[.func (.yield L) #[] #[], .pointer (some ⟨Bn,0,none⟩)] W fun e W'=>(∃v,e= .returned v)∧
  ((∃ys,ys=bV l∧J ys W')∨(∃pre,pre<+:bV l∧Jx pre W')):=by
 have hlen:=hv.aI
 have HV:=AQ hv
 have HJ:=AQ hJ
 have HY:=AQ hY
 have HC:=AQ hc
 clear hJ hY hv
 refine callsIn_of_wp Tryz.func262 rfl trivial ?_ rfl
 simp only[Tryz.ntmps262,List.size_toArray,List.length_cons,List.length_nil,Nat.reduceAdd,Nat.reduceSub,Array.replicate_succ,Array.replicate_zero,List.push_toArray,List.append_toArray,List.nil_append,List.cons_append]
 gi_wp2
 gi_loopw [9] (fun s wr=>∃(k:Nat) (pre:List (Reg×Reg)),s= .int .i64 k∧k≤l.length∧Hid (pre++bV (l.drop k)=bV l)∧aX W wr∧J pre wr) (fun s _=>l.length-(intOf s).toNat)
 case atStart=>exact⟨0,[],rfl,Nat.zero_le _,rfl,aX.refl _,h0⟩
 case round=>
  obtain⟨k,pre,rfl,hk,HP,hK,hJs⟩:=hrel
  by_cases hlt:k<l.length
  ·have i0:=HV.o.index Gu k hlt
   obtain⟨d0,d1⟩:=kW HV.o hK k hlt
   have hcc:=hK.cell HC.o
   have hbn:Bn<wr.heap.size:=World.block_lt_of_cell? wr _ hcc
   have hbn2:Bn≠wr.heap.size:=by omega
   obtain⟨a2,m2,c2,hm2,hrun2,v2⟩:=HV.o.from_ Gu (k+1) hlt
   rw[show((k+1:Nat):Int)=(k:Int)+1 from rfl] at hrun2
   have HPD:=AQ (uT l k hlt)
   obtain⟨x,hx⟩:∃x:Reg,Hid (x=l[k]):=⟨l[k],rfl⟩
   rw[←hx.o] at d0 d1 HPD
   have HM2:=AQ hm2
   have HV2:=AQ v2
   have hl2:=v2.aI
   obtain⟨wk,hwk⟩:=AV (wr.alloc (.cells #[.int .i64 x.base.1, .int .i64 x.size.1] 44))
   have hKk:aX W wk:=by rw[hwk];exact hK.trans (aX.alloc _ _)
   have hJk:J pre wk:=by rw[hwk];exact HJ.o _ _ _ hJs
   have hcx:=ES wr (.int .i64 x.base.1) (.int .i64 x.size.1) 44
   rw[←hwk] at hcx
   have hcc2:wk.cell? ⟨Bn,0,none⟩=some (.slice a l.length c):=by rw[hwk];exact keepA _ hcc
   have HKk:=AQ (And.intro hKk (And.intro hJk hcx))
   clear hm2 v2 hKk hJk hcx
   gi_wp2
   rw[←hwk]
   clear hwk
   gi_loopw [19] (fun s wx=>∃(m:Nat) (pre':List (Reg×Reg)),s= .int .i64 m∧m≤m2.length∧Hid (pre'++((m2.drop m).map (fun b=>(x,b))++bV (l.drop (k+1)))=bV l)∧aX wk wx∧J pre' wx) (fun s _=>m2.length-(intOf s).toNat)
   case atStart=>exact⟨0,pre,rfl,Nat.zero_le _,by rw[Hid,List.drop_zero,HM2.o,←HPD.o];exact HP.o,aX.refl _,HKk.o.2.1⟩
   case round=>
    obtain⟨t,pre',rfl,ht,HP2,hK2,hJ2⟩:=hrel
    by_cases hlt2:t<m2.length
    ·have j0:=HV2.o.index Gu t hlt2
     obtain⟨e0,e1⟩:=kW HV2.o (HKk.o.1.trans hK2) t hlt2
     have x0:=hK2.cell HKk.o.2.2.1
     have x1:=hK2.cell HKk.o.2.2.2
     obtain⟨y,hy⟩:∃y:Reg,Hid (y=m2[t]):=⟨m2[t],rfl⟩
     rw[←hy.o] at e0 e1
     have HP3:Hid ((pre'++ [(x,y)])++((m2.drop (t+1)).map (fun b=>(x,b))++bV (l.drop (k+1)))=bV l):=by
      rw[Hid,←HP2.o,List.drop_eq_getElem_cons hlt2,hy.o,List.map_cons,List.append_assoc];rfl
     have HLN:Hid (pre'.length<(bV l).length):=by rw[Hid,←HP3.o];simp
     have HPX:Hid ((pre'++ [(x,y)])<+:bV l):=⟨_,HP3.o⟩
     have hKa:=aX.alloc wr (.cells #[.int .i64 y.base.1, .int .i64 y.size.1] 44)
     have x0':=keepA (.cells #[.int .i64 y.base.1, .int .i64 y.size.1] 44) x0
     have x1':=keepA (.cells #[.int .i64 y.base.1, .int .i64 y.size.1] 44) x1
     obtain⟨fn,tmps,assign,body,hyy,hR⟩:=HY.o pre' (x,y) (wr.alloc (.cells #[.int .i64 y.base.1, .int .i64 y.size.1] 44)) (HJ.o _ _ _ hJ2) HLN.o
     dsimp only at hyy
     have HKa:=AQ (hK2.trans hKa)
     clear hKa hK2 hJ2
     gi_wp2
     refine⟨fun h=>(by cases h),hR.mono ?_⟩
     rintro e W3 (⟨rfl,hJ3,hk3⟩ |⟨rfl,hJx3⟩)
     ·gi_wp2
      go_roundw
      case rel=>exact⟨t+1,pre'++ [(x,y)],by go_num,by omega,HP3.o,HKa.o.trans hk3,hJ3⟩
      case measure=>simp[intOf];omega
     ·gi_wp2
      refine bodyPost_ret (results_none rfl _ _ _) rfl ?_
      exact⟨⟨_,rfl⟩, .inr ⟨pre'++ [(x,y)],HPX.o,hJx3⟩⟩
    ·have ht2:t=m2.length:=by omega
     have HP3:Hid (pre'++bV (l.drop (k+1))=bV l):=by
      have:=HP2.o
      rw[ht2,List.drop_length] at this
      rw[Hid]
      simpa using this
     clear ht2
     gi_wp2
     go_roundw
     case rel=>exact⟨k+1,pre',by go_num,by omega,HP3.o,HKk.o.1.trans hK2,hJ2⟩
     case measure=>simp[intOf];omega
  ·have hk2:k=l.length:=by omega
   have HE:Hid (pre=bV l):=by
    have:=HP.o
    rw[hk2,List.drop_length] at this
    rw[Hid]
    simpa[bV] using this
   clear hk2
   gi_wp2
   go_end0
   exact⟨⟨_,rfl⟩, .inl ⟨pre,HE.o,hJs⟩⟩
theorem fP {W W':World} {B:Nat} {t:TypeId} {v:Value} (h:Boxed W B t v) (hb:Below W.heap.size W W'):Boxed W' B t v:=(hb.block B h.lt).trans h
theorem vJ {X Y:World} {row:Option Nat} {k:Nat} {C:Array Value} {T:TypeId} {fr:Nat×Nat} (h:X.heap[k]? =some (.cells C T fr)) (hg:X.grownBy Y row) (hr:∀r,row=some r→∃o:Obj,X.heap[r]? =some o∧o.isCells=false):Y.heap[k]? =some (.cells C T fr):=
 (hg.block k (Array.getElem?_eq_some_iff.1 h).1 (fun e=>by obtain⟨o,ho,hc⟩:=hr k e.symm;rw[h] at ho;cases ho;cases hc)).trans h
theorem vY (w:World) (a:Option Addr) (l:List Reg) (c:Nat):Calls Tryz.prog 258 #[.slice a l.length c] w fun e w'=>
 e= .returned (.func (.func 262) #[] #[.pointer (some ⟨w.heap.size,0,none⟩)])∧w'=w.alloc (.cells #[.slice a l.length c] 279):=by
 go_enter Tryz.func258,Tryz.ntmps258
 go_wp2_with fail
 go_ret
 exact⟨rfl,rfl⟩
def jX (l:List Reg):Int:=if l.all dY then (if (bV l).all (fun p=>jW p.1 p.2) then 0 else 121) else 2
theorem pairs_stops (m:Nat) (Bn:Nat) (a:Option Addr) (l:List Reg) (c:Nat) (w:World) (hc:w.cell? ⟨Bn,0,none⟩=some (.slice a l.length c)) (hv:Vec xK 2 w a l c):
 SeqStopsK Fence.wide m Tryz.prog 262 #[.pointer (some ⟨Bn,0,none⟩)] (fun x:Reg×Reg=> #[.agg #[.int .i64 x.1.base.1, .int .i64 x.1.size.1], .agg #[.int .i64 x.2.base.1, .int .i64 x.2.size.1]]) aX (fun ys=>ys=bV l) (fun pre=>pre<+:bV l) (bV l).length w:=
 fun L J Jx W hW hJ _ hY h0=>Ae m L Bn a l c J Jx (fun s A o h=>hJ s A _ none h (World.grownBy_alloc A o none) (fun r e=>by cases e)) hY W (keep hW hc) (hv.stay iW hW) h0
theorem yB (w:World) (a:Option Addr) (l:List Reg) (c:Nat) (h:Vec xK 2 w a l c):Calls Tryz.prog 251 #[.slice a l.length c] w fun e w'=>e= .returned (.int .i64 (jX l))∧Below w.heap.size w w':=by
 obtain⟨R,HR⟩:=AU (jX l)
 rw[←HR.o]
 have hlen:=h.aI
 have HH:=AQ h
 clear h
 refine(callsIn_wide (n:=6)).1 ?_
 refine callsIn_of_wp_marks Tryz.func251 rfl trivial ?_ rfl
 simp only[Tryz.ntmps251,List.size_toArray,List.length_cons,List.length_nil,Nat.reduceAdd,Nat.reduceSub,Array.replicate_succ,Array.replicate_zero,List.push_toArray,List.append_toArray,List.nil_append,List.cons_append]
 obtain⟨w0,hw0⟩:=AV (w.alloc (.cells #[.int .i64 0] 33))
 have hB0:Below w.heap.size w w0:=by rw[hw0];exact(Below.refl _ w).alloc (Nat.le_refl _) _
 have bR0:Boxed w0 w.heap.size 33 (.int .i64 0):=by rw[hw0];exact Boxed.new w _ _
 have hsz0:w0.heap.size=w.heap.size+1:=by rw[hw0];simp
 have HV0:=AQ (HH.o.stay iW hB0)
 gi_wp2
 rw[←hw0]
 clear hw0
 gi_loopw [9] (fun s wr=>∃k:Nat,s= .int .i64 k∧k≤l.length∧Hid ((l.take k).all dY=true)∧Below w0.heap.size w0 wr) (fun s _=>l.length-(intOf s).toNat)
 case atStart=>exact⟨0,rfl,Nat.zero_le _,rfl,Below.refl _ _⟩
 case round=>
  obtain⟨k,rfl,hk,ha,B⟩:=hrel
  by_cases hlt:k<l.length
  ·have i0:=HV0.o.index Gu k hlt
   obtain⟨d0,d1⟩:=kW HV0.o (aX.of B) k hlt
   have HT:=AQ (pG dY l k hlt)
   have HNT:=AQ (uy dY l k hlt)
   obtain⟨x,hx⟩:∃x:Reg,Hid (x=l[k]):=⟨l[k],rfl⟩
   rw[←hx.o] at d0 d1 HT HNT
   have HC:=AQ (fun w=>eu w x)
   have HB:Hid (∀C,Below w0.heap.size w0 (wr.alloc (.cells C 44))):=fun C=>B.alloc B.size _
   have bR:=bR0.kept (show w0.grownBy wr none from⟨B.os,B.tape,B.output,B.size,fun k hk _=>B.block k hk⟩) AO
   cases hq:dY x with
   |
    true=>
    rw[hq] at HC
    have HA:Hid ((l.take (k+1)).all dY=true):=by rw[Hid,HT.o,ha.o,hq];rfl
    clear hq
    gi_wp2_with (refine⟨trivial, ?_⟩;gi_at_call 180;refine(callsIn_wide.2 (HC.o _)).mono ?_;rintro e w2 ⟨rfl,hb2⟩)
    go_roundw
    case rel=>exact⟨k+1,by go_num,by omega,HA.o,(HB.o _).trans (hb2.mono (HB.o _).size)⟩
    case measure=>simp[intOf];omega
   |
    false=>
    rw[hq] at HC
    have HF:Hid (R=2):=by rw[Hid,HR.o,jX,HNT.o hq];rfl
    clear hq
    have bRa:=fP bR ((Below.refl _ wr).alloc (Nat.le_refl _) (.cells #[.int .i64 x.base.1, .int .i64 x.size.1] 44))
    clear bR
    gi_wp2_with (refine⟨trivial, ?_⟩;gi_at_call 180;refine(callsIn_wide.2 (HC.o _)).mono ?_;rintro e w2 ⟨rfl,hb2⟩;have bR2:=fP bRa hb2;have cR:=bR2.cell;have fR:=bR2.frozen)
    refine⟨.int .i64 2, ?_,bM HF.o.symm, ?_⟩
    ·simp[results,Tryz.f251,go_sem,(bR2.set (.int .i64 2)).cell]
    ·exact((hB0.trans ((HB.o _).mono hB0.size)).trans (hb2.mono (by have:=hB0.size;have:=(HB.o #[.int .i64 x.base.1, .int .i64 x.size.1]).size;omega))).setCell (p:=⟨w.heap.size,0,none⟩) (Nat.le_refl _) _
  ·have hk2:k=l.length:=by omega
   have HA:Hid (l.all dY=true):=by have:=ha.o;rw[hk2,List.take_length] at this;exact this
   clear hk2
   gi_wp2_with (refine⟨trivial, ?_⟩;gi_at_call 258;refine(callsIn_wide.2 (vY _ _ _ _)).mono ?_;rintro e w2 ⟨rfl,rfl⟩)
   have hBr:Below w.heap.size w wr:=hB0.trans (B.mono hB0.size)
   have hB3:Below w.heap.size w (wr.alloc (.cells #[.slice a l.length c] 279)):=hBr.alloc hBr.size _
   have hsz3:(wr.alloc (.cells #[.slice a l.length c] 279)).heap.size=wr.heap.size+1:=by simp
   have bR3:=fP (fP bR0 B) ((Below.refl _ wr).alloc (Nat.le_refl _) (.cells #[.slice a l.length c] 279))
   have hV3:=HH.o.stay iW (hB3.mono (Nat.le_refl _))
   have hC3:(wr.alloc (.cells #[.slice a l.length c] 279)).cell? ⟨wr.heap.size,0,none⟩=some (.slice a l.length c):=by rw[World.cell?,heap_alloc_new];rfl
   obtain⟨w3,hw3⟩:=AV (wr.alloc (.cells #[.slice a l.length c] 279))
   have hlr:=hBr.size
   rw[←hw3] at hB3 hsz3 bR3 hV3 hC3 ⊢
   clear hw3
   have HRA:Hid (R=(if (bV l).all (fun p=>jW p.1 p.2) then 0 else 121)):=by rw[Hid,HR.o,jX,HA.o];rfl
   refine wpIn_rangeFunc_ownH rfl AP (gf:=262) (lb:= #[.pointer (some ⟨wr.heap.size,0,none⟩)]) rfl trivial (enters_of Tryz.func262 AB rfl)
    (pairs_stops (6-1) wr.heap.size a l c w3 hC3 hV3) (fun h k=>aX.trans h k) (fun W L o o' _ ho hc _=>aX.put (w:=W) ho hc) (Below.refl _ _) (fun _=>rfl)
    (fun pre W=>((∀p∈pre,jW p.1 p.2=true)∧Boxed W w.heap.size 33 (.int .i64 0))∧Below w.heap.size w W)
    (fun cd pre W=>((cd= .ret∧∃p∈pre,jW p.1 p.2=false)∧Boxed W w.heap.size 33 (.int .i64 121))∧Below w.heap.size w W)
    (OwnFrom.and (OwnFrom.and (ownFrom_pure _ _) (Own.from (boxed_own _ _ _) _)) (ownFrom_below (Nat.le_refl _) hB3.size))
    (fun cd=>OwnFrom.and (OwnFrom.and (ownFrom_pure _ _) (Own.from (boxed_own _ _ _) _)) (ownFrom_below (Nat.le_refl _) hB3.size))
    ⟨⟨fun p hp=>by simp at hp,bR3⟩,hB3⟩
    (fun x a' W=>∃Ba Bb,W.heap[Ba]? =some (.cells #[.int .i64 x.1.base.1, .int .i64 x.1.size.1] 44 (0,0))∧W.heap[Bb]? =some (.cells #[.int .i64 x.2.base.1, .int .i64 x.2.size.1] 44 (0,0))∧
     a'= {tmps:= #[.slice a l.length c,undef, .pointer (some ⟨w.heap.size,0,none⟩),undef,u4, .pointer (some ⟨Ba,0,none⟩), .pointer (some ⟨Bb,0,none⟩), .slice a l.length c, .int .i64 l.length, .int .i64 k, .bool false,u11,u12,u13,u14,u15,u16, .slice a l.length c,
      .func (.func 262) #[] #[.pointer (some ⟨wr.heap.size,0,none⟩)], .agg #[.int .i64 x.1.base.1, .int .i64 x.1.size.1], .agg #[.int .i64 x.2.base.1, .int .i64 x.2.size.1],undef,undef,undef,undef],defers:=[]})
    (fun x a' _ X Y row hs hg hr=>by obtain⟨Ba,Bb,e1,e2,e3⟩:=hs;exact⟨Ba,Bb,vJ e1 hg (fun r e=>(hr r e).2),vJ e2 hg (fun r e=>(hr r e).2),e3⟩)
    ?assign ?body ?done ?stop
   case assign=>
    rintro L pre x W K ⟨⟨hp,bR1⟩,hB1⟩ hK
    have hh1:=heap_alloc_new W (.cells #[.int .i64 x.1.base.1, .int .i64 x.1.size.1] 44)
    have hh2:=heap_alloc_new (W.alloc (.cells #[.int .i64 x.1.base.1, .int .i64 x.1.size.1] 44)) (.cells #[.int .i64 x.2.base.1, .int .i64 x.2.size.1] 44)
    have hh3:((W.alloc (.cells #[.int .i64 x.1.base.1, .int .i64 x.1.size.1] 44)).alloc (.cells #[.int .i64 x.2.base.1, .int .i64 x.2.size.1] 44)).heap[W.heap.size]? =some (.cells #[.int .i64 x.1.base.1, .int .i64 x.1.size.1] 44 (0,0)):=(Below.heap_alloc _ _ _ AO).trans hh1
    rw[World.size_alloc] at hh2
    have HH9:=AQ (And.intro hh2 hh3)
    clear hh1 hh2 hh3
    gi_wp2
    exact hK _ _ (((KeepsOthers.alloc _ _).trans (KeepsOthers.alloc _ _)).from _) ((aX.alloc _ _).trans (aX.alloc _ _)) ⟨⟨hp,(bR1.alloc _).alloc _⟩,(hB1.alloc hB1.size _).alloc (by simp;have:=hB1.size;omega) _⟩ ⟨_,_,HH9.o.2,HH9.o.1,rfl⟩
   case body=>
    rintro L pre x a' W hL ⟨r,hr⟩ ⟨⟨hp,bR1⟩,hB1⟩ ⟨Ba,Bb,hBa,hBb,rfl⟩ hlt2
    have a0:=ak hBa 0 rfl
    have a1:=ak hBa 1 rfl
    have b0:=ak hBb 0 rfl
    have b1:=ak hBb 1 rfl
    have HC:=AQ (uq W x.1 x.2)
    clear hBa hBb
    cases hq:jW x.1 x.2 with
    |
     true=>
     rw[hq] at HC
     have HA2:Hid (∀p∈pre++ [x],jW p.1 p.2=true):=fun p hp'=>(List.mem_append.1 hp').elim (hp p) (fun e=>by simp at e;subst e;exact hq)
     clear hq
     gi_wp2_with (refine⟨trivial, ?_⟩;gi_at_call 259;refine(CallsIn.inRound L (callsIn_wide.2 HC.o)).mono ?_;rintro e w2 ⟨rfl,hb2⟩)
     exact⟨⟨hb2.size,fun k o hk h0 ho=>(hb2.block k (Array.getElem?_eq_some_iff.1 h0).1).trans h0⟩,aX.of hb2,⟨⟨HA2.o,fP bR1 hb2⟩,hB1.trans (hb2.mono hB1.size)⟩⟩
    |
     false=>
     rw[hq] at HC
     have HQ:=AQ hq
     clear hq
     gi_wp2_with (refine⟨trivial, ?_⟩;gi_at_call 259;refine(CallsIn.inRound L (callsIn_wide.2 HC.o)).mono ?_;rintro e w2 ⟨rfl,hb2⟩;have bR2:=fP bR1 hb2;have cR:=bR2.cell;have fR:=bR2.frozen)
     exact⟨(KeepsFrom.mk hb2.size fun k o hk h0 ho=>(hb2.block k (Array.getElem?_eq_some_iff.1 h0).1).trans h0).trans ((KeepsOthers.setCell _ _ _).from _),⟨⟨rfl,x,by simp,HQ.o⟩,bR2.set _⟩,(hB1.trans (hb2.mono hB1.size)).setCell (p:=⟨w.heap.size,0,none⟩) (Nat.le_refl _) _⟩
   case done=>
    rintro D ys W hD rfl ⟨⟨hp,bR1⟩,hB1⟩ hK
    have cR:=bR1.cell
    have fR:=bR1.frozen
    have HF:Hid (R=0):=by rw[Hid,HRA.o,if_pos (List.all_eq_true.2 hp)]
    gi_wp2
    have hK':=(KeepsOthers.setCell W ⟨w.heap.size,0,none⟩ (.int .i64 0)).same D _ hK rfl
    refine⟨by simp, .inl ⟨_,_,rfl,run_takeDeferred hK', ?_⟩⟩
    have hc5:=cell_kept (bR1.set (.int .i64 0)).cell (grownBy_putObj' _ D (.deferred none)) (fun r e=>by cases e;exact⟨_,hK',rfl⟩)
    refine⟨.int .i64 0, ?_,bM HF.o.symm,(hB1.setCell (p:=⟨w.heap.size,0,none⟩) (Nat.le_refl _) _).trans (belowK_b (w:=w) (Nat.le_refl _) _ D _ _ AL hK' rfl rfl)⟩
    simp[results,Tryz.f251,go_sem,hc5]
   case stop=>
    rintro D cd pre W hD hpre ⟨⟨⟨rfl,p,hp,hq⟩,bR1⟩,hB1⟩ hK
    have HF:Hid (R=121):=by
     rw[Hid,HRA.o,if_neg]
     intro h
     have:=List.all_eq_true.1 h p (hpre.subset hp)
     rw[hq] at this
     exact absurd this AP
    gi_wp2
    refine⟨by simp, .inl ⟨_,_,rfl,run_takeDeferred hK, ?_⟩⟩
    have hc5:=cell_kept bR1.cell (grownBy_putObj' _ D (.deferred none)) (fun r e=>by cases e;exact⟨_,hK,rfl⟩)
    refine⟨.int .i64 121, ?_,bM HF.o.symm,hB1.trans (belowK_b (w:=w) (Nat.le_refl _) W D _ _ AL hK rfl rfl)⟩
    simp[results,Tryz.f251,go_sem,hc5]
end Go.Proofs.YtlholdllibghbaaGreat
namespace Go.Cit
open Go Go.RowKit
theorem Ec {P:Program} {T E:TypeId} {n by_:Nat} {z:Value} (hE:bC P T E n by_ z) {ρ:Operand→Value} {o:Oper} (x:Operand) (v:Value) (ho:o.op= .buildSlice T 1 #[(0,x)]) (hx:ρ x=v) (hv:v.cells.size=n) (hn:n≤1000) (w:World):
 (execOp ρ o).run P w= .ok (.value (.slice (some ⟨w.heap.size,0,none⟩) 1 1)) (w.alloc (.cells v.cells E)):=by
 have hf:=hE.few
 have h:=zf hE (ρ:=ρ) (o:=o) [x] [v] 1 ho (by simp[hx]) rfl AP (by intro u hu;rw[List.mem_singleton] at hu;rw[hu];exact hv) AL w
 simpa using h
@[reducible] def cZ (n:Int):List Value:=[.int .i64 n]
theorem nO:∀x,(cZ x).length=1:=fun _=>rfl
theorem pq:∀x,∀u∈cZ x,u.oneCell'=true:=by
 intro x u hu;obtain rfl:u= .int .i64 x:=by simpa using hu
 rfl
end Go.Cit
namespace Go.Proofs.YtlholdllibghbaaGreat
open Go Go.RowKit Go.Cit Go.Shelf
def jd (ps:List fV):List Reg:=(ps.filter fun x=>dY x.reg).map (·.reg)
theorem wX (ps:List fV) (k:Nat) (h:k<ps.length):jd (ps.take (k+1))=jd (ps.take k)++(if dY ps[k].reg then [ps[k].reg] else []):=by
 unfold jd
 rw[List.take_succ_eq_append_getElem h,List.filter_append,List.map_append]
 cases hm:dY ps[k].reg<;>simp[hm]
def dN (ps:List fV):Bool:=decide (jX (jd ps)≠0)
theorem qU (w:World) (V:aZ) (h:V.At w) (hs:fA V):Calls Tryz.prog 228 #[.agg #[.slice V.wa V.ws.length V.wc, .slice V.pa V.ps.length V.pc, .slice V.ca V.cs.length V.cc]] w fun e w'=>e= .returned (.bool (dN V.ps))∧Below w.heap.size w w':=by
 obtain⟨R,HR⟩:=AU (dN V.ps)
 rw[←HR.o]
 obtain⟨w0,hw0⟩:=AV (w.alloc (.cells #[.slice V.wa V.ws.length V.wc, .slice V.pa V.ps.length V.pc, .slice V.ca V.cs.length V.cc] 26))
 have B0:Below w.heap.size w w0:=by rw[hw0];exact(Below.refl _ w).alloc (Nat.le_refl _) _
 have hI:iU w0 w.heap.size V:=by rw[hw0];exact fK w V _
 have hlen:=h.pts.aI
 have hl100:=hs.pts
 have HV:=AQ (h.stay B0)
 have HI:=AQ (And.intro hI B0)
 obtain⟨c0,c1,c2⟩:=hI
 clear h B0
 go_enter Tryz.func228,Tryz.ntmps228
 go_wp2_with fail
 rw[←hw0]
 clear hw0
 go_wp2_with fail
 go_loopw [3,9] (fun s i wr=>∃(k:Nat) (a:Option Addr) (L:List Reg) (c:Nat),Hid (L=jd (V.ps.take k))∧L.length≤k∧k≤V.ps.length∧s= .slice a L.length c∧i= .int .i64 k∧aW xK 2 44 w0.heap.size wr a L c∧Below w0.heap.size w0 wr) (fun _ i _=>V.ps.length-(intOf i).toNat)
 case atStart=>exact⟨0,none,[],0,rfl,by simp,by omega,rfl,rfl,aW.nil_ _ _ _ _ _,Below.refl _ _⟩
 case round=>
  obtain⟨k,a,L,c,HL,hLk,hk,rfl,rfl,hO,B⟩:=hrel
  by_cases hlt:k<V.ps.length
  ·have i0:=HV.o.pts.index Eh k hlt
   obtain⟨u0,u1,u2,u3,u4⟩:=eU HV.o.pts B k hlt
   have HT:=AQ (wX V.ps k hlt)
   obtain⟨x,hx⟩:∃x:fV,Hid (x=V.ps[k]):=⟨V.ps[k],rfl⟩
   rw[←hx.o] at u0 u1 u2 u3 u4 HT
   have HC:=AQ (eu (wr.alloc (.cells #[.int .i64 x.id.1, .int .i64 x.reg.base.1, .int .i64 x.reg.size.1, .bool x.keep, .slice x.a x.img.length x.c] 46)) x.reg)
   have HN:Hid ((wr.alloc (.cells #[.int .i64 x.id.1, .int .i64 x.reg.base.1, .int .i64 x.reg.size.1, .bool x.keep, .slice x.a x.img.length x.c] 46)).heap[wr.heap.size]? =some (.cells #[.int .i64 x.id.1, .int .i64 x.reg.base.1, .int .i64 x.reg.size.1, .bool x.keep, .slice x.a x.img.length x.c] 46 (0,0))):=heap_alloc_new _ _
   have Ba:Below wr.heap.size wr (wr.alloc (.cells #[.int .i64 x.id.1, .int .i64 x.reg.base.1, .int .i64 x.reg.size.1, .bool x.keep, .slice x.a x.img.length x.c] 46)):=(Below.refl _ wr).alloc (Nat.le_refl _) _
   have HB:=AQ (And.intro B Ba)
   have HO:=AQ hO
   clear B Ba hO
   cases hq:dY x.reg with
   |
    false=>
    rw[hq] at HC HT
    have HL2:Hid (L=jd (V.ps.take (k+1))):=by rw[Hid,HT.o,HL.o];simp
    clear hq
    go_wp2_with fail
    refine(HC.o).mono ?_
    rintro e w2 ⟨rfl,hb2⟩
    have Bw:=HB.o.2.trans (hb2.mono HB.o.2.size)
    have HO2:=AQ (HO.o.stay Bw)
    have HB2:=AQ (HB.o.1.trans (Bw.mono HB.o.1.size))
    clear hb2 Bw
    go_wp2_with fail
    go_roundw
    case rel=>exact⟨k+1,a,L,c,HL2.o,by omega,by omega,rfl,by go_num,HO2.o,HB2.o⟩
    case measure=>simp[intOf];omega
   |
    true=>
    rw[hq] at HC HT
    have HL2:Hid (L++ [x.reg]=jd (V.ps.take (k+1))):=by rw[Hid,HT.o,HL.o];simp
    clear hq
    go_wp2_with fail
    refine(HC.o).mono ?_
    rintro e w2 ⟨rfl,hb2⟩
    have Bw:=HB.o.2.trans (hb2.mono HB.o.2.size)
    have HO2:=AQ (HO.o.stay Bw)
    have HB2:=AQ (HB.o.1.trans (Bw.mono HB.o.1.size))
    have e2:=(hb2.block wr.heap.size AO).trans HN.o
    have k1:=ak e2 1 rfl
    have k2:=ak e2 2 rfl
    clear hb2 Bw e2
    go_wp2_with (first
     | ((with_reducible refine aP (o:=⟨some 19, .buildSlice _ _ _,_,_,_,_⟩) AA (Ec Gu (.tmp 18) (.agg #[.int .i64 x.reg.base.1, .int .i64 x.reg.size.1]) AA AA AA AP _) ?_))
     | ((with_reducible refine bn (o:=⟨some 20, .call _,_,_,_,_⟩) Gu iW Ce (y:=x.reg) (.tmp 16) (.tmp 19) AA AA HO2.o AA AL HB2.o.size AA AA ?_);intro a4 c4 w4 hO4 hg4 hn4;have HO4:=AQ hO4;have HB4:=AQ (HB2.o.trans (HO2.o.grown hg4 HB2.o.size));clear hO4 hg4 hn4))
    go_roundw
    case rel=>exact⟨k+1,a4,L++ [x.reg],c4,HL2.o,by simp;omega,by omega,by simp,by go_num,HO4.o,HB4.o⟩
    case measure=>simp[intOf];omega
  ·have hk2:k=V.ps.length:=by omega
   have HLE:Hid (R=decide (jX L≠0)):=by rw[Hid,HR.o,dN,HL.o,hk2,List.take_length]
   have HC:=AQ (yB wr a L c (hO.vec iW))
   obtain⟨z,hz⟩:=AU (jX L)
   rw[←hz.o] at HC HLE
   have HB:=AQ (HI.o.2.trans (B.mono HI.o.2.size))
   clear hk2 hO B
   go_wp2_with fail
   refine(HC.o).mono ?_
   rintro e w2 ⟨rfl,hb2⟩
   have HB2:=AQ (HB.o.trans (hb2.mono HB.o.size))
   clear hb2
   go_wp2_with fail
   go_ret
   exact⟨au (by rw[HLE.o,Bool.eq_iff_iff];simp),HB2.o⟩
def qW:Array Value:= #[.int .i64 90, .func (.func 225) #[] #[], .int .i64 120, .func (.func 226) #[] #[], .int .i64 80, .func (.func 227) #[] #[], .int .i64 121, .func (.func 228) #[] #[], .int .i64 100, .func (.func 229) #[] #[]]
theorem CY:dJ Tryz.prog 222 10:=⟨⟨_,Tryz.underlying222,rfl⟩,by kernel_rfl⟩
theorem wu (w:World):Calls Tryz.prog 179 #[] w fun e w'=>e= .returned (.agg qW)∧Below w.heap.size w w':=by
 go_enter Tryz.func179,Tryz.ntmps179
 go_wp2_with fail
 refine bodyPost_ret (uV CY rfl (by rfl) (heap_alloc_new _ _) rfl) rfl ⟨rfl,(Below.refl _ w).alloc (Nat.le_refl _) _⟩
theorem IX (a b c d e a' b' c' d' e':Value) (w:World):(Instr.index 222 (.agg #[a,a',b,b',c,c',d,d',e,e']) (.int .i64 0)).run Tryz.prog w= .ok (.agg #[a,a']) w:=by kernel_rfl
theorem I5 (a b c d e a' b' c' d' e':Value) (w:World):(Instr.index 222 (.agg #[a,a',b,b',c,c',d,d',e,e']) (.int .i64 1)).run Tryz.prog w= .ok (.agg #[b,b']) w:=by kernel_rfl
theorem Jd (a b c d e a' b' c' d' e':Value) (w:World):(Instr.index 222 (.agg #[a,a',b,b',c,c',d,d',e,e']) (.int .i64 2)).run Tryz.prog w= .ok (.agg #[c,c']) w:=by kernel_rfl
theorem I7 (a b c d e a' b' c' d' e':Value) (w:World):(Instr.index 222 (.agg #[a,a',b,b',c,c',d,d',e,e']) (.int .i64 3)).run Tryz.prog w= .ok (.agg #[d,d']) w:=by kernel_rfl
theorem IZ (a b c d e a' b' c' d' e':Value) (w:World):(Instr.index 222 (.agg #[a,a',b,b',c,c',d,d',e,e']) (.int .i64 4)).run Tryz.prog w= .ok (.agg #[e,e']) w:=by kernel_rfl
def jP (V:aZ):List (Int×Bool):=[(90,dW V),(120,dV V.ps),(80,dQ V.ps),(121,dN V.ps),(100,dH V)]
def dM (V:aZ) (k:Nat):List Int:=(((jP V).take k).filter (·.2)).map (·.1)
def errs (V:aZ):List Int:=dM V 5
theorem gy (V:aZ) (k:Nat) (h:k<(jP V).length):dM V (k+1)=dM V k++(if (jP V)[k].2 then [(jP V)[k].1] else []):=by
 unfold dM
 rw[List.take_succ_eq_append_getElem h,List.filter_append,List.map_append]
 cases hb:(jP V)[k].2<;>simp[hb]
theorem yV (V:aZ) (k:Nat):(dM V k).length≤5:=by
 unfold dM
 rw[List.length_map]
 refine Nat.le_trans (List.length_filter_le _ _) ?_
 rw[List.length_take]
 exact Nat.min_le_right _ _
theorem zn (w:World) (V:aZ) (h:V.At w) (hs:fA V):Calls Tryz.prog 102 #[.agg #[.slice V.wa V.ws.length V.wc, .slice V.pa V.ps.length V.pc, .slice V.ca V.cs.length V.cc]] w fun e w'=>∃a c,e= .returned (.slice a (errs V).length c)∧aW cZ 1 33 w.heap.size w' a (errs V) c∧Below w.heap.size w w':=by
 obtain⟨R,HR⟩:=AU (errs V)
 rw[←HR.o]
 obtain⟨w0,hw0⟩:=AV (w.alloc (.cells #[.slice V.wa V.ws.length V.wc, .slice V.pa V.ps.length V.pc, .slice V.ca V.cs.length V.cc] 26))
 have B0:Below w.heap.size w w0:=by rw[hw0];exact(Below.refl _ w).alloc (Nat.le_refl _) _
 have hI:iU w0 w.heap.size V:=by rw[hw0];exact fK w V _
 have HV:=AQ (h.stay B0)
 have HI:=AQ hI
 have HB0:=AQ B0
 clear h B0 hI
 have x0:=IX
 have x1:=I5
 have x2:=Jd
 have x3:=I7
 have x4:=IZ
 go_enter Tryz.func102,Tryz.ntmps102
 go_wp2_with fail
 rw[←hw0]
 clear hw0
 refine(wu w0).mono ?_
 rintro e w1 ⟨rfl,hb1⟩
 have HB1:=AQ hb1
 clear hb1
 unfold qW
 go_wp2_with fail
 go_loopw [3,7] (fun s i wr=>∃(k:Nat) (a:Option Addr) (L:List Int) (c:Nat),Hid (L=dM V k)∧L.length≤k∧k≤5∧s= .slice a L.length c∧i= .int .i64 k∧aW cZ 1 33 w0.heap.size wr a L c∧Below w0.heap.size w0 wr) (fun _ i _=>5-(intOf i).toNat)
 case atStart=>exact⟨0,none,[],0,rfl,by simp,by omega,rfl,rfl,aW.nil_ _ _ _ _ _,HB1.o⟩
 case round=>
  obtain⟨k,a,L,c,HL,hLk,hk,rfl,rfl,hO,B⟩:=hrel
  have HIA:Hid (∀C T,iU (wr.alloc (.cells C T)) w.heap.size V):=fun C T=>(HI.o.keep B).keep ((Below.refl _ wr).alloc (Nat.le_refl _) _)
  have HVA:Hid (∀C T,V.At (wr.alloc (.cells C T))):=fun C T=>(HV.o.stay B).stay ((Below.refl _ wr).alloc (Nat.le_refl _) _)
  have HB:=AQ B
  have HO:=AQ hO
  have HLK:=AQ hLk
  clear B hO hLk
  by_cases hk0:k=0
  ·subst hk0
   have HT:=AQ (gy V 0 (show 0<5 by decide))
   have HC:=AQ (qK (wr.alloc (.cells #[.int .i64 90, .func (.func 225) #[] #[]] 221)) V (HVA.o _ _) hs)
   have HN:Hid ((wr.alloc (.cells #[.int .i64 90, .func (.func 225) #[] #[]] 221)).heap[wr.heap.size]? =some (.cells #[.int .i64 90, .func (.func 225) #[] #[]] 221 (0,0))):=heap_alloc_new _ _
   have HBa:Hid (Below wr.heap.size wr (wr.alloc (.cells #[.int .i64 90, .func (.func 225) #[] #[]] 221))):=(Below.refl _ wr).alloc (Nat.le_refl _) _
   obtain⟨c0,c1,c2⟩:=HIA.o #[.int .i64 90, .func (.func 225) #[] #[]] 221
   cases hq:dW V with
   |
    false=>
    rw[hq] at HC
    have HL2:Hid (L=dM V 1):=by rw[Hid,HT.o,HL.o];simp[jP,hq]
    clear hq
    go_wp2_with fail
    refine(HC.o).mono ?_
    rintro e w2 ⟨rfl,hb2⟩
    have Bw:=HBa.o.trans (hb2.mono HBa.o.size)
    have HO2:=AQ (HO.o.stay Bw)
    have HB2:=AQ (HB.o.trans (Bw.mono HB.o.size))
    clear hb2 Bw
    go_wp2_with fail
    go_roundw
    case rel=>exact⟨1,a,L,c,HL2.o,by have:=HLK.o;omega,by omega,rfl,by go_num,HO2.o,HB2.o⟩
    case measure=>simp[intOf]
   |
    true=>
    rw[hq] at HC
    have HL2:Hid (L++ [90]=dM V 1):=by rw[Hid,HT.o,HL.o];simp[jP,hq]
    clear hq
    go_wp2_with fail
    refine(HC.o).mono ?_
    rintro e w2 ⟨rfl,hb2⟩
    have Bw:=HBa.o.trans (hb2.mono HBa.o.size)
    have HO2:=AQ (HO.o.stay Bw)
    have HB2:=AQ (HB.o.trans (Bw.mono HB.o.size))
    have e2:=(hb2.block wr.heap.size AO).trans HN.o
    have k0:=ak e2 0 rfl
    clear hb2 Bw e2
    go_wp2_with ((with_reducible refine bn (o:=⟨some 18, .call _,_,_,_,_⟩) Gt nO pq (y:=90) (.tmp 14) (.tmp 17) AA AA HO2.o AA (by have:=HLK.o;omega) HB2.o.size AA AA ?_);intro a4 c4 w4 hO4 hg4 hn4;have HO4:=AQ hO4;have HB4:=AQ (HB2.o.trans (HO2.o.grown hg4 HB2.o.size));clear hO4 hg4 hn4)
    go_roundw
    case rel=>exact⟨1,a4,L++ [90],c4,HL2.o,by have:=HLK.o;rw[List.length_append,List.length_singleton];omega,by omega,by simp,by go_num,HO4.o,HB4.o⟩
    case measure=>simp[intOf]
  by_cases hk1:k=1
  ·subst hk1
   have HT:=AQ (gy V 1 (show 1<5 by decide))
   have HC:=AQ (vT (wr.alloc (.cells #[.int .i64 120, .func (.func 226) #[] #[]] 221)) V (HVA.o _ _))
   have HN:Hid ((wr.alloc (.cells #[.int .i64 120, .func (.func 226) #[] #[]] 221)).heap[wr.heap.size]? =some (.cells #[.int .i64 120, .func (.func 226) #[] #[]] 221 (0,0))):=heap_alloc_new _ _
   have HBa:Hid (Below wr.heap.size wr (wr.alloc (.cells #[.int .i64 120, .func (.func 226) #[] #[]] 221))):=(Below.refl _ wr).alloc (Nat.le_refl _) _
   obtain⟨c0,c1,c2⟩:=HIA.o #[.int .i64 120, .func (.func 226) #[] #[]] 221
   cases hq:dV V.ps with
   |
    false=>
    rw[hq] at HC
    have HL2:Hid (L=dM V 2):=by rw[Hid,HT.o,HL.o];simp[jP,hq]
    clear hq
    go_wp2_with fail
    refine(HC.o).mono ?_
    rintro e w2 ⟨rfl,hb2⟩
    have Bw:=HBa.o.trans (hb2.mono HBa.o.size)
    have HO2:=AQ (HO.o.stay Bw)
    have HB2:=AQ (HB.o.trans (Bw.mono HB.o.size))
    clear hb2 Bw
    go_wp2_with fail
    go_roundw
    case rel=>exact⟨2,a,L,c,HL2.o,by have:=HLK.o;omega,by omega,rfl,by go_num,HO2.o,HB2.o⟩
    case measure=>simp[intOf]
   |
    true=>
    rw[hq] at HC
    have HL2:Hid (L++ [120]=dM V 2):=by rw[Hid,HT.o,HL.o];simp[jP,hq]
    clear hq
    go_wp2_with fail
    refine(HC.o).mono ?_
    rintro e w2 ⟨rfl,hb2⟩
    have Bw:=HBa.o.trans (hb2.mono HBa.o.size)
    have HO2:=AQ (HO.o.stay Bw)
    have HB2:=AQ (HB.o.trans (Bw.mono HB.o.size))
    have e2:=(hb2.block wr.heap.size AO).trans HN.o
    have k0:=ak e2 0 rfl
    clear hb2 Bw e2
    go_wp2_with ((with_reducible refine bn (o:=⟨some 18, .call _,_,_,_,_⟩) Gt nO pq (y:=120) (.tmp 14) (.tmp 17) AA AA HO2.o AA (by have:=HLK.o;omega) HB2.o.size AA AA ?_);intro a4 c4 w4 hO4 hg4 hn4;have HO4:=AQ hO4;have HB4:=AQ (HB2.o.trans (HO2.o.grown hg4 HB2.o.size));clear hO4 hg4 hn4)
    go_roundw
    case rel=>exact⟨2,a4,L++ [120],c4,HL2.o,by have:=HLK.o;rw[List.length_append,List.length_singleton];omega,by omega,by simp,by go_num,HO4.o,HB4.o⟩
    case measure=>simp[intOf]
  by_cases hk2:k=2
  ·subst hk2
   have HT:=AQ (gy V 2 (show 2<5 by decide))
   have HC:=AQ (qQ (wr.alloc (.cells #[.int .i64 80, .func (.func 227) #[] #[]] 221)) V (HVA.o _ _))
   have HN:Hid ((wr.alloc (.cells #[.int .i64 80, .func (.func 227) #[] #[]] 221)).heap[wr.heap.size]? =some (.cells #[.int .i64 80, .func (.func 227) #[] #[]] 221 (0,0))):=heap_alloc_new _ _
   have HBa:Hid (Below wr.heap.size wr (wr.alloc (.cells #[.int .i64 80, .func (.func 227) #[] #[]] 221))):=(Below.refl _ wr).alloc (Nat.le_refl _) _
   obtain⟨c0,c1,c2⟩:=HIA.o #[.int .i64 80, .func (.func 227) #[] #[]] 221
   cases hq:dQ V.ps with
   |
    false=>
    rw[hq] at HC
    have HL2:Hid (L=dM V 3):=by rw[Hid,HT.o,HL.o];simp[jP,hq]
    clear hq
    go_wp2_with fail
    refine(HC.o).mono ?_
    rintro e w2 ⟨rfl,hb2⟩
    have Bw:=HBa.o.trans (hb2.mono HBa.o.size)
    have HO2:=AQ (HO.o.stay Bw)
    have HB2:=AQ (HB.o.trans (Bw.mono HB.o.size))
    clear hb2 Bw
    go_wp2_with fail
    go_roundw
    case rel=>exact⟨3,a,L,c,HL2.o,by have:=HLK.o;omega,by omega,rfl,by go_num,HO2.o,HB2.o⟩
    case measure=>simp[intOf]
   |
    true=>
    rw[hq] at HC
    have HL2:Hid (L++ [80]=dM V 3):=by rw[Hid,HT.o,HL.o];simp[jP,hq]
    clear hq
    go_wp2_with fail
    refine(HC.o).mono ?_
    rintro e w2 ⟨rfl,hb2⟩
    have Bw:=HBa.o.trans (hb2.mono HBa.o.size)
    have HO2:=AQ (HO.o.stay Bw)
    have HB2:=AQ (HB.o.trans (Bw.mono HB.o.size))
    have e2:=(hb2.block wr.heap.size AO).trans HN.o
    have k0:=ak e2 0 rfl
    clear hb2 Bw e2
    go_wp2_with ((with_reducible refine bn (o:=⟨some 18, .call _,_,_,_,_⟩) Gt nO pq (y:=80) (.tmp 14) (.tmp 17) AA AA HO2.o AA (by have:=HLK.o;omega) HB2.o.size AA AA ?_);intro a4 c4 w4 hO4 hg4 hn4;have HO4:=AQ hO4;have HB4:=AQ (HB2.o.trans (HO2.o.grown hg4 HB2.o.size));clear hO4 hg4 hn4)
    go_roundw
    case rel=>exact⟨3,a4,L++ [80],c4,HL2.o,by have:=HLK.o;rw[List.length_append,List.length_singleton];omega,by omega,by simp,by go_num,HO4.o,HB4.o⟩
    case measure=>simp[intOf]
  by_cases hk3:k=3
  ·subst hk3
   have HT:=AQ (gy V 3 (show 3<5 by decide))
   have HC:=AQ (qU (wr.alloc (.cells #[.int .i64 121, .func (.func 228) #[] #[]] 221)) V (HVA.o _ _) hs)
   have HN:Hid ((wr.alloc (.cells #[.int .i64 121, .func (.func 228) #[] #[]] 221)).heap[wr.heap.size]? =some (.cells #[.int .i64 121, .func (.func 228) #[] #[]] 221 (0,0))):=heap_alloc_new _ _
   have HBa:Hid (Below wr.heap.size wr (wr.alloc (.cells #[.int .i64 121, .func (.func 228) #[] #[]] 221))):=(Below.refl _ wr).alloc (Nat.le_refl _) _
   obtain⟨c0,c1,c2⟩:=HIA.o #[.int .i64 121, .func (.func 228) #[] #[]] 221
   cases hq:dN V.ps with
   |
    false=>
    rw[hq] at HC
    have HL2:Hid (L=dM V 4):=by rw[Hid,HT.o,HL.o];simp[jP,hq]
    clear hq
    go_wp2_with fail
    refine(HC.o).mono ?_
    rintro e w2 ⟨rfl,hb2⟩
    have Bw:=HBa.o.trans (hb2.mono HBa.o.size)
    have HO2:=AQ (HO.o.stay Bw)
    have HB2:=AQ (HB.o.trans (Bw.mono HB.o.size))
    clear hb2 Bw
    go_wp2_with fail
    go_roundw
    case rel=>exact⟨4,a,L,c,HL2.o,by have:=HLK.o;omega,by omega,rfl,by go_num,HO2.o,HB2.o⟩
    case measure=>simp[intOf]
   |
    true=>
    rw[hq] at HC
    have HL2:Hid (L++ [121]=dM V 4):=by rw[Hid,HT.o,HL.o];simp[jP,hq]
    clear hq
    go_wp2_with fail
    refine(HC.o).mono ?_
    rintro e w2 ⟨rfl,hb2⟩
    have Bw:=HBa.o.trans (hb2.mono HBa.o.size)
    have HO2:=AQ (HO.o.stay Bw)
    have HB2:=AQ (HB.o.trans (Bw.mono HB.o.size))
    have e2:=(hb2.block wr.heap.size AO).trans HN.o
    have k0:=ak e2 0 rfl
    clear hb2 Bw e2
    go_wp2_with ((with_reducible refine bn (o:=⟨some 18, .call _,_,_,_,_⟩) Gt nO pq (y:=121) (.tmp 14) (.tmp 17) AA AA HO2.o AA (by have:=HLK.o;omega) HB2.o.size AA AA ?_);intro a4 c4 w4 hO4 hg4 hn4;have HO4:=AQ hO4;have HB4:=AQ (HB2.o.trans (HO2.o.grown hg4 HB2.o.size));clear hO4 hg4 hn4)
    go_roundw
    case rel=>exact⟨4,a4,L++ [121],c4,HL2.o,by have:=HLK.o;rw[List.length_append,List.length_singleton];omega,by omega,by simp,by go_num,HO4.o,HB4.o⟩
    case measure=>simp[intOf]
  by_cases hk4:k=4
  ·subst hk4
   have HT:=AQ (gy V 4 (show 4<5 by decide))
   have HC:=AQ (qp (wr.alloc (.cells #[.int .i64 100, .func (.func 229) #[] #[]] 221)) V (HVA.o _ _) hs)
   have HN:Hid ((wr.alloc (.cells #[.int .i64 100, .func (.func 229) #[] #[]] 221)).heap[wr.heap.size]? =some (.cells #[.int .i64 100, .func (.func 229) #[] #[]] 221 (0,0))):=heap_alloc_new _ _
   have HBa:Hid (Below wr.heap.size wr (wr.alloc (.cells #[.int .i64 100, .func (.func 229) #[] #[]] 221))):=(Below.refl _ wr).alloc (Nat.le_refl _) _
   obtain⟨c0,c1,c2⟩:=HIA.o #[.int .i64 100, .func (.func 229) #[] #[]] 221
   cases hq:dH V with
   |
    false=>
    rw[hq] at HC
    have HL2:Hid (L=dM V 5):=by rw[Hid,HT.o,HL.o];simp[jP,hq]
    clear hq
    go_wp2_with fail
    refine(HC.o).mono ?_
    rintro e w2 ⟨rfl,hb2⟩
    have Bw:=HBa.o.trans (hb2.mono HBa.o.size)
    have HO2:=AQ (HO.o.stay Bw)
    have HB2:=AQ (HB.o.trans (Bw.mono HB.o.size))
    clear hb2 Bw
    go_wp2_with fail
    go_roundw
    case rel=>exact⟨5,a,L,c,HL2.o,by have:=HLK.o;omega,by omega,rfl,by go_num,HO2.o,HB2.o⟩
    case measure=>simp[intOf]
   |
    true=>
    rw[hq] at HC
    have HL2:Hid (L++ [100]=dM V 5):=by rw[Hid,HT.o,HL.o];simp[jP,hq]
    clear hq
    go_wp2_with fail
    refine(HC.o).mono ?_
    rintro e w2 ⟨rfl,hb2⟩
    have Bw:=HBa.o.trans (hb2.mono HBa.o.size)
    have HO2:=AQ (HO.o.stay Bw)
    have HB2:=AQ (HB.o.trans (Bw.mono HB.o.size))
    have e2:=(hb2.block wr.heap.size AO).trans HN.o
    have k0:=ak e2 0 rfl
    clear hb2 Bw e2
    go_wp2_with ((with_reducible refine bn (o:=⟨some 18, .call _,_,_,_,_⟩) Gt nO pq (y:=100) (.tmp 14) (.tmp 17) AA AA HO2.o AA (by have:=HLK.o;omega) HB2.o.size AA AA ?_);intro a4 c4 w4 hO4 hg4 hn4;have HO4:=AQ hO4;have HB4:=AQ (HB2.o.trans (HO2.o.grown hg4 HB2.o.size));clear hO4 hg4 hn4)
    go_roundw
    case rel=>exact⟨5,a4,L++ [100],c4,HL2.o,by have:=HLK.o;rw[List.length_append,List.length_singleton];omega,by omega,by simp,by go_num,HO4.o,HB4.o⟩
    case measure=>simp[intOf]
  have hk5:k=5:=by omega
  subst hk5
  have HF:Hid (L=R):=by rw[Hid,HL.o,HR.o];rfl
  go_wp2_with fail
  go_ret
  exact⟨a,c,by rw[HF.o];rfl,by have:=HO.o.low HB0.o.size;rwa[HF.o] at this,HB0.o.trans (HB.o.mono HB0.o.size)⟩
open Go Go.RowKit Go.Cit
def yZ (V:aZ):Int:=(errs V).head?.getD 0
theorem EP (V:aZ):∀e∈errs V,e≠0:=by
 intro e he
 unfold errs dM at he
 obtain⟨x,hx,rfl⟩:=List.mem_map.1 he
 have hx:=List.mem_of_mem_take (List.mem_filter.1 hx).1
 simp[jP] at hx
 rcases hx with rfl |rfl |rfl |rfl |rfl<;>simp
theorem Bd (V:aZ):(yZ V=0)=(errs V=[]):=by
 have h:=EP V
 unfold yZ
 cases he:errs V with
 | nil=>simp
 | cons x l=>simp;exact h x (by rw[he];simp)
theorem DV (V:aZ):(errs V).length≤5:=yV V 5
theorem sN (w:World) (V:aZ) (h:V.At w) (hs:fA V):Calls Tryz.prog 36 #[.agg #[.slice V.wa V.ws.length V.wc, .slice V.pa V.ps.length V.pc, .slice V.ca V.cs.length V.cc]] w fun e w'=>e= .returned (.int .i64 (yZ V))∧Below w.heap.size w w':=by
 have B0:Below w.heap.size w (w.alloc (.cells #[.slice V.wa V.ws.length V.wc, .slice V.pa V.ps.length V.pc, .slice V.ca V.cs.length V.cc] 26)):=(Below.refl _ w).alloc (Nat.le_refl _) _
 have HC:=AQ (zn _ V (h.stay B0) hs)
 have HB0:=AQ B0
 obtain⟨L,hL⟩:=AU (errs V)
 have HR:Hid (yZ V=L.head?.getD 0):=by rw[Hid,hL.o];rfl
 have HLL:L.length≤5:=by rw[hL.o];exact DV V
 obtain⟨R,HR2⟩:=AU (yZ V)
 rw[←hL.o] at HC
 rw[←HR2.o] at HR ⊢
 clear h B0
 cases L with
 |
  nil=>
  have HRZ:Hid (R=0):=by rw[Hid,HR.o];rfl
  go_enter Tryz.func36,Tryz.ntmps36
  go_wp2_with fail
  refine(HC.o).mono ?_
  rintro e w2 ⟨a,c,rfl,hO,hb2⟩
  have HB2:=AQ (HB0.o.trans (hb2.mono HB0.o.size))
  clear hO hb2
  go_wp2_with fail
  go_loopw [8] (fun s wr=>s= .int .i64 0∧wr=w2) (fun _ _=>0)
  case atStart=>exact⟨rfl,rfl⟩
  case round=>
   obtain⟨rfl,hwr⟩:=hrel
   subst hwr
   go_wp2_with fail
   go_ret
   exact⟨bM HRZ.o.symm,HB2.o⟩
 |
  cons z L=>
  have HRZ:Hid (R=z):=by rw[Hid,HR.o];rfl
  go_enter Tryz.func36,Tryz.ntmps36
  go_wp2_with fail
  refine(HC.o).mono ?_
  rintro e w2 ⟨a,c,rfl,hO,hb2⟩
  have HB2:=AQ (HB0.o.trans (hb2.mono HB0.o.size))
  have hv:=hO.vec nO
  have i0:=hv.index Gt 0 AO
  have d0:=hv.pW 0 AO AP rfl
  rw[show((0:Nat):Int)=0 from rfl,Nat.zero_mul,List.length_cons] at i0
  rw[Nat.zero_mul] at d0
  clear hO hb2 hv
  go_wp2_with fail
  go_loopw [8] (fun s wr=>s= .int .i64 0∧wr=w2) (fun _ _=>0)
  case atStart=>exact⟨rfl,rfl⟩
  case round=>
   obtain⟨rfl,hwr⟩:=hrel
   subst hwr
   go_wp2_with fail
   go_ret
   exact⟨bM HRZ.o.symm,HB2.o⟩
def fitsV (V:aZ):Bool:=decide (errs V=[])
theorem lg (w:World) (V:aZ) (h:V.At w) (hs:fA V):Calls Tryz.prog 11 #[.agg #[.slice V.wa V.ws.length V.wc, .slice V.pa V.ps.length V.pc, .slice V.ca V.cs.length V.cc]] w fun e w'=>e= .returned (.bool (fitsV V))∧Below w.heap.size w w':=by
 have B0:Below w.heap.size w (w.alloc (.cells #[.slice V.wa V.ws.length V.wc, .slice V.pa V.ps.length V.pc, .slice V.ca V.cs.length V.cc] 26)):=(Below.refl _ w).alloc (Nat.le_refl _) _
 have HC:=AQ (sN _ V (h.stay B0) hs)
 have HB0:=AQ B0
 have HF:Hid (fitsV V=decide (yZ V=0)):=by rw[Hid,fitsV];exact decide_eq_decide.2 (by rw[Bd])
 obtain⟨R,HR⟩:=AU (fitsV V)
 obtain⟨z,hz⟩:=AU (yZ V)
 rw[←HR.o,←hz.o] at HF
 rw[←hz.o] at HC
 rw[←HR.o]
 clear h B0
 go_enter Tryz.func11,Tryz.ntmps11
 go_wp2_with fail
 refine(HC.o).mono ?_
 rintro e w2 ⟨rfl,hb2⟩
 have HB2:=AQ (HB0.o.trans (hb2.mono HB0.o.size))
 clear hb2
 go_wp2_with fail
 go_ret
 exact⟨au (by rw[HF.o];rfl),HB2.o⟩
end Go.Proofs.YtlholdllibghbaaGreat
