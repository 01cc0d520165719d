/- Texts of the proof, one behind the other: Arr, Range, Cut. No condition but those that each names. -/
import Derived.Test.YtlholdllibghbaaGreatG07
import Derived.Test.YtlholdllibghbaaGreatProg
import Derived.Test.YtlholdllibghbaaGreatG00
import Derived.Test.YtlholdllibghbaaGreatG06
import Derived.RangeFuncNested
import Derived.RangeFuncBound
import Derived.RangeFuncCalls
import Derived.RangeFuncLeaves
import Derived.Shelf.Abstract
import Derived.Shelf.RegionOpen
import Derived.OwnWalkIn
import Derived.TacticsInMore
import Derived.LoopNIn
import Derived.LoopIn
import Derived.Test.YtlholdllibghbaaGreatG04
import Derived.Test.YtlholdllibghbaaGreatG02
import Derived.Maps.AppendAt
import Derived.Test.YtlholdllibghbaaGreatKit
set_option maxRecDepth 100000
set_option maxHeartbeats 8000000
namespace Go.Proofs.YtlholdllibghbaaGreat
open Go Go.RowKit Go.Cit
def nO (T:TypeId) (w:World) (b:Nat) (l:List UInt32):Prop:=w.heap[b]? =some (.cells (l.map vw).toArray T (0,0))
theorem nO.lt {T w b l} (h:nO T w b l):b<w.heap.size:=(Array.getElem?_eq_some_iff.1 h).1
theorem nO.cell {T w b l} (h:nO T w b l) (i:Nat) (hi:i<l.length):w.cell? ⟨b,i,none⟩=some (vw l[i]):=by
 rw[World.cell?,h];simp[hi]
theorem nO.free {T w b l} (h:nO T w b l) (i:Nat):w.frozen? ⟨b,i,none⟩=false:=by simp[World.frozen?,show w.heap[b]? =_ from h]
theorem nO.set {T w b l} (h:nO T w b l) (i:Nat) (x:UInt32):nO T (w.setCell ⟨b,i,none⟩ (vw x)) b (l.set i x):=by
 unfold nO at *
 simp[World.setCell,Array.getElem?_modify,h,List.map_set]
theorem nO.save {S:Nat→Prop} {T w w' b l} (h:nO T w b l) (hs:Save S w w') (hb:S b):nO T w' b l:=(hs.block b h.lt hb).trans h
theorem nO.stay {T w w' b l} (h:nO T w b l) (hs:Below w.heap.size w w'):nO T w' b l:=(hs.block b h.lt).trans h
theorem oV (l:List UInt32):(l.map vw).toArray.all (·.oneCell')=true:=by simp[Value.oneCell']
theorem Ul:∀w,(sizeOf 38).run Tryz.prog w= .ok 1 w:=by intro w;kernel_rfl
theorem jm {T:TypeId} {n:Nat} (hT:Tryz.prog.underlying T=some (.array n 38)) (b i:Nat) (hi:i<n) (w:World):
 (Instr.indexAt T (.pointer (some ⟨b,0,none⟩)) (.int .i64 (i:Int))).run Tryz.prog w= .ok (.pointer (some ⟨b,i,none⟩)) w:=by
 have he:Tryz.prog.elem T=38:=by simp[Program.elem,hT]
 have hl:Tryz.prog.arrayLen T=n:=by simp[Program.arrayLen,hT]
 rw[run_indexAt_array _ _ _ _ _ (by rw[he,hl];exact hT),hl,he,Ul]
 rw[if_pos AL]
 simp only[Result.andThen,Addr.add]
 by_cases h0:i=0
 ·subst h0;simp
 ·simp[h0]
end Go.Proofs.YtlholdllibghbaaGreat
namespace Go.Cit
open Go Go.RowKit
def Apart {β:Type} (B:Nat) (C:Nat→Prop) (I:β→World→Prop):Prop:=
 ∀s W W' row,I s W→W.grownBy W' row→(∀r,row=some r→C r∨(B≤r∧∃o:Obj,W.heap[r]? =some o∧o.isCells=false))→I s W'
theorem Apart.alloc {β:Type} {B:Nat} {C:Nat→Prop} {I:β→World→Prop} (h:Apart B C I) {s:β} {W:World} (o:Obj) (hs:I s W):I s (W.alloc o):=
 h s W _ none hs (World.grownBy_alloc W o none) (fun r e=>by cases e)
theorem Apart.put {β:Type} {B:Nat} {C:Nat→Prop} {I:β→World→Prop} (h:Apart B C I) {s:β} {W:World} {l:Nat} {o:Obj} (o':Obj) (hs:I s W) (hB:B≤l) (hl:W.heap[l]? =some o) (ho:o.isCells=false):I s (W.putObj l o'):=
 h s W _ (some l) hs (grownBy_putObj' W l o') (fun r e=>by cases e;exact .inr ⟨hB,o,hl,ho⟩)
def RD (B:Nat) (f:World→Prop):Prop:=∀(W:World) (l:Nat) (o o':Obj),B≤l→W.heap[l]? =some o→o.isCells=false→f W→f (W.putObj l o')
def Ov {α:Type} (F:Fence) (n:Nat) (P:Program) (g:Nat) (lb:Array Value) (encs:α→Array Value) (C:Nat→Prop) (Kp:World→World→Prop) (Fx:α→World→Prop) (N:Nat) (S:List α→Prop) (w:World):Prop:=
 ∀(l:Nat) (J:List α→World→Prop) (W:World),Below w.heap.size w W→
  (∀s A B row,J s A→A.grownBy B row→(∀r,row=some r→C r)→J s B)→
  (∀pre x W1,J pre W1→pre.length<N→Fx x W1→YieldAt F (n-1) P l (encs x) W1 fun e W'=>e= .returned (.bool true)∧J (pre++ [x]) W'∧Kp W1 W')→
  J [] W→
  CallsIn F n P g (#[.func (.yield l) #[] #[]]++lb) W fun e W'=>(∃v,e= .returned v)∧∃xs,S xs∧J xs W'
theorem FI {L n:Nat} {P:Program} {o:Oper} {a:Act} {w:World} {K:Act→World→Prop} {Q:Exit→Act→World→Prop} (hd:∀c,o.op≠ .defer c) (h:o.wp P a w K Q):o.wpIn (Fence.wide.inRound L) n P a w K Q:=by
 refine⟨fun _ _=>trivial, ?_⟩
 rw[Oper.semAt_eq _ _ _ hd]
 unfold Oper.wp at h
 generalize (execOp a.eval o).run P w=r at h
 match r,h with
 | .ok (.value v) w',h=>exact h
 | .ok .skip w',h=>exact h
 | .ok (.defer d) w',h=>exact h
 | .ok (.enter f args) w',h=>exact⟨fun h=>(by cases h),CallsIn.inRound L ((callsIn_wide (n:=n-1)).2 h)⟩
 | .ok (.row row args) w',h=>exact⟨fun h=>(by cases h),fun c cs _=>let⟨v,w',r,s⟩:=h c cs;⟨v,w',r,stepsIn_wide.2 s⟩⟩
 | .halt (.panic v) w',h=>exact h
theorem mg {L n:Nat} {P:Program} {md:Region.Mode} {ops:Array Oper} {Q:Exit→Act→World→Prop} (hd:ops.all (fun o=>match o.op with | .defer _=>false |_=>true)=true) (hQ:∀a w,¬Q .outgrown a w):
 ∀(fuel:Nat) (listed:Array Bool) (a:Act) (w:World),wpAny P md ops Q fuel listed a w→wpAnyIn (Fence.wide.inRound L) n P md ops Q fuel listed a w
 | 0,_,_,_,h=>h
 |
  fuel+1,listed,a,w,h=>by
  refine⟨h.1,fun i hi=> ?_⟩
  have h1:=h.2 i hi
  unfold wpOp at h1
  unfold wpOpIn
  cases ho:ops[i]? with
  | none=>rw[ho] at h1;exact mg hd hQ fuel _ _ _ h1
  |
   some o=>
   rw[ho] at h1
   dsimp only at h1 ⊢
   have hdo:∀c,o.op≠ .defer c:=by
    intro c e
    obtain⟨hlt,rfl⟩:=Array.getElem?_eq_some_iff.1 ho
    have:=(Array.all_eq_true.1 hd) i hlt
    rw[e] at this
    simp at this
   split at h1
   ·rename_i hw
    rw[if_pos hw]
    refine FI hdo ?_
    rcases h1 with h1 |⟨_,a',w',h1⟩
    ·exact Oper.wp_mono (fun a w h=>mg hd hQ fuel _ _ _ h) h1
    ·exact absurd h1 (hQ a' w')
   ·rename_i hw
    rw[if_neg hw]
    exact⟨fun _ _=>trivial,mg hd hQ fuel _ _ _ h1⟩
theorem yC {L n id:Nat} {P:Program} {ops:Array Oper} {Q:Exit→Act→World→Prop} {a:Act} {w:World} (hm:P.follows .mixedOrders=true) (hd:ops.all (fun o=>match o.op with | .defer _=>false |_=>true)=true) (hQ:∀a w,¬Q .outgrown a w)
 (h:wpAny P .any ops Q ops.size (Array.replicate ops.size false) a {w with drawn:=w.drawn+1}):(Code.region id ops true).wpIn (Fence.wide.inRound L) n P Q a w:=
 wpIn_region_any hm (mg hd hQ _ _ _ _ h)
variable {F:Fence} {n:Nat} {P:Program}
theorem wL {α:Type} {g:Operand} {ps:Array Tmp} {assign body:Code} {Q:Exit→Act→World→Prop} {a:Act} {w:World}
 (hro:F.round=none) (h1:1≤n) {gf:Nat} {lb:Array Value} (hg:a.eval g= .func (.func gf) #[] lb) (hFg:F.fn gf) (eg:∀args w,(callFunc gf args).run P w= .ok (.enter gf args) w)
 {encs:α→Array Value} {C:Nat→Prop} {Kp:World→World→Prop} {Fx:α→World→Prop} {N:Nat} {S:List α→Prop} (hC:∀c,C c→c<w.heap.size) (hseq:Ov F (n-1) P gf lb encs C Kp Fx N S w)
 (hKt:∀ {A B C:World},Kp A B→Kp B C→Kp A C) (hKb:∀(W:World) (l:Nat) (o o':Obj),w.heap.size≤l→W.heap[l]? =some o→o.isCells=false→Kp W (W.putObj l o')) (hps:∀x,(encs x).size=ps.size)
 (hFx:∀x,RD w.heap.size (Fx x)) (I:List α→World→Prop) (hI:Apart w.heap.size C I) (h0:I [] w) (a₁:α→Act)
 (hassign:∀(l:Nat) (x:α) (W:World) (K:Act→World→Prop),K (a₁ x) W→
  assign.wpIn (F.inRound l) (n-1-1) P (Exit.then K (fun _ _ _=>False)) {tmps:=(ps.zip (encs x)).foldl (fun t (p,v)=>t.setIfInBounds p v) a.tmps,defers:=[]} W)
 (hbody:∀(l:Nat) (pre:List α) (x:α) (W:World),I pre W→pre.length<N→Fx x W→body.wpIn (F.inRound l) (n-1-1) P (Exit.then (fun _ W'=>KeepsOthers W W'∧Kp W W'∧I (pre++ [x]) W') (fun _ _ _=>False)) (a₁ x) W)
 (hdone:∀(D:Nat) (xs:List α) (W:World),w.heap.size≤D→S xs→I xs W→W.heap[D]? =some (.deferred (some []))→Q .normal {a with defers:= {target:= .collected D,args:= #[]}::a.defers} W):
 (Code.rangeFunc g ps assign body).wpIn F n P Q a w:=by
 refine wpIn_rangeFunc fun fn hfn=> ?_
 rw[hro]
 obtain⟨rec,hrec⟩:∃rec:LoopState→Loop,rec=fun st=> {state:=st,pending:=none,fn,tmps:=a.tmps,params:=ps,assign,body,defers:=w.heap.size}:=⟨_,rfl⟩
 have hlen:(w.alloc (.deferred (some []))).heap.size=w.heap.size+1:=by simp
 have hR:((w.alloc (.deferred (some []))).alloc (.loop (rec .ready))).heap[w.heap.size+1]? =some (.loop (rec .ready)):=by
  have:=World.alloc_heap_new (w.alloc (.deferred (some []))) (.loop (rec .ready));rwa[hlen] at this
 have hD:((w.alloc (.deferred (some []))).alloc (.loop (rec .ready))).heap[w.heap.size]? =some (.deferred (some [])):=
  (Below.heap_alloc _ _ _ AO).trans (World.alloc_heap_new w _)
 have hi1:=hI.alloc (.loop (rec .ready)) (hI.alloc (.deferred (some [])) h0)
 have hb1:Below w.heap.size w ((w.alloc (.deferred (some []))).alloc (.loop (rec .ready))):=((Below.refl _ w).alloc (Nat.le_refl _) _).alloc AO _
 have hent:(Instr.enterLoop fn a.tmps ps assign body none).run P w= .ok (w.heap.size+1,[{target:= .collected w.heap.size,args:= #[]}]) ((w.alloc (.deferred (some []))).alloc (.loop (rec .ready))):=by rw[hrec];exact run_enterLoop_outer _ _ _ _ _
 generalize (w.alloc (.deferred (some []))).alloc (.loop (rec .ready))=W1 at hR hD hi1 hb1 hent
 refine⟨w.heap.size+1,[{target:= .collected w.heap.size,args:= #[]}],W1,{target:= .fn (.func gf) lb,args:= #[.func (.yield (w.heap.size+1)) #[] #[]]},W1,gf,
  #[.func (.yield (w.heap.size+1)) #[] #[]]++lb,W1,hent, ?_, ?_, ?_,fun _=>h1, ?_⟩
 ·simp only[resolve,hg]
  simp[go_sem]
 ·intro f' hf';simp[Target.leads] at hf';subst hf';exact hFg
 ·simp[invoke,go_sem,eg]
 ·refine(hseq (w.heap.size+1) (fun pre W=>I pre W∧W.heap[w.heap.size+1]? =some (.loop (rec .ready))∧W.heap[w.heap.size]? =some (.deferred (some []))) _ hb1 ?_ ?_ ⟨hi1,hR,hD⟩).mono ?_
  ·rintro s A B row ⟨h1,h2,h3⟩ hg' hr
   have hne:∀k,w.heap.size≤k→some k≠row:=fun k hk e=>by have:=hC k (hr k e.symm);omega
   exact⟨hI s A B row h1 hg' (fun r e=> .inl (hr r e)),(hg'.block _ (Array.getElem?_eq_some_iff.1 h2).1 (hne _ AL)).trans h2,(hg'.block _ (Array.getElem?_eq_some_iff.1 h3).1 (hne _ AL)).trans h3⟩
  ·rintro pre x W ⟨hi,hl,hk⟩ hN hx
   have hlt:w.heap.size+1<W.heap.size:=(Array.getElem?_eq_some_iff.1 hl).1
   have hy:=run_yield (P:=P) (args:=encs x) hl (by rw[hrec];exact hps x)
   rw[hrec] at hy
   refine⟨fn,_,assign,body,hy,roundIn_of_wpIn hfn (hassign _ x W _ ⟨_,run_beginRound hl (by rw[hrec]), ?_⟩)⟩
   have hl2:(W.putObj (w.heap.size+1) (.loop {rec .ready with state:= .busy})).heap[w.heap.size+1]? =some (.loop {rec .ready with state:= .busy}):=World.putObj_heap_same hlt
   have hk2:(W.putObj (w.heap.size+1) (.loop {rec .ready with state:= .busy})).heap[w.heap.size]? =some (.deferred (some [])):=(World.putObj_heap_other AL).trans hk
   have hw2:Kp W (W.putObj (w.heap.size+1) (.loop {rec .ready with state:= .busy})):=hKb _ _ _ _ AL hl rfl
   refine wpIn_mono (hbody _ pre x _ (hI.put _ hi AL hl rfl) hN (hFx x W _ _ _ AL hl rfl hx)) ?_
   rintro e a3 W3 hp
   cases e with
   |
    normal=>
    obtain⟨hk3,hkp3,hi3⟩:=hp
    have hl3:=hk3.same _ _ hl2 rfl
    have hend:=run_endRound (P:=P) none hl3
    refine⟨_,_,hend,rfl,⟨hI.put _ hi3 AL hl3 rfl, ?_,(World.putObj_heap_other AL).trans (hk3.same _ _ hk2 rfl)⟩,hKt (hKt hw2 hkp3) (hKb _ _ _ _ AL hl3 rfl)⟩
    rw[World.putObj_heap_same (Array.getElem?_eq_some_iff.1 hl3).1,hrec]
    rfl
   | ret=>exact hp.elim
   | exit id=>exact hp.elim
   | goto t=>exact hp.elim
   | panic ch=>exact hp.elim
   | outgrown=>exact hp.elim
  ·rintro e W2 ⟨⟨v,rfl⟩,xs,hS,hi,hl,hk⟩
   have hend:=run_endLoop (P:=P) hl (by rw[hrec];simp)
   have hp:(rec .ready).pending=none:=by rw[hrec]
   rw[hp] at hend
   exact⟨none,_,hend,hdone _ xs _ (Nat.le_refl _) hS (hI.put _ hi AL hl rfl) ((World.putObj_heap_other AL).trans hk)⟩
theorem Bv {P:Program} {w:World} {o:Oper} {ρ:Operand→Value} {post:Value→World→Prop} (s x:Operand) (t:TypeId) (ho:o.op=Op.call {callee:=Callee.builtin Builtin.append,args:= #[s,x],argTypes:= #[t,t]})
 (base:Nat) (e:TypeId) (z:Value) (size bytes:Nat) (h1:P.underlying t=some (.slice e)) (hinfo:(P.info? e).map (fun i=>(i.zero,i.size,i.bytes))=some (some z,size,bytes)) (h6:z.cells.size=size) (h7:0<size)
 {v:Value} {k:Nat} {xs:List Value} (hs:ρ s=v) (hown:w.ownsRow base e size v k xs) {ad:Addr} {m c:Nat} {news:List Value} (hx:ρ x= .slice (some ad) m c) (hn:news.length=m*size)
 (hc:∀j u,news[j]? =some u→w.cell? (ad.add j)=some u) (h1c:∀u∈news,u.oneCell'=true) (b1:k+m≤maxLen) (b2:(k+m)*bytes≤140737488355328) (b3:base≤w.heap.size)
 (hp:∀v' w',w'.ownsRow base e size v' (k+m) (xs++news)→w.grownBy w' v.ownBlock→post v' w'):bQ P post ((execOp ρ o).run P w):=by
 obtain⟨i,h2,h3,h4,h5⟩:=info_parts hinfo
 obtain⟨v',w',hrun,r1,r2,_⟩:=run_append_own (P:=P) w base t o.type e i z size bytes h1 h2 h3 h4 h5 h6 h7 v k xs hown ad m c news hn hc h1c b1 b2 b3
 refine fA (v:=v') (w':=w') ?_ (hp v' w' r1 r2)
 simp[execOp,ho,resolve,invoke,builtin,hs,hx,hrun,Result.andThen]
end Go.Cit
namespace Go.Proofs.YtlholdllibghbaaGreat
open Go Go.RowKit Go.Cit Go.Shelf
attribute [local go_sem] Oper.semAt_some
theorem Gi (w:World) (a:Option Addr) (l:List UInt8) (c:Nat) (h:Row w a l c) (hl:l.length≤1000000000):
 Calls Tryz.prog 197 #[.slice a l.length c] w fun e w'=>∃a' c',e= .returned (.slice a' l.length c')∧Go.Cit.Own 5 w.heap.size w' a' l c'∧Below w.heap.size w w':=by
 cases a with
 |
  none=>
  have h0:=h.nil rfl
  have h1:=h.le
  obtain rfl:l=[]:=List.eq_nil_of_length_eq_zero AL
  refine(Tryz.bytes_Clone_nil _ _ _).mono ?_
  rintro e w' ⟨rfl,rfl⟩
  exact⟨none,0,rfl,Go.Cit.Own.nil _ _ _,Below.refl _ _⟩
 |
  some x=>
  refine(Tryz.bytes_Clone_at x l.length c (l.map fun y=>(y.toNat:Int)) w AO AL (fun i hi=> ?_)).mono ?_
  ·obtain⟨b,o,e⟩:=h.spot (by intro h0;simp[h0] at hi)
   injection e with e
   subst e
   have ea:(⟨b,o,none⟩:Addr).add i=ad (some ⟨b,o,none⟩) i:=by unfold Addr.add ad;split<;>simp_all
   rw[ea,h.cell i hi]
   simp[hi]
  ·rintro e w' ⟨v',rfl,ho,_,hb⟩
   have hv:∃a' c',v'= .slice a' l.length c':=by
    rcases ho.2 with⟨hv,hn⟩ |⟨g,c',cur,hv,_⟩
    ·exact⟨none,0,by rw[hv,hn]⟩
    ·exact⟨_,_,hv⟩
   obtain⟨a',c',rfl⟩:=hv
   refine⟨a',c',rfl,⟨?_⟩,hb⟩
   have e:List.map (Value.int .u8) (l.map fun y=>(y.toNat:Int))=l.map vb:=by rw[List.map_map];rfl
   rwa[e] at ho
def kD (n:Nat) (l:List UInt8) (k:Nat):List UInt8:=(l.drop (k*n)).take n
def Jr (n:Nat) (l:List UInt8):Nat:=(l.length+n-1)/n
def Ei (n:Nat) (l:List UInt8):List (List UInt8):=(List.range (Jr n l)).map (kD n l)
theorem O8 {n:Nat} (hn:1≤n) {l:List UInt8} {k:Nat} (h1:l.length≤k*n) (h2:k=0∨(k-1)*n<l.length):k=Jr n l:=by
 unfold Jr
 symm
 rcases h2 with rfl |h2
 ·rw[Nat.zero_mul] at h1;exact Nat.div_eq_of_lt AL
 ·rcases Nat.eq_zero_or_pos k with rfl |hk
  ·rw[Nat.zero_mul] at h1;exact Nat.div_eq_of_lt AL
  ·obtain⟨j,rfl⟩:∃j,k=j+1:=⟨k-1,by omega⟩
   rw[Nat.add_sub_cancel] at h2
   rw[Nat.add_mul,Nat.one_mul] at h1
   rw[Nat.div_eq_iff AL]
   rw[Nat.mul_comm,Nat.mul_add,Nat.mul_one,Nat.mul_comm] at *
   omega
def U9 (n₀ lb:Nat):World→World→Prop:=Save (fun k=>k<n₀∧k≠lb)
def JX (cb:Nat) (w:World):Nat:=match w.cell? ⟨cb,0,none⟩ with |some (.slice _ n _)=>n |_=>0
theorem Gg {cb:Nat} {w:World} {a:Option Addr} {n c:Nat} (h:w.cell? ⟨cb,0,none⟩=some (.slice a n c)):JX cb w=n:=by simp[JX,h]
theorem Eh (m:Nat) (w:World) (cb cn lb n₀:Nat) (a:Option Addr) (l:List UInt8) (c n:Nat) (hn:1≤n) (hn9:n≤9223372036854775807) (hne:cn≠cb) (hb9:cb<n₀) (hn0:cn<n₀) (hlb1:cb≠lb) (hlb2:cn≠lb)
 (hb:w.heap[cb]? =some (.cells #[.slice a l.length c] 40 (0,0))) (hc:w.heap[cn]? =some (.cells #[.int .i64 n] 3 (0,0))) (r:Row w a l c) (hg:l≠ []→∀g,Go.Cit.blk a=some g→(g<n₀∧g≠lb)∧g≠cb):
 Ov Fence.wide m Tryz.prog 234 #[.pointer (some ⟨cb,0,none⟩), .pointer (some ⟨cn,0,none⟩)] (fun x:Sl UInt8=> #[.slice x.a x.l.length x.c]) (· =cb) (U9 n₀ lb) (fun x W=>Row W x.a x.l x.c∧x.l.length≤l.length) l.length
  (fun xs=>xs.map (·.l)=Ei n l) w:=by
 intro L J W hW hJ hY h0
 have hb:=(hW.block cb (Array.getElem?_eq_some_iff.1 hb).1).trans hb
 have hc:=(hW.block cn (Array.getElem?_eq_some_iff.1 hc).1).trans hc
 have r:=r.stay hW
 have hW:=hW.size
 have HG:=AQ hg
 have HJ:=AQ hJ
 have HY:=AQ hY
 clear hg hJ hY
 refine callsIn_of_wp Tryz.func234 rfl trivial ?_ rfl
 simp only[Tryz.ntmps234,List.size_toArray,List.length_cons,List.length_nil,Nat.reduceAdd,Nat.reduceSub,Array.replicate_succ,Array.replicate_zero,List.push_toArray,List.append_toArray,List.nil_append,List.cons_append]
 gi_wp2
 gi_loopw [4] (fun p wr=>∃(k:Nat) (a':Option Addr) (rest:List UInt8) (c':Nat) (pre:List (Sl UInt8)),p= .bool true∧Hid (rest=l.drop (k*n))∧Hid (k=0∨(k-1)*n<l.length)∧Hid (pre.map (·.l)=(List.range k).map (kD n l))∧
  wr.heap[cb]? =some (.cells #[.slice a' rest.length c'] 40 (0,0))∧wr.heap[cn]? =some (.cells #[.int .i64 n] 3 (0,0))∧Row wr a' rest c'∧Hid (rest≠ []→Go.Cit.blk a'=Go.Cit.blk a)∧J pre wr)
  (fun _ wr=>JX cb wr)
 case atStart=>exact⟨0,a,l,c,[],rfl,by simp[Hid], .inl rfl,rfl,hb,hc,r,fun _=>rfl,h0⟩
 case round=>
  clear hb hc r h0
  obtain⟨k,a',rest,c',pre,rfl,HR,HK,HP,hb,hc,r,HB,hJ⟩:=hrel
  have hcb:=cell_of_one hb
  have hfb:=free_of_one hb
  have hcn:=cell_of_one hc
  by_cases hr:rest=[]
  ·have HX:Hid (pre.map (·.l)=Ei n l):=by
    rw[Hid,HP.o,Ei,←O8 hn (k:=k) (List.drop_eq_nil_iff.1 (HR.o▸hr)) HK.o]
   subst hr
   gi_wp2
   go_end0
   exact⟨⟨_,rfl⟩,pre,HX.o,hJ⟩
  ·have hlen:0<rest.length:=List.length_pos_iff.2 hr
   obtain⟨kk,hkk⟩:=AV (min n rest.length)
   have hk1:kk≤rest.length:=by omega
   have hmin:min (n:Int) (rest.length:Int)=(kk:Int):=by omega
   obtain⟨a1,m1,c1,hm1,hrun1,r1,hb1⟩:=r.QN bt.slice bt.sz kk hk1
   obtain⟨a2,m2,c2,hm2,hrun2,r2,hb2⟩:=r.QU bt.slice bt.sz kk hk1
   have HM1:Hid (m1=kD n l k):=by
    rw[Hid,hm1,kD,←HR.o,hkk]
    rcases Nat.le_total n rest.length with h |h
    ·rw[Nat.min_eq_left h]
    ·rw[Nat.min_eq_right h,List.take_length,List.take_of_length_le h]
   have HM2:Hid (m2=l.drop ((k+1)*n)):=by
    rw[Hid,hm2,Nat.add_mul,Nat.one_mul,←List.drop_drop,←HR.o,hkk]
    rcases Nat.le_total n rest.length with h |h
    ·rw[Nat.min_eq_left h]
    ·rw[Nat.min_eq_right h,List.drop_length,List.drop_of_length_le h]
   have HN:Hid (m2.length<rest.length):=by rw[Hid,hm2,List.length_drop];omega
   have HK2:Hid (k+1=0∨(k+1-1)*n<l.length):= .inr (by
    have:=hlen;rw[HR.o,List.length_drop] at this
    rw[Nat.add_sub_cancel];omega)
   have HB1:Hid (Go.Cit.blk a1=Go.Cit.blk a):=hb1.trans (HB.o hr)
   have HB2:Hid (Go.Cit.blk a2=Go.Cit.blk a):=hb2.trans (HB.o hr)
   have HL:Hid (l≠ []):=by intro h;apply hr;rw[HR.o,h,List.drop_nil]
   have HN2:Hid (pre.length<l.length):=by
    have h1:=congrArg List.length HP.o
    simp only[List.length_map,List.length_range] at h1
    have h2:=hlen
    rw[HR.o,List.length_drop] at h2
    have h3:=Nat.le_mul_of_pos_right k (show 0<n by omega)
    rw[Hid];omega
   have HX9:Hid (m1.length≤l.length):=by
    have:=hk1;have h3:=congrArg List.length HR.o
    rw[List.length_drop] at h3
    rw[Hid,hm1,List.length_take];omega
   have HLC:Hid (JX cb wr=rest.length):=Gg hcb
   clear hm1 hm2 hkk hb1 hb2 hr HR HK
   obtain⟨fn,tmps,assign,body,hy,hR⟩:=HY.o pre ⟨a1,c1,m1⟩ wr hJ HN2.o ⟨r1,HX9.o⟩
   dsimp only at hy
   gi_wp2
   refine⟨fun h=>(by cases h),hR.mono ?_⟩
   rintro e W3 ⟨rfl,hJ3,hk3⟩
   have hb3:W3.heap[cb]? =some (.cells #[.slice a' rest.length c'] 40 (0,0)):=(hk3.block _ (Array.getElem?_eq_some_iff.1 hb).1 ⟨hb9,hlb1⟩).trans hb
   have hc3:W3.heap[cn]? =some (.cells #[.int .i64 n] 3 (0,0)):=(hk3.block _ (Array.getElem?_eq_some_iff.1 hc).1 ⟨hn0,hlb2⟩).trans hc
   have r3:Row W3 a2 m2 c2:=r2.save' hk3 (fun _ g hg=>(HG.o HL.o g (HB2.o▸hg)).1)
   have hcb3:=cell_of_one hb3
   have hfb3:=free_of_one hb3
   clear hb hc hcb hfb hcn r r1 r2 hR hk3
   gi_wp2
   go_roundw
   case rel=>
    refine⟨k+1,a2,m2,c2,pre++ [⟨a1,c1,m1⟩],rfl,HM2,HK2, ?_,one_setCell hb3, ?_, ?_,fun _=>HB2.o, ?_⟩
    ·rw[Hid,List.map_append,HP.o,List.range_succ,List.map_append];show _++ [m1]=_++ [kD n l k];rw[HM1.o]
    ·exact(Below.heap_setCell _ _ _ _ hne).trans hc3
    ·exact r3.save' Save.set (fun _ g hg=>(HG.o HL.o g (HB2.o▸hg)).2)
    ·exact HJ.o _ _ _ (some cb) hJ3 (grownBy_setCell' W3 cb _) (fun r e=>by cases e;rfl)
   case measure=>
    rw[Gg (cell_of_one (one_setCell hb3)),HLC.o]
    exact HN.o
theorem BF (w:World) (a:Option Addr) (k c:Nat) (n:Int):
 Calls Tryz.prog 196 #[.slice a k c, .int .i64 n] w fun e w'=>e= .returned (.func (.func 234) #[] #[.pointer (some ⟨w.heap.size,0,none⟩), .pointer (some ⟨w.heap.size+1,0,none⟩)])∧
  w'=(w.alloc (.cells #[.slice a k c] 40)).alloc (.cells #[.int .i64 n] 3):=by
 go_enter Tryz.func196,Tryz.ntmps196
 go_wp2
 go_ret
 exact⟨rfl,rfl⟩
structure Rows (w:World) (a:Option Addr) (ds:List (Sl UInt8)) (cap:Nat):Prop where
 le:ds.length≤cap
 top:cap≤maxLen
 nil:a=none→cap=0
 spot:ds≠ []→∃b off,a=some ⟨b,off,none⟩
 cell:∀i (h:i<ds.length),w.cell? (ad a i)=some (.slice ds[i].a ds[i].l.length ds[i].c)
 row:∀d∈ds,Row w d.a d.l d.c
theorem Rows.bK {w:World} {a:Option Addr} {ds:List (Sl UInt8)} {cap:Nat} (h:Rows w a ds cap):ds.length≤9223372036854775807:=by
 have h1:=h.le;have h2:=h.top;unfold maxLen at h2;omega
theorem Rows.blk {w:World} {a:Option Addr} {ds:List (Sl UInt8)} {cap:Nat} (h:Rows w a ds cap) {i:Nat} (hi:i<ds.length):(ad a i).block<w.heap.size:=
 World.block_lt_of_cell? w _ (h.cell i hi)
theorem Rows.stay {w w':World} {a:Option Addr} {ds:List (Sl UInt8)} {cap:Nat} (h:Rows w a ds cap) (hb:Below w.heap.size w w'):Rows w' a ds cap:=
 ⟨h.le,h.top,h.nil,h.spot,fun i hi=>(hb.cell (h.blk hi)).trans (h.cell i hi),fun d hd=>(h.row d hd).stay hb⟩
theorem Rows.drewN {w:World} {a:Option Addr} {ds:List (Sl UInt8)} {cap:Nat} (h:Rows w a ds cap) (n:Nat):Rows (w.drewN n) a ds cap:=
 ⟨h.le,h.top,h.nil,h.spot,fun i hi=>h.cell i hi,fun d hd=>(h.row d hd).drewN n⟩
theorem Rows.save {S:Nat→Prop} {w w':World} {a:Option Addr} {ds:List (Sl UInt8)} {cap:Nat} (h:Rows w a ds cap) (hs:Save S w w') (ha:∀g,Go.Cit.blk a=some g→S g) (hd:∀d∈ds,∀g,Go.Cit.blk d.a=some g→S g):Rows w' a ds cap:=by
 refine⟨h.le,h.top,h.nil,h.spot,fun i hi=>(hs.cell (h.blk hi) ?_).trans (h.cell i hi),fun d hm=>(h.row d hm).save hs (hd d hm)⟩
 obtain⟨b,off,rfl⟩:=h.spot (by intro h0;simp[h0] at hi)
 have:=ha b rfl
 simpa[ad] using this
theorem QT:∀w,(sizeOf 40).run Tryz.prog w= .ok 1 w:=by intro w;kernel_rfl
theorem Rows.index {w:World} {a:Option Addr} {ds:List (Sl UInt8)} {cap:Nat} (h:Rows w a ds cap) (i:Nat) (hi:i<ds.length):
 ∀w,(Instr.indexAt 49 (.slice a ds.length cap) (.int .i64 (i:Int))).run Tryz.prog w= .ok (.pointer (some (ad a i))) w:=by
 intro w
 obtain⟨b,off,rfl⟩:=h.spot (by intro h0;simp[h0] at hi)
 have hT:Tryz.prog.underlying 49=some (.slice 40):=Tryz.underlying49
 have he:Tryz.prog.elem 49=40:=by simp[Program.elem,hT]
 rw[run_indexAt_slice w _ _ _ _ _ _ (by rw[he];exact hT),if_pos AL,he,QT]
 simp only[Result.andThen,ad,Addr.add]
 by_cases h0:i=0
 ·subst h0;simp
 ·simp[h0]
@[reducible] def sv (d:Sl UInt8):Value:= .slice d.a d.l.length d.c
def Si (w:World) (pre:List (Sl UInt8)) (W:World):Prop:=∃(v:Value) (ds:List (Sl UInt8)),Boxed W w.heap.size 49 v∧W.ownsRow (w.heap.size+3) 40 1 v pre.length (ds.map sv)∧ds.map (·.l)=pre.map (·.l)∧
 (∀d∈ds,Go.Cit.Own 5 (w.heap.size+3) W d.a d.l d.c)∧Below w.heap.size w W∧w.heap.size+3≤W.heap.size
theorem kX {W W':World} {row:Option Nat} {base e size:Nat} {v:Value} {k:Nat} {xs:List Value} (h:W.ownsRow base e size v k xs) (hg:W.grownBy W' row)
 (hr:∀r,row=some r→r<base∨(∃o:Obj,W.heap[r]? =some o∧o.isCells=false)):W'.ownsRow base e size v k xs:=by
 refine h.kept hg ?_
 rcases h.2 with⟨rfl,_⟩ |⟨g,cap,cur,rfl,hb,hh,_⟩
 ·exact .inl rfl
 ·refine .inr fun e=> ?_
  rcases hr g e.symm with h1 |⟨o,ho,hc⟩
  ·omega
  ·rw[hh] at ho;cases ho;simp[Obj.isCells] at hc
theorem Ir (w:World):Apart (w.heap.size+3) (· =w.heap.size+1) (Si w):=by
 rintro s W W' row ⟨v,ds,hv,hrow,hds,hown,hB,hsz⟩ hg hr
 have hr2:∀r,row=some r→r<w.heap.size+3∨(∃o:Obj,W.heap[r]? =some o∧o.isCells=false):=fun r e=>by
  rcases hr r e with rfl |⟨_,h⟩
  ·exact .inl AL
  ·exact .inr h
 refine⟨v,ds,hv.kept hg ?_,kX hrow hg hr2,hds,fun d hd=>⟨kX (hown d hd).row hg hr2⟩,hB.grown hg hB.size (fun k e=> ?_),Nat.le_trans hsz hg.size⟩
 ·intro e
  rcases hr _ e.symm with h |⟨h,_⟩<;>omega
 ·rcases hr _ e with h |⟨h,_⟩<;>omega
theorem xC {W W':World} (h:Below W.heap.size W W'):KeepsOthers W W':=
 ⟨h.size,fun k o hk _=>(h.block k (Array.getElem?_eq_some_iff.1 hk).1).trans hk⟩
def QX (W:World) (lb n₀ k:Nat) (v0:Value) (ds:List (Sl UInt8)) (x:Sl UInt8) (δ:Nat→Bool) (wx:World):Prop:=
 (Save (fun j=>j<W.heap.size∧j≠lb∧v0.ownBlock≠some j) W wx∧(δ 4=false→Below W.heap.size W wx))∧KeepsOthers W wx∧(δ 5=false→Boxed wx lb 49 v0)∧(δ 4=false→wx.ownsRow n₀ 40 1 v0 k (ds.map sv))∧
  (δ 5=true→∃v' d,Boxed wx lb 49 v'∧wx.ownsRow n₀ 40 1 v' (k+1) (ds.map sv++ [sv d])∧Go.Cit.Own 5 W.heap.size wx d.a d.l d.c∧d.l=x.l)
def TB (lb:Nat) (v0:Value) (i:Nat) (wx w':World):Prop:=
 if i=4 then wx.grownBy w' v0.ownBlock else if i=5 then ∃v',w'=wx.setCell ⟨lb,0,none⟩ v' else Below wx.heap.size wx w'
def Un (W:World) (n₀ k:Nat) (v0:Value) (ds:List (Sl UInt8)) (x:Sl UInt8) (d:Nat) (v:Value) (wx:World):Prop:=
 if d=13 then v=v0 else if d=14 then v=sv x
 else if d=15 then ∃y:Sl UInt8,v=sv y∧y.l=x.l∧Go.Cit.Own 5 W.heap.size wx y.a y.l y.c
 else if d=16 then ∃(y:Sl UInt8) (g:Nat),v= .slice (some ⟨g,0,none⟩) 1 1∧W.heap.size≤g∧g<wx.heap.size∧wx.cell? ⟨g,0,none⟩=some (sv y)∧y.l=x.l∧Go.Cit.Own 5 W.heap.size wx y.a y.l y.c
 else if d=17 then ∃y:Sl UInt8,wx.ownsRow n₀ 40 1 v (k+1) (ds.map sv++ [sv y])∧y.l=x.l∧Go.Cit.Own 5 W.heap.size wx y.a y.l y.c
 else True
theorem O1 {W:World} {lb:Nat} {v0:Value} {i:Nat} {wx w':World} (hlb:lb<W.heap.size) (hv:∀g,v0.ownBlock=some g→g<W.heap.size) (h:TB lb v0 i wx w'):Save (fun j=>W.heap.size≤j) wx w':=by
 unfold TB at h
 split at h
 ·exact(Save.grown h).less fun k _ hk e=>by have:=hv k e.symm;omega
 ·split at h
  ·obtain⟨v',rfl⟩:=h
   exact Save.set.less fun k _ hk=>by omega
  ·exact Save.of h
theorem O5 {W:World} {lb n₀ k:Nat} {v0:Value} {ds:List (Sl UInt8)} {x:Sl UInt8} {i d:Nat} {v:Value} {wx w':World} (hlb:lb<n₀) (hn:n₀≤W.heap.size) (hv:∀g,v0.ownBlock=some g→g<W.heap.size) (hi:d=17→i≠4)
 (h:TB lb v0 i wx w') (ht:Un W n₀ k v0 ds x d v wx):Un W n₀ k v0 ds x d v w':=by
 have hs:=O1 AL hv h
 have ho:∀ {y:Sl UInt8},Go.Cit.Own 5 W.heap.size wx y.a y.l y.c→Go.Cit.Own 5 W.heap.size w' y.a y.l y.c:=fun h=>h.save hs fun g hg=>(h.aK hg).1
 unfold Un at ht ⊢
 by_cases h13:d=13
 ·rw[if_pos h13] at ht ⊢;exact ht
 rw[if_neg h13] at ht ⊢
 by_cases h14:d=14
 ·rw[if_pos h14] at ht ⊢;exact ht
 rw[if_neg h14] at ht ⊢
 by_cases h15:d=15
 ·rw[if_pos h15] at ht ⊢
  obtain⟨y,h1,h2,h3⟩:=ht
  exact⟨y,h1,h2,ho h3⟩
 rw[if_neg h15] at ht ⊢
 by_cases h16:d=16
 ·rw[if_pos h16] at ht ⊢
  obtain⟨y,g,h1,h2,h3,h4,h5,h6⟩:=ht
  exact⟨y,g,h1,h2,Nat.lt_of_lt_of_le h3 hs.size,(hs.cell (p:=⟨g,0,none⟩) h3 h2).trans h4,h5,ho h6⟩
 rw[if_neg h16] at ht ⊢
 by_cases h17:d=17
 ·rw[if_pos h17] at ht ⊢
  obtain⟨y,h1,h2,h3⟩:=ht
  refine⟨y, ?_,h2,ho h3⟩
  unfold TB at h
  rw[if_neg (hi h17)] at h
  by_cases h5:i=5
  ·rw[if_pos h5] at h
   obtain⟨v',rfl⟩:=h
   refine h1.kept (grownBy_setCell' wx lb v') ?_
   cases hb:v.ownBlock with
   | none=>exact .inl rfl
   | some g=>right;have:=(h1.lt g hb).1;simp;omega
  ·rw[if_neg h5] at h
   exact h1.kept (row:=none) ⟨h.os,h.tape,h.output,h.size,fun k hk _=>h.block k hk⟩ (by cases v.ownBlock<;>simp)
 rw[if_neg h17];trivial
theorem Ls {ρ:Operand→Value} {o:Oper} (x:Operand) (h:o.op= .buildSlice 49 1 #[(0,x)]) {y:Sl UInt8} (hx:ρ x=sv y) (wx:World):
 (execOp ρ o).run Tryz.prog wx= .ok (.value (.slice (some ⟨wx.heap.size,0,none⟩) 1 1)) (wx.alloc (.cells #[sv y] 40)):=by
 unfold execOp
 rw[h]
 dsimp only
 go_simp
theorem KQ {w w':World} {base e size:Nat} {v:Value} {k:Nat} {xs:List Value} (h:w.ownsRow base e size v k xs) (hg:w.grownBy w' v.ownBlock):KeepsOthers w w':=by
 refine KeepsOthers.of_grownBy hg fun j _ ej hj=> ?_
 rcases h.2 with⟨rfl,_⟩ |⟨g',cap,cur',rfl,_,hg',_⟩
 ·simp[Value.ownBlock] at ej
 ·simp only[Value.ownBlock,Option.some.injEq] at ej
  subst ej
  rw[hg'] at hj;cases hj;rfl
theorem L6 {w W wx:World} {v:Value} {ds pre:List (Sl UInt8)} {x:Sl UInt8} {δ:Nat→Bool} (hrow:W.ownsRow (w.heap.size+3) 40 1 v pre.length (ds.map sv))
 (hds:ds.map (·.l)=pre.map (·.l)) (hown:∀d∈ds,Go.Cit.Own 5 (w.heap.size+3) W d.a d.l d.c) (hB:Below w.heap.size w W) (hsz:w.heap.size+3≤W.heap.size)
 (hC:QX W w.heap.size (w.heap.size+3) pre.length v ds x δ wx) (h5:δ 5=true):
 KeepsOthers W wx∧U9 (w.heap.size+3) w.heap.size W wx∧Si w (pre++ [x]) wx:=by
 obtain⟨⟨hs,_⟩,hk,_,_,h⟩:=hC
 obtain⟨v',d,hv',hrow',hd,hdl⟩:=h h5
 have hvb:∀k,v.ownBlock=some k→w.heap.size+3≤k:=fun k e=>(hrow.lt k e).1
 refine⟨hk,hs.less fun k hk1 hk2=>⟨hk1,hk2.2,fun e=> ?_⟩,v',ds++ [d],hv',by rw[List.map_append,List.length_append];exact hrow',by simp[hds,hdl],fun y hy=> ?_, ?_,Nat.le_trans hsz hs.size⟩
 ·have:=hvb k e;omega
 ·rcases List.mem_append.1 hy with hy |hy
  ·have ho:=hown y hy
   refine ho.save hs fun g hg=>⟨(ho.aK hg).2,by have:=(ho.aK hg).1;omega,fun e=> ?_⟩
   rcases ho.form with⟨hn,_,_⟩ |⟨g1,cur,hn,_,hg1,_⟩
   ·rw[hn] at hg;simp[Go.Cit.blk] at hg
   ·rw[hn] at hg
    simp[Go.Cit.blk] at hg
    subst hg
    rcases hrow.2 with⟨rfl,_⟩ |⟨g',cap,cur',rfl,_,hg',_⟩
    ·simp[Value.ownBlock] at e
    ·simp only[Value.ownBlock,Option.some.injEq] at e
     subst e
     rw[hg1] at hg'
     cases hg'
  ·obtain rfl:y=d:=by simpa using hy
   exact hd.low hsz
 ·refine hB.trans (hs.below AL fun k hk=>⟨by omega,by omega,fun e=> ?_⟩)
  have:=hvb k e;omega
theorem GH {W:World} {lb n₀ k:Nat} {v0:Value} {ds:List (Sl UInt8)} {x:Sl UInt8} {δ:Nat→Bool} {i:Nat} {wx:World} (h:QX W lb n₀ k v0 ds x δ wx) (h4:i≠4) (h5:i≠5):QX W lb n₀ k v0 ds x (upd δ i) wx:=by
 unfold QX at h ⊢
 rw[aA δ h4,aA δ h5];exact h
theorem Dj {W:World} {lb n₀ k:Nat} {v0:Value} {ds:List (Sl UInt8)} {x:Sl UInt8} {δ:Nat→Bool} {i:Nat} {wx w':World} (hb:Below wx.heap.size wx w') (h:QX W lb n₀ k v0 ds x δ wx) (d5:δ 5=false) (h4:i≠4) (h5:i≠5):QX W lb n₀ k v0 ds x (upd δ i) w':=by
 unfold QX at h ⊢
 rw[aA δ h4,aA δ h5]
 have hg:wx.grownBy w' none:=⟨hb.os,hb.tape,hb.output,hb.size,fun k hk _=>hb.block k hk⟩
 exact⟨⟨h.1.1.trans (Save.of hb),fun h'=>(h.1.2 h').trans (hb.mono h.1.1.size)⟩,h.2.1.trans (xC hb),fun h'=>(h.2.2.1 h').kept hg AO,fun h'=>(h.2.2.2.1 h').kept hg (by cases v0.ownBlock<;>simp),fun h'=>by rw[d5] at h';exact absurd h' Bool.false_ne_true⟩
theorem KE:(Tryz.prog.info? 40).map (fun i=>(i.zero,i.size,i.bytes))=some (some (.slice none 0 0),1,24):=by kernel_rfl
def KD (B:Nat) (a:Option Addr) (ds:List (Sl UInt8)):Prop:=(∀g,Go.Cit.blk a=some g→B≤g)∧∀d∈ds,∀g,Go.Cit.blk d.a=some g→B≤g
theorem Kz (w:World) (a:Option Addr) (l:List UInt8) (c n:Nat) (r:Row w a l c) (hn:1≤n) (hn9:n≤9223372036854775807) (hl:l.length≤100000000):
 Calls Tryz.prog 115 #[.slice a l.length c, .int .i64 n] w fun e w'=>∃a' ds cp,e= .returned (.slice a' ds.length cp)∧ds.map (·.l)=Ei n l∧Rows w' a' ds cp∧KD w.heap.size a' ds∧Below w.heap.size w w':=by
 have t1:decide ((n:Int)<1)=false:=by simp;omega
 refine(callsIn_wide (n:=3)).1 ?_
 refine callsIn_of_wp_marks Tryz.func115 rfl trivial ?_ rfl
 simp only[Tryz.ntmps115,List.size_toArray,List.length_cons,List.length_nil,Nat.reduceAdd,Nat.reduceSub,Array.replicate_succ,Array.replicate_zero,List.push_toArray,List.append_toArray,List.nil_append,List.cons_append]
 gi_wp2_with (refine⟨trivial, ?_⟩;gi_at_call 196;refine(callsIn_wide.2 (BF _ _ _ _ _)).mono ?_;rintro e w' ⟨rfl,rfl⟩)
 have hmix:Tryz.prog.follows .mixedOrders=true:=by kernel_rfl
 have bL:=Boxed.new w 49 (.slice none 0 0)
 have hB0:Below w.heap.size w (((w.alloc (.cells #[.slice none 0 0] 49)).alloc (.cells #[.slice a l.length c] 40)).alloc (.cells #[.int .i64 n] 3)):=
  (((Below.refl _ w).alloc (Nat.le_refl _) _).alloc AO _).alloc (by simp;omega) _
 have hsz:(((w.alloc (.cells #[.slice none 0 0] 49)).alloc (.cells #[.slice a l.length c] 40)).alloc (.cells #[.int .i64 n] 3)).heap.size=w.heap.size+3:=by simp
 have bC:(((w.alloc (.cells #[.slice none 0 0] 49)).alloc (.cells #[.slice a l.length c] 40)).alloc (.cells #[.int .i64 n] 3)).heap[w.heap.size+1]? =some (.cells #[.slice a l.length c] 40 (0,0)):=by
  have:=Boxed.new (w.alloc (.cells #[.slice none 0 0] 49)) 40 (.slice a l.length c)
  rw[World.size_alloc] at this
  exact this.alloc _
 have bN:(((w.alloc (.cells #[.slice none 0 0] 49)).alloc (.cells #[.slice a l.length c] 40)).alloc (.cells #[.int .i64 n] 3)).heap[w.heap.size+2]? =some (.cells #[.int .i64 n] 3 (0,0)):=by
  have:=Boxed.new ((w.alloc (.cells #[.slice none 0 0] 49)).alloc (.cells #[.slice a l.length c] 40)) 3 (.int .i64 n)
  rw[World.size_alloc,World.size_alloc] at this
  exact this
 have bL:=(bL.alloc (.cells #[.slice a l.length c] 40)).alloc (.cells #[.int .i64 n] 3)
 generalize (((w.alloc (.cells #[.slice none 0 0] 49)).alloc (.cells #[.slice a l.length c] 40)).alloc (.cells #[.int .i64 n] 3))=w0 at hB0 hsz bC bN bL
 have hg:l≠ []→∀g,Go.Cit.blk a=some g→(g<w.heap.size+3∧g≠w.heap.size)∧g≠w.heap.size+1:=by
  intro hne g e
  obtain⟨b,off,rfl⟩:=r.spot hne
  have:=r.blk (i:=0) (List.length_pos_iff.2 hne)
  simp[Go.Cit.blk] at e
  simp[ad] at this
  omega
 refine wL rfl AP (gf:=234) (lb:= #[.pointer (some ⟨w.heap.size+1,0,none⟩), .pointer (some ⟨w.heap.size+1+1,0,none⟩)]) rfl trivial (enters_of Tryz.func234 AB rfl)
  (C:=(· =w.heap.size+1)) (fun c hc=>by omega)
  (Eh (3-1) w0 (w.heap.size+1) (w.heap.size+1+1) w.heap.size (w.heap.size+3) a l c n hn hn9 AL AL AL AL AL bC bN (r.stay hB0) hg)
  (fun h k=>Save.trans h k) (fun W L o o' hL ho hc=>⟨rfl,rfl,rfl,by simp,fun k _ hk=>World.putObj_heap_other AL⟩) (fun x=>rfl)
  (fun x W L o o' hL ho hc hx=> ?fx) (Si w) (by rw[hsz];exact Ir w) ?h0
  (fun x=> {tmps:= #[.slice a l.length c, .int .i64 n,undef,undef, .slice none 0 0, .pointer (some ⟨w.heap.size,0,none⟩),sv x, .int .i64 n, .bool false, .slice a l.length c, .int .i64 n,
   .func (.func 234) #[] #[.pointer (some ⟨w.heap.size+1,0,none⟩), .pointer (some ⟨w.heap.size+1+1,0,none⟩)],sv x,undef,undef,undef,undef,undef,undef],defers:=[]}) ?assign ?body ?done
 case fx=>
  refine⟨?_,hx.2⟩
  replace hx:=hx.1
  refine⟨hx.le,hx.top,hx.nil,hx.spot,fun i hi=> ?_⟩
  rw[World.cell?_of_block (w:=W)]
  ·exact hx.cell i hi
  ·refine World.putObj_heap_other fun e=> ?_
   have h1:=hx.cell i hi
   rw[World.cell?,e,ho] at h1
   cases o<;>simp_all [Obj.isCells]
 case h0=>exact⟨_,[],bL,World.ownsRow_nil _ _ _ _,rfl,fun d hd=>by simp at hd,hB0,by omega⟩
 case assign=>
  intro L x W K hK
  gi_wp2
  exact hK
 case body=>
  rintro L pre x W ⟨v,ds,hv,hrow,hds,hown,hB,hsW⟩ hN ⟨rx,hx9⟩
  have hc:=hv.cell
  replace hx9:x.l.length≤1000000000:=by omega
  have HDS:=AQ hds
  have HOWN:=AQ hown
  clear hds hown
  gi_wp2
  have hvb:∀g,v.ownBlock=some g→g<W.heap.size:=fun g e=>(hrow.lt g e).2
  refine yC hmix AB (fun _ _ h=>h) (NK (QX W w.heap.size (w.heap.size+3) pre.length v ds x) (TB w.heap.size v) (Un W (w.heap.size+3) pre.length v ds x) AB ?_ ?_ ?_ ?_)
  ·intro w' hb hh
   refine⟨⟨Save.of hb,fun _=>hb⟩,xC hb,fun _=> ?_,fun _=> ?_,fun h=>absurd h Bool.false_ne_true⟩
   ·exact(by rw[hh]:w'.heap[w.heap.size]? =W.heap[w.heap.size]?).trans hv
   ·exact hrow.kept (row:=none) ⟨hb.os,hb.tape,hb.output,hb.size,fun k hk _=>hb.block k hk⟩ (by cases v.ownBlock<;>simp)
  ·intro δ i j o u wx w' ho hij _ hj hi hc hG hT
   rcases hd:o.dst with _ |d
   ·exact eU hd _ _
   ·rw[fZ hd] at hT ⊢
    refine O5 AL hsW hvb (fun h17 e4=> ?_) hG hT
    subst h17
    have:=Dl (d:=17) (j:=4) AB ho hd
    omega
  ·repeat' (first |exact aU |refine aI ?_ ?_)
   all_goals intro δ wa wx hk
   ·have hbx:=hk.inv.2.2.1 (hk.closed.yet 7 5 0 AB hk.yet)
    refine⟨ah rfl,bg (.tmp 5) rfl (hk.o 5) (by simp[go_sem,hbx.cell]) ⟨Below.refl _ _,GH hk.inv AP AP,rfl⟩⟩
   ·exact⟨ah rfl,eH (.tmp 6) rfl ⟨Below.refl _ _,GH hk.inv AP AP,hk.o 6⟩⟩
   ·have h4:=hk.closed.yet 7 4 2 AB hk.yet
    have h5:=hk.closed.yet 7 5 2 AB hk.yet
    have rx':=rx.stay (hk.inv.1.2 h4)
    refine⟨ah rfl,bJ rfl (hk.fn _) #[sv x] (fun w=>AB) (by simp[show wa.eval (.tmp 14)=sv x from hk.s 14]) ((Gi wx _ _ _ rx' hx9).mono ?_)⟩
    rintro e w'' ⟨a',c',rfl,ho,hb⟩
    exact⟨_,rfl,hb,Dj hb hk.inv h5 AP AP,⟨a',c',x.l⟩,rfl,rfl,ho.low hk.inv.1.1.size⟩
   ·have h4:=hk.closed.yet 7 4 3 AB hk.yet
    have h5:=hk.closed.yet 7 5 3 AB hk.yet
    obtain⟨y,hy,hyl,hyo⟩:=hk.s 15
    have hb:=(Below.refl wx.heap.size wx).alloc (Nat.le_refl _) (.cells #[sv y] 40)
    refine⟨ah rfl,fA (v:= .slice (some ⟨wx.heap.size,0,none⟩) 1 1) (w':=wx.alloc (.cells #[sv y] 40)) ?_ ⟨hb,Dj hb hk.inv h5 AP AP,y,wx.heap.size,rfl,hk.inv.1.1.size,by simp,(Boxed.new wx 40 (sv y)).cell,hyl,hyo.alloc _⟩⟩
    exact Ls (.tmp 15) rfl hy wx
   ·have h5:=hk.closed.yet 7 5 4 AB hk.yet
    obtain⟨y,g,hy,hg1,hg2,hyc,hyl,hyo⟩:=hk.s 16
    refine⟨ah rfl,Bv (.tmp 13) (.tmp 16) 49 rfl (w.heap.size+3) 40 (.slice none 0 0) 1 24 Tryz.underlying49 KE rfl AP (hk.s 13) (hk.inv.2.2.2.1 hk.yet) hy (news:=[sv y]) rfl ?_ ?_ ?_ ?_ ?_ ?_⟩
    ·intro j u hu
     match j with
     | 0=>simp at hu;subst hu;simpa[Addr.add] using hyc
     | j+1=>simp at hu
    ·intro u hu;simp at hu;subst hu;rfl
    ·unfold maxLen;omega
    ·omega
    ·exact Nat.le_trans hsW hk.inv.1.1.size
    ·intro v' w' hown' hgr
     refine⟨hgr,⟨⟨hk.inv.1.1.trans ((Save.grown hgr).less fun j _ hj=>Ne.symm hj.2.2),fun h=>absurd h (by rw[upd_same];decide)⟩,hk.inv.2.1.trans ?_,fun h=>(hk.inv.2.2.1 h5).kept hgr ?_,fun h=>absurd h (by rw[upd_same];decide),fun h=> ?_⟩,y,hown',hyl, ?_⟩
     ·exact KQ (hk.inv.2.2.2.1 hk.yet) hgr
     ·intro e;have:=(hrow.lt _ e.symm).1;omega
     ·rw[aA δ AP,h5] at h;exact absurd h Bool.false_ne_true
     ·exact hyo.save (Save.grown hgr) fun g hg e=>by have:=hvb g e.symm;have:=(hyo.aK hg).1;omega
   ·obtain⟨y,hown',hyl,hyo⟩:=hk.s 17
    have hbx:=hk.inv.2.2.1 hk.yet
    have hcell:=hbx.cell
    have hfree:=hbx.frozen
    obtain⟨g',cap',hv'⟩:=ownsRow_succ hown'
    refine⟨ah rfl,zu (.tmp 5) (.tmp 17) rfl (hk.o 5) hv' (w':=wx.setCell ⟨w.heap.size,0,none⟩ (.slice (some ⟨g',0,none⟩) (pre.length+1) cap')) (by simp[go_sem,hcell,hfree]) ⟨⟨_,rfl⟩,⟨⟨hk.inv.1.1.trans (Save.set.less fun k _ hk=>hk.2.1),fun h=> ?_⟩,hk.inv.2.1.trans (KeepsOthers.setCell _ _ _),fun h=>absurd h (by rw[upd_same];decide),fun h=> ?_,fun _=>⟨_,y,hbx.set _, ?_, ?_,hyl⟩⟩,trivial⟩⟩
    ·rw[aA δ AP] at h
     have:=hk.next.needs 7 5 4 AB (upd_same _ _)
     rw[aA δ AP,h] at this;exact absurd this Bool.false_ne_true
    ·rw[aA δ AP] at h
     have:=hk.next.needs 7 5 4 AB (upd_same _ _)
     rw[aA δ AP,h] at this;exact absurd this Bool.false_ne_true
    ·rw[hv'] at hown'
     refine hown'.kept (grownBy_setCell' wx w.heap.size _) (.inr ?_)
     have:=(hown'.lt g' rfl).1
     simp[Value.ownBlock];omega
    ·exact hyo.save (S:=(· ≠w.heap.size)) Save.set fun g hg=>by have:=(hyo.aK hg).1;omega
  ·intro δ wa wx hall hc hsame hT
   exact L6 hrow HDS.o HOWN.o hB hsW hc (hall 5 AP)
 case done=>
  rintro D xs W hD hS ⟨v,ds,hv,hrow,hds,hown,hB,hsW⟩ hK
  have hc:=hv.cell
  gi_wp2
  refine⟨by simp, .inl ⟨_,_,rfl,run_takeDeferred hK, ?_⟩⟩
  have hdl:xs.length=ds.length:=by have:=congrArg List.length hds;simpa using this.symm
  rw[hdl] at hrow
  have hrow:=kX hrow (grownBy_putObj' W D (.deferred none)) (fun r e=>by cases e;exact .inr ⟨_,hK,rfl⟩)
  have hown2:∀d∈ds,Go.Cit.Own 5 (w.heap.size+3) (W.putObj D (.deferred none)) d.a d.l d.c:=fun d hd=>⟨kX (hown d hd).row (grownBy_putObj' W D (.deferred none)) (fun r e=>by cases e;exact .inr ⟨_,hK,rfl⟩)⟩
  have hv2:∃a' cp,v= .slice a' ds.length cp∧Rows (W.putObj D (.deferred none)) a' ds cp∧KD w.heap.size a' ds:=by
   rcases hrow.2 with⟨rfl,h0⟩ |⟨g,cap,cur,rfl,hge,hg,hle,htop,hsz2,htk⟩
   ·obtain rfl:ds=[]:=List.eq_nil_of_length_eq_zero h0
    exact⟨none,0,rfl,⟨Nat.le_refl _,Nat.zero_le _,fun _=>rfl,fun h=>absurd rfl h,fun i h=>by simp at h,fun d hd=>by simp at hd⟩,fun g h=>by simp[Go.Cit.blk] at h,fun d hd=>by simp at hd⟩
   ·refine⟨_,_,rfl,⟨hle,htop,fun h=>by simp at h,fun _=>⟨g,0,rfl⟩,fun i hi=> ?_,fun d hd=>(hown2 d hd).isRow⟩,fun k h=>by simp[Go.Cit.blk] at h;omega,fun d hd k h=>by have:=((hown2 d hd).aK h).1;omega⟩
    have:=hrow.cells (g:=g) rfl i (sv ds[i]) (by simp[hi])
    have ea:(⟨g,0,none⟩:Addr).add i=ad (some ⟨g,0,none⟩) i:=by unfold Addr.add ad;split<;>simp_all
    rw[←ea];exact this
  obtain⟨a',cp,rfl,hrows,hnew⟩:=hv2
  exact⟨_,results_tmp rfl _ _ _,a',ds,cp,rfl,hds.trans hS,hrows,hnew,hB.trans (belowK_b (w:=w) (Nat.le_refl _) W D _ _ AL hK rfl rfl)⟩
end Go.Proofs.YtlholdllibghbaaGreat
