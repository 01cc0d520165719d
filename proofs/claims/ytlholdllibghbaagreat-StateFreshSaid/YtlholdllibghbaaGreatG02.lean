/- Texts of the proof, one behind the other: Sh, Open, Cfg, Phase. No condition but those that each names. -/
import Derived.Test.YtlholdllibghbaaGreatG01
import Derived.Deep.Slices
import Derived.Deep.Fields
import Derived.ChangeSame
import Derived.SizedLaws
import Derived.Test.YtlholdllibghbaaGreatProg
import Derived.Test.YtlholdllibghbaaGreatG00
import Derived.Test.YtlholdllibghbaaGreatKit
namespace Go.Cit
open Go Go.RowKit Go.ChangeShapes Go.WideShapes Go.Deep
structure Sl (α:Type) where
 a:Option Addr
 c:Nat
 l:List α
inductive Sh:Bool→Type where
 | i64:Sh false
 | u8:Sh false
 | u32:Sh false
 | u64:Sh false
 | bool:Sh false
 | str:Sh false
 | bytes:Sh false
 | arr (n:Nat) (s:Sh false):Sh false
 | slice (s:Sh false):Sh false
 | st (f:Sh true):Sh false
 | nil:Sh true
 | cons (s:Sh false) (f:Sh true):Sh true
@[reducible] def Sh.D: {b:Bool}→Sh b→Type
 | _, .i64=>Int
 | _, .u8=>UInt8
 | _, .u32=>UInt32
 | _, .u64=>UInt64
 | _, .bool=>Bool
 | _, .str=>ByteArray
 | _, .bytes=>Sl UInt8
 | _, .arr _ s=>List s.D
 | _, .slice s=>Sl s.D
 | _, .st f=>f.D
 | _, .nil=>Unit
 | _, .cons s f=>s.D×f.D
def Sh.size: {b:Bool}→Sh b→Nat
 | _, .i64=>1
 | _, .u8=>1
 | _, .u32=>1
 | _, .u64=>1
 | _, .bool=>1
 | _, .str=>1
 | _, .bytes=>1
 | _, .arr n s=>n*s.size
 | _, .slice _=>1
 | _, .st f=>f.size
 | _, .nil=>0
 | _, .cons s f=>s.size+f.size
def Sh.enc: {b:Bool}→(s:Sh b)→s.D→List Value
 | _, .i64,n=> [.int .i64 n]
 | _, .u8,x=> [vb x]
 | _, .u32,x=> [vw x]
 | _, .u64,x=> [vq x]
 | _, .bool,x=> [.bool x]
 | _, .str,x=> [.string x]
 | _, .bytes,d=> [.slice d.a d.l.length d.c]
 | _, .arr _ s,l=>l.flatMap s.enc
 | _, .slice _,d=> [.slice d.a d.l.length d.c]
 | _, .st f,d=>f.enc d
 | _, .nil,_=> []
 | _, .cons s f,d=>s.enc d.1++f.enc d.2
def Sh.ok: {b:Bool}→(s:Sh b)→World→s.D→Prop
 | _, .i64,_,n=> -9223372036854775808≤n∧n≤9223372036854775807
 | _, .u8,_,_=>True
 | _, .u32,_,_=>True
 | _, .u64,_,_=>True
 | _, .bool,_,_=>True
 | _, .str,_,s=>s.size≤maxLen
 | _, .bytes,w,d=>Row w d.a d.l d.c∧d.c≤140737488351232
 | _, .arr n s,w,l=>l.length=n∧∀x∈l,s.ok w x
 | _, .slice s,w,d=>d.l.length≤d.c∧d.c≤140737488351232∧(d.a=none→d.c=0)∧(d.l≠ []→∃b off,d.a=some ⟨b,off,none⟩)∧
  ∀i (h:i<d.l.length),(∀j,j<s.size→w.cell? (ad d.a (i*s.size+j))=(s.enc d.l[i])[j]?)∧s.ok w d.l[i]
 | _, .st f,w,d=>f.ok w d
 | _, .nil,_,_=>True
 | _, .cons s f,w,d=>s.ok w d.1∧f.ok w d.2
def isInt (d:Option TypeDesc) (k:IntKind):Bool:=match d with |some (.int j)=>decide (j=k) |_=>false
def isBool (d:Option TypeDesc):Bool:=match d with |some .bool=>true |_=>false
def isStr (d:Option TypeDesc):Bool:=match d with |some .string=>true |_=>false
theorem jg {d:Option TypeDesc} {k:IntKind} (h:isInt d k=true):d=some (.int k):=by
 unfold isInt at h;split at h
 ·rw[of_decide_eq_true h]
 ·exact absurd h AP
theorem zM {d:Option TypeDesc} (h:isBool d=true):d=some .bool:=by
 unfold isBool at h;split at h
 ·rfl
 ·exact absurd h AP
theorem DZ {d:Option TypeDesc} (h:isStr d=true):d=some .string:=by
 unfold isStr at h;split at h
 ·rfl
 ·exact absurd h AP
def Sh.fits (P:Program): {b:Bool}→Sh b→TypeId→List Field→Nat→Bool
 | _, .i64,t,_,_=>isInt (P.underlying t) .i64
 | _, .u8,t,_,_=>isInt (P.underlying t) .u8
 | _, .u32,t,_,_=>isInt (P.underlying t) .u32
 | _, .u64,t,_,_=>isInt (P.underlying t) .u64
 | _, .bool,t,_,_=>isBool (P.underlying t)
 | _, .str,t,_,_=>isStr (P.underlying t)
 |
  _, .bytes,t,_,_=>match P.underlying t with
  | some (.slice e)=>isInt (P.underlying e) .u8 && P.cellsOf e==1 && P.bytesOf e==1
  | _=>false
 |
  _, .arr n s,t,_,_=>match P.underlying t with
  | some (.array m e)=>m==n && P.cellsOf e==s.size && s.fits P e [] 0 && P.cellsOf t==n*s.size
  | _=>false
 |
  _, .slice s,t,_,_=>match P.underlying t with
  | some (.slice e)=>P.cellsOf e==s.size && decide (0<s.size∧0<P.bytesOf e) && s.fits P e [] 0
  | _=>false
 |
  _, .st f,t,_,_=>match P.underlying t with
  | some (.struct fs)=>P.cellsOf t==f.size && f.fits P 0 fs.toList 0
  | _=>false
 | _, .nil,_,fs,_=>fs.isEmpty
 |
  _, .cons s f,_,fs,off=>match fs with
  | fd::fs=>fd.offset==off && P.cellsOf fd.type==s.size && s.fits P fd.type [] 0 && f.fits P 0 fs (off+s.size)
  | []=>false
theorem Sh.iE: {b:Bool}→(s:Sh b)→(w:World)→(d:s.D)→s.ok w d→(s.enc d).length=s.size
 | _, .i64,_,_,_=>rfl
 | _, .u8,_,_,_=>rfl
 | _, .u32,_,_,_=>rfl
 | _, .u64,_,_,_=>rfl
 | _, .bool,_,_,_=>rfl
 | _, .str,_,_,_=>rfl
 | _, .bytes,_,_,_=>rfl
 |
  _, .arr n s,w,l,h=>by
  have:∀l:List s.D,(∀x∈l,s.ok w x)→(l.flatMap s.enc).length=l.length*s.size:=by
   intro l hl
   induction l with
   | nil=>simp
   | cons x l ih=>rw[List.flatMap_cons,List.length_append,s.iE w x (hl x AO),ih (fun y hy=>hl y (by simp[hy])),List.length_cons,Nat.succ_mul,Nat.add_comm]
  show(List.flatMap s.enc l).length=n*s.size
  rw[this l h.2,h.1]
 | _, .slice _,_,_,_=>rfl
 | _, .st f,w,d,h=>f.iE w d h
 | _, .nil,_,_,_=>rfl
 |
  _, .cons s f,w,d,h=>by
  show(s.enc d.1++f.enc d.2).length=s.size+f.size
  rw[List.length_append,s.iE w d.1 h.1,f.iE w d.2 h.2]
theorem choose_lt' {α:Type}:∀(n:Nat) {p:Nat→α→Prop},(∀i,i<n→∃x,p i x)→∃l:List α,l.length=n∧∀i (h:i<l.length),p i l[i]
 | 0,_,_=>⟨[],rfl,fun i h=>by simp at h⟩
 |
  n+1,p,h=>by
  obtain⟨l,hl,hp⟩:=choose_lt' n (p:=p) (fun i hi=>h i AL)
  obtain⟨x,hx⟩:=h n AL
  refine⟨l++ [x],by simp[hl],fun i hi=> ?_⟩
  by_cases hin:i<l.length
  ·rw[List.getElem_append_left hin];exact hp i hin
  ·have:i=n:=by simp at hi;omega
   subst this
   rw[List.getElem_append_right AL]
   simpa[hl] using hx
theorem kM {α:Type} (k:Nat) (f:α→List Value):∀(l:List α) (cs:List Value),cs.length=l.length*k→(∀i (h:i<l.length),(cs.drop (i*k)).take k=f l[i])→cs=l.flatMap f
 | [],cs,h,_=>by simp at h;simp[h]
 |
  x::l,cs,h,hp=>by
  have h0:=hp 0 AO
  simp only[Nat.zero_mul,List.drop_zero,List.getElem_cons_zero] at h0
  have ih:=kM k f l (cs.drop k) (by simp at h ⊢;rw[h,Nat.succ_mul];omega) (fun i hi=>by
   have:=hp (i+1) (by simp;omega)
   rw[Nat.succ_mul,Nat.add_comm (i*k) k] at this
   simpa[List.drop_drop] using this)
  rw[List.flatMap_cons,←h0,←ih,List.take_append_drop]
section
variable {H:Type} {enc:TypeId×Value→H} {P:Program} {w:World} {base:Nat} {held:Bool}
theorem EY {w:World} {a:Addr} {k:Nat} {v:Value} (h:w.cell? (a.add k)=some v):a.add k=ad (some a) k∧(0<k→True):=by
 refine⟨?_,fun _=>trivial⟩
 have hs:=World.cell?_spot h
 obtain⟨b,off,sp⟩:=a
 unfold Addr.add ad at *
 by_cases h0:k=0
 ·subst h0;simp at hs ⊢;simp[hs]
 ·simp[h0]
theorem gK:∀ {e:TypeId} {ds:List (DataW H)} {j:Nat} {d:DataW H},ds[j]? =some d→∀n∈d.weights P e,n∈DataW.weightsAll P e ds
 |
  e,d0::ds,0,d,hd,n,hn=>by
  simp only[List.getElem?_cons_zero,Option.some.injEq] at hd
  subst hd
  simp only[DataW.weightsAll,List.mem_append]
  exact Or.inl hn
 |
  e,d0::ds,j+1,d,hd,n,hn=>by
  simp only[List.getElem?_cons_succ] at hd
  simp only[DataW.weightsAll,List.mem_append]
  exact Or.inr (gK hd n hn)
 | _,[],_,_,hd,_,_=>by simp at hd
def Fine (P:Program) (t:TypeId) (d:DataW H):Prop:=∀n∈d.weights P t,n≤140737488351232
mutual
theorem oM:(s:Sh false)→(t:TypeId)→(fs:List Field)→(off:Nat)→(fuel:Nat)→(cs:List Value)→(x:DataW H×List MemPlace)→s.fits P t fs off=true→DataW.trod enc P w base (fun _=>true) held fuel t cs=some x→Fine P t x.1→∃d:s.D,cs=s.enc d∧s.ok w d
 |
  .i64,t,_,_,fuel,cs,x,hf,h,hz0=>by
  obtain⟨n,rfl,_,hw⟩:=DataW.trod_int (jg hf) h
  exact⟨n,rfl,BP hw⟩
 |
  .u8,t,_,_,fuel,cs,x,hf,h,hz0=>by
  obtain⟨n,rfl,_,hw⟩:=DataW.trod_int (jg hf) h
  obtain⟨y,rfl⟩:=vS hw
  exact⟨y,rfl,trivial⟩
 |
  .u32,t,_,_,fuel,cs,x,hf,h,hz0=>by
  obtain⟨n,rfl,_,hw⟩:=DataW.trod_int (jg hf) h
  obtain⟨y,rfl⟩:=Ai hw
  exact⟨y,rfl,trivial⟩
 |
  .u64,t,_,_,fuel,cs,x,hf,h,hz0=>by
  obtain⟨n,rfl,_,hw⟩:=DataW.trod_int (jg hf) h
  obtain⟨y,rfl⟩:=Bj hw
  exact⟨y,rfl,trivial⟩
 |
  .bool,t,_,_,fuel,cs,x,hf,h,hz0=>by
  obtain⟨y,rfl,_⟩:=DataW.trod_bool (zM hf) h
  exact⟨y,rfl,trivial⟩
 |
  .str,t,_,_,fuel,cs,x,hf,h,hz0=>by
  obtain⟨y,rfl,_,hw⟩:=DataW.trod_string (DZ hf) h
  exact⟨y,rfl,hw⟩
 |
  .bytes,t,_,_,fuel,cs,x,hf,h,hz0=>by
  unfold Sh.fits at hf
  split at hf
  ·rename_i e he
   rw[Bool.and_eq_true,Bool.and_eq_true,beq_iff_eq,beq_iff_eq] at hf
   rcases open_ints he (jg hf.1.1) hf.1.2 h with⟨rfl,_⟩ |⟨a,len,cap,zs,rfl,_,hl,hm,hz,rfl,hcell,hwz⟩
   ·exact⟨⟨none,0,[]⟩,rfl,Row.nil_ w,Nat.zero_le _⟩
   ·have h1:((lits (H:=H) .u8 (zs.take len)).length+(lits (H:=H) .u8 (zs.drop len)).length)*P.bytesOf e≤140737488351232:=hz0 _ (by simp[DataW.weights,he])
    have hcz:cap≤140737488351232:=by
     rw[hf.2,Nat.mul_one] at h1
     simp[lits] at h1 hz
     omega
    obtain⟨l,rfl,hr⟩:=row_of (w:=w) (a:=some a) (len:=len) (cap:=cap) (zs:=zs) (.inr ⟨a,rfl,hl,hm,by simpa using hz,hcell,hwz⟩)
    exact⟨⟨some a,cap,l⟩,rfl,hr,hcz⟩
  ·exact absurd hf AP
 |
  .arr n s,t,_,_,fuel,cs,x,hf,h,hz0=>by
  unfold Sh.fits at hf
  split at hf
  ·rename_i m e he
   simp only[Bool.and_eq_true,beq_iff_eq] at hf
   obtain⟨⟨⟨rfl,hsz⟩,hfe⟩,hC⟩:=hf
   obtain⟨xs,k,_,hxe,hl,hxl,hx⟩:=DataW.trod_array he h
   obtain⟨l,hll,hp⟩:=choose_lt' (α:=s.D) m (p:=fun i d=>(cs.drop (i*s.size)).take s.size=s.enc d∧s.ok w d) (fun i hi=>by
    have h1:=hx i hi
    rw[hsz,List.getElem?_eq_getElem AL] at h1
    refine oM s e [] 0 k _ _ hfe h1 (fun n hn=>hz0 n ?_)
    rw[hxe]
    simp only[DataW.weights,he]
    exact gK (j:=i) (by simp[hxl,hi]) n hn)
   refine⟨l, ?_,hll,fun x hx=> ?_⟩
   ·exact kM s.size s.enc l cs (by rw[hl,hC,hll]) (fun i hi=>(hp i hi).1)
   ·obtain⟨i,hi,rfl⟩:=List.mem_iff_getElem.1 hx
    exact(hp i hi).2
  ·exact absurd hf AP
 |
  .slice s,t,_,_,fuel,cs,x,hf,h,hz0=>by
  unfold Sh.fits at hf
  split at hf
  ·rename_i e he
   simp only[Bool.and_eq_true,beq_iff_eq,decide_eq_true_eq] at hf
   obtain⟨⟨hsz,hpos,hby⟩,hfe⟩:=hf
   rcases open_slice he h with⟨rfl,_⟩ |⟨a,len,cap,m,n,D,Pl,rfl,_,hl,hm,hmm,rfl,hi⟩
   ·exact⟨⟨none,0,[]⟩,rfl,by refine⟨Nat.le_refl _,Nat.zero_le _,fun _=>rfl,fun h=>absurd rfl h,fun i h=>by simp at h⟩⟩
   ·have hlm:len≤m:=by rw[hmm];split<;>omega
    obtain⟨l,hll,hp⟩:=choose_lt' (α:=s.D) len (p:=fun i d=>(∀j,j<s.size→w.cell? (a.add (i*s.size+j))=(s.enc d)[j]?)∧s.ok w d) (fun i hii=>by
     obtain⟨cs',hc,ht'⟩:=hi i AL
     rw[hsz] at hc
     obtain⟨_,hcl,hat⟩:=World.cells?_some hc
     obtain⟨d,rfl,hok⟩:=oM s e [] 0 n _ _ hfe ht' (fun n hn=>hz0 n (by
      simp only[DataW.weights,he,List.mem_cons,List.mem_append]
      exact .inr (.inl (gK (j:=i) (by simp[hii]) n hn))))
     refine⟨d,fun j hj=> ?_,hok⟩
     have:=hat j hj
     rwa[Go.Deep.add_add] at this)
    subst hll
    have hcell:∀i (h:i<l.length) j,j<s.size→∃v,w.cell? (a.add (i*s.size+j))=some v:=by
     intro i h j hj
     have:=(hp i h).1 j hj
     rw[List.getElem?_eq_getElem (by rw[s.iE w _ (hp i h).2];exact hj)] at this
     exact⟨_,this⟩
    have hcz:cap≤140737488351232:=by
     have h1:(((List.range l.length).map D).length+((List.range (m-l.length)).map fun j=>D (l.length+j)).length)*P.bytesOf e≤140737488351232:=hz0 _ (by simp[DataW.weights,he])
     have h2:=Nat.le_mul_of_pos_right (((List.range l.length).map D).length+((List.range (m-l.length)).map fun j=>D (l.length+j)).length) hby
     simp at h1 h2 hmm
     omega
    refine⟨⟨some a,cap,l⟩,rfl,hl,hcz,fun h=>by simp at h,fun hne=> ?_,fun i h=>⟨fun j hj=> ?_,(hp i h).2⟩⟩
    ·have h0:0<l.length:=List.length_pos_iff.2 hne
     obtain⟨v,hv⟩:=hcell 0 h0 0 hpos
     have:=World.cell?_spot hv
     obtain⟨b,off,sp⟩:=a
     simp[Addr.add] at this
     exact⟨b,off,by rw[this]⟩
    ·obtain⟨v,hv⟩:=hcell i h j hj
     show w.cell? (ad (some a) _)=_
     rw[←(EY hv).1]
     exact(hp i h).1 j hj
  ·exact absurd hf AP
 |
  .st f,t,_,_,fuel,cs,x,hf,h,hz0=>by
  unfold Sh.fits at hf
  split at hf
  ·rename_i fs he
   simp only[Bool.and_eq_true,beq_iff_eq] at hf
   obtain⟨xs,n,_,hxe,hl,hxl,hx⟩:=DataW.trod_struct he h
   obtain⟨d,hd,hok⟩:=zG f fs.toList 0 n cs hf.2 (by rw[hl,hf.1];omega) (fun i fd hfd=>by
    have h1:=hx i fd (by simpa using hfd)
    have hi:i<xs.length:=by rw[hxl];have:=(List.getElem?_eq_some_iff.1 hfd).1;simpa using this
    rw[List.getElem?_eq_getElem hi] at h1
    refine⟨_,h1,fun n hn=>hz0 n ?_⟩
    rw[hxe]
    simp only[DataW.weights,he]
    exact DataW.weights_mem_each (j:=i) (by rw[List.getElem?_map,hfd];rfl) (by simp[hi]) n hn)
   exact⟨d,hd,hok⟩
  ·exact absurd hf AP
theorem zG:(f:Sh true)→(fs:List Field)→(off:Nat)→(n:Nat)→(cs:List Value)→f.fits P 0 fs off=true→cs.length=off+f.size→
 (∀(i:Nat) (fd:Field),fs[i]? =some fd→∃y,DataW.trod enc P w base (fun _=>true) held n fd.type ((cs.drop fd.offset).take (P.cellsOf fd.type))=some y∧Fine P fd.type y.1)→∃d:f.D,cs.drop off=f.enc d∧f.ok w d
 |
  .nil,fs,off,n,cs,_,hl,_=>by
  refine⟨(), ?_,trivial⟩
  rw[List.drop_eq_nil_of_le (by rw[hl];exact Nat.le_refl _)];rfl
 |
  .cons s f,[],off,n,cs,hf,hl,hx=>by
  exact absurd hf Bool.false_ne_true
 |
  .cons s f,fd::fs,off,n,cs,hf,hl,hx=>by
  unfold Sh.fits at hf
  simp only[Bool.and_eq_true,beq_iff_eq] at hf
  obtain⟨⟨⟨rfl,hsz⟩,hfs⟩,hff⟩:=hf
  obtain⟨y,hy,hyz⟩:=hx 0 fd rfl
  obtain⟨d1,hd1,hok1⟩:=oM s fd.type [] 0 n _ _ hfs hy hyz
  obtain⟨d2,hd2,hok2⟩:=zG f fs (fd.offset+s.size) n cs hff (by rw[hl];show _+(s.size+f.size)=_;omega) (fun i g hg=>hx (i+1) g (by simpa using hg))
  refine⟨(d1,d2), ?_,hok1,hok2⟩
  show _=s.enc d1++f.enc d2
  rw[←hd1,←hd2,hsz,←List.drop_drop,List.take_append_drop]
end
end
end Go.Cit
namespace Go.Cit
open Go Go.RowKit Go.ChangeShapes Go.WideShapes Go.Deep
def Sh.val:(s:Sh false)→s.D→Value
 | .i64,n=> .int .i64 n
 | .u8,x=>vb x
 | .u32,x=>vw x
 | .u64,x=>vq x
 | .bool,x=> .bool x
 | .str,x=> .string x
 | .bytes,d=> .slice d.a d.l.length d.c
 | .slice _,d=> .slice d.a d.l.length d.c
 | .arr n s,d=> .agg (Sh.enc (.arr n s) d).toArray
 | .st f,d=> .agg (f.enc d).toArray
section
variable {H:Type} {enc:TypeId×Value→H} {P:Program} {w:World} {base:Nat} {held:Bool}
theorem qV {n:Nat} {e:TypeId} {r:Reach} {b0:Nat} {t:TypeId} {v:Value} (ht:P.underlying t=some (.array n e)) (h:Value.okWide P w r b0 t v):∃cs,v= .agg cs:=by
 simp only[Value.okWide,ht] at h
 obtain⟨cs,h1,_⟩:=h
 exact⟨cs,h1⟩
theorem DX (s:Sh false) {r:Reach} {b0:Nat} {t:TypeId} {v:Value} {d:DataW H} {p:List MemPlace} (hf:s.fits P t [] 0=true) (hv:Value.okWide P w r b0 t v) (h:DataW.Trod enc P w base (fun _=>true) held t v d p) (hz:Fine P t d):
 ∃e:s.D,v=s.val e∧s.ok w e:=by
 obtain⟨fuel,h⟩:=h
 obtain⟨e,he,hok⟩:=oM s t [] 0 fuel _ _ hf h hz
 refine⟨e, ?_,hok⟩
 cases s with
 | i64=>obtain⟨n,rfl⟩:=okWide_int (jg hf) hv;simpa[Value.cells,Sh.enc,Sh.val] using he
 | u8=>obtain⟨n,rfl⟩:=okWide_int (jg hf) hv;simpa[Value.cells,Sh.enc,Sh.val] using he
 | u32=>obtain⟨n,rfl⟩:=okWide_int (jg hf) hv;simpa[Value.cells,Sh.enc,Sh.val] using he
 | u64=>obtain⟨n,rfl⟩:=okWide_int (jg hf) hv;simpa[Value.cells,Sh.enc,Sh.val] using he
 | bool=>obtain⟨n,rfl⟩:=okWide_bool (zM hf) hv;simpa[Value.cells,Sh.enc,Sh.val] using he
 | str=>obtain⟨n,rfl⟩:=okWide_string (DZ hf) hv;simpa[Value.cells,Sh.enc,Sh.val] using he
 |
  bytes=>
  unfold Sh.fits at hf
  split at hf
  ·rename_i q hq
   obtain⟨a,len,cap,rfl⟩:=okWide_slice hq hv
   simpa[Value.cells,Sh.enc,Sh.val] using he
  ·exact absurd hf AP
 |
  slice s=>
  unfold Sh.fits at hf
  split at hf
  ·rename_i q hq
   obtain⟨a,len,cap,rfl⟩:=okWide_slice hq hv
   simpa[Value.cells,Sh.enc,Sh.val] using he
  ·exact absurd hf AP
 |
  arr n s=>
  unfold Sh.fits at hf
  split at hf
  ·rename_i m q hq
   obtain⟨cs,rfl⟩:=qV hq hv
   have:cs.toList=Sh.enc (.arr n s) e:=he
   show Value.agg cs= .agg _
   rw[←this]
  ·exact absurd hf AP
 |
  st f=>
  unfold Sh.fits at hf
  split at hf
  ·rename_i fs hq
   obtain⟨cs,rfl,_⟩:=okWide_struct hq hv
   have:cs.toList=f.enc e:=he
   show Value.agg cs= .agg _
   rw[←this]
  ·exact absurd hf AP
theorem EL {ts:List TypeId} {ds:List (DataW H)} (h:(DataW.weightsEach P ts ds).all (· ≤reachBytes)=true) {j:Nat} {t:TypeId} {d:DataW H} (ht:ts[j]? =some t) (hd:ds[j]? =some d):Fine P t d:=by
 intro n hn
 have:=List.all_eq_true.1 h n (DataW.weights_mem_each ht hd n hn)
 have h2:=of_decide_eq_true this
 unfold reachBytes at h2
 omega
end
end Go.Cit
namespace Go.Cit
open Go Go.RowKit
abbrev I64:= {n:Int// -9223372036854775808≤n∧n≤9223372036854775807}
def iZ (n:Int):I64:=if h: -9223372036854775808≤n∧n≤9223372036854775807 then⟨n,h⟩ else⟨0,by decide⟩
theorem fD {n:Int} (h: -9223372036854775808≤n∧n≤9223372036854775807):(iZ n).1=n:=by unfold iZ;rw[dif_pos h]
structure uO where
 len:I64
 part:I64
structure Reg where
 base:I64
 size:I64
structure Ch where
 id:I64
 src:I64
 dst:I64
 cap:I64
 size:I64
structure Pt where
 id:I64
 reg:Reg
 keep:Bool
 img:List UInt8
structure fV where
 id:I64
 reg:Reg
 keep:Bool
 a:Option Addr
 img:List UInt8
 c:Nat
def fV.pt (p:fV):Pt:=⟨p.id,p.reg,p.keep,p.img⟩
structure GV where
 wins:List uO
 parts:List Pt
 chans:List Ch
structure aZ where
 wa:Option Addr
 ws:List uO
 wc:Nat
 pa:Option Addr
 ps:List fV
 pc:Nat
 ca:Option Addr
 cs:List Ch
 cc:Nat
def aZ.cfg (V:aZ):GV:=⟨V.ws,V.ps.map fV.pt,V.cs⟩
instance:DecidableEq uO:=fun a b=>if h:a.len=b.len∧a.part=b.part then isTrue (by cases a;cases b;simp_all) else isFalse (by rintro rfl;simp at h)
instance:DecidableEq Reg:=fun a b=>if h:a.base=b.base∧a.size=b.size then isTrue (by cases a;cases b;simp_all) else isFalse (by rintro rfl;simp at h)
instance:DecidableEq Ch:=fun a b=>if h:a.id=b.id∧a.src=b.src∧a.dst=b.dst∧a.cap=b.cap∧a.size=b.size then isTrue (by cases a;cases b;simp_all) else isFalse (by rintro rfl;simp at h)
instance:DecidableEq Pt:=fun a b=>if h:a.id=b.id∧a.reg=b.reg∧a.keep=b.keep∧a.img=b.img then isTrue (by cases a;cases b;simp_all) else isFalse (by rintro rfl;simp at h)
instance:DecidableEq GV:=fun a b=>if h:a.wins=b.wins∧a.parts=b.parts∧a.chans=b.chans then isTrue (by cases a;cases b;simp_all) else isFalse (by rintro rfl;simp at h)
instance:Inhabited uO:=⟨⟨⟨0,by decide⟩,⟨0,by decide⟩⟩⟩
instance:Inhabited Reg:=⟨⟨⟨0,by decide⟩,⟨0,by decide⟩⟩⟩
@[reducible] def xM (x:uO):List Value:=[.int .i64 x.len.1, .int .i64 x.part.1]
@[reducible] def xK (x:Reg):List Value:=[.int .i64 x.base.1, .int .i64 x.size.1]
@[reducible] def xk (x:Ch):List Value:=[.int .i64 x.id.1, .int .i64 x.src.1, .int .i64 x.dst.1, .int .i64 x.cap.1, .int .i64 x.size.1]
@[reducible] def xg (x:fV):List Value:=[.int .i64 x.id.1, .int .i64 x.reg.base.1, .int .i64 x.reg.size.1, .bool x.keep, .slice x.a x.img.length x.c]
@[reducible] def Gn (V:aZ):List Value:=[.slice V.wa V.ws.length V.wc, .slice V.pa V.ps.length V.pc, .slice V.ca V.cs.length V.cc]
theorem lI:∀x,(xM x).length=2:=fun _=>rfl
theorem iW:∀x,(xK x).length=2:=fun _=>rfl
theorem oK:∀x,(xk x).length=5:=fun _=>rfl
theorem jZ:∀x,(xg x).length=5:=fun _=>rfl
theorem Ce:∀x,∀u∈xK x,u.oneCell'=true:=by intro x u hu;simp at hu;rcases hu with rfl |rfl<;>rfl
theorem Ej:∀x,∀u∈xk x,u.oneCell'=true:=by intro x u hu;simp at hu;rcases hu with rfl |rfl |rfl |rfl |rfl<;>rfl
theorem EZ:∀x,∀u∈xg x,u.oneCell'=true:=by intro x u hu;simp at hu;rcases hu with rfl |rfl |rfl |rfl |rfl<;>rfl
structure aZ.At (w:World) (V:aZ):Prop where
 win:Vec xM 2 w V.wa V.ws V.wc
 pts:Vec xg 5 w V.pa V.ps V.pc
 BU:Vec xk 5 w V.ca V.cs V.cc
 img:∀x∈V.ps,Row w x.a x.img x.c
theorem aZ.At.stay {w w':World} {V:aZ} (h:V.At w) (hb:Below w.heap.size w w'):V.At w':=
 ⟨h.win.stay lI hb,h.pts.stay jZ hb,h.BU.stay oK hb,fun x hx=>(h.img x hx).stay hb⟩
def uZ:Sh false:= .st (.cons .i64 (.cons .i64 .nil))
def Gy:Sh false:= .st (.cons .i64 (.cons .i64 .nil))
def Eb:Sh false:= .st (.cons .i64 (.cons .i64 (.cons .i64 (.cons .i64 (.cons .i64 .nil)))))
def CU:Sh false:= .st (.cons .i64 (.cons Gy (.cons .bool (.cons .bytes .nil))))
def nS:Sh false:= .st (.cons (.slice uZ) (.cons (.slice CU) (.cons (.slice Eb) .nil)))
def CW (d:uZ.D):uO:=⟨iZ d.1,iZ d.2.1⟩
def FQ (d:Eb.D):Ch:=⟨iZ d.1,iZ d.2.1,iZ d.2.2.1,iZ d.2.2.2.1,iZ d.2.2.2.2.1⟩
def Bq (d:CU.D):fV:=⟨iZ d.1,⟨iZ d.2.1.1,iZ d.2.1.2.1⟩,d.2.2.1,d.2.2.2.1.a,d.2.2.2.1.l,d.2.2.2.1.c⟩
def zO (d:nS.D):aZ:=⟨d.1.a,d.1.l.map CW,d.1.c,d.2.1.a,d.2.1.l.map Bq,d.2.1.c,d.2.2.1.a,d.2.2.1.l.map FQ,d.2.2.1.c⟩
theorem CO {w:World} {d:uZ.D} (h:uZ.ok w d):uZ.enc d=xM (CW d):=by
 obtain⟨x,y,⟨⟩⟩:=d
 obtain⟨h1,h2,_⟩:=h
 show [Value.int .i64 x, .int .i64 y]=[.int .i64 (iZ x).1, .int .i64 (iZ y).1]
 rw[fD h1,fD h2]
theorem E5 {w:World} {d:Eb.D} (h:Eb.ok w d):Eb.enc d=xk (FQ d):=by
 obtain⟨x1,x2,x3,x4,x5,⟨⟩⟩:=d
 obtain⟨h1,h2,h3,h4,h5,_⟩:=h
 show [Value.int .i64 x1, .int .i64 x2, .int .i64 x3, .int .i64 x4, .int .i64 x5]=[.int .i64 (iZ x1).1, .int .i64 (iZ x2).1, .int .i64 (iZ x3).1, .int .i64 (iZ x4).1, .int .i64 (iZ x5).1]
 rw[fD h1,fD h2,fD h3,fD h4,fD h5]
theorem zC {w:World} {d:CU.D} (h:CU.ok w d):CU.enc d=xg (Bq d)∧Row w (Bq d).a (Bq d).img (Bq d).c:=by
 obtain⟨x1,⟨x2,x3,⟨⟩⟩,x4,⟨a,c,l⟩,⟨⟩⟩:=d
 obtain⟨h1,⟨h2,h3,_⟩,_,h5,_⟩:=h
 refine⟨?_,h5.1⟩
 show [Value.int .i64 x1, .int .i64 x2, .int .i64 x3, .bool x4, .slice a l.length c]=[.int .i64 (iZ x1).1, .int .i64 (iZ x2).1, .int .i64 (iZ x3).1, .bool x4, .slice a l.length c]
 rw[fD h1,fD h2,fD h3]
theorem xu {α:Type} {s:Sh false} {t:s.D→α} {f:α→List Value} {w:World} {d:Sl s.D} (ht:∀x,s.ok w x→s.enc x=f (t x)) (h:(Sh.slice s).ok w d):Vec f s.size w d.a (d.l.map t) d.c:=by
 obtain⟨h1,h2,h3,h4,h5⟩:=h
 refine⟨by rw[List.length_map];exact h1,by unfold maxLen;omega,h3,fun hne=>h4 (by simpa using hne),fun i hi j hj=> ?_⟩
 rw[List.length_map] at hi
 rw[List.getElem_map,←ht _ (h5 i hi).2]
 exact(h5 i hi).1 j hj
theorem CZ {w:World} {d:nS.D} (h:nS.ok w d):(zO d).At w:=by
 obtain⟨h1,h2,h3,_⟩:=h
 refine⟨xu (fun x hx=>CO hx) h1,xu (fun x hx=>(zC hx).1) h2,xu (fun x hx=>E5 hx) h3,fun x hx=> ?_⟩
 obtain⟨y,hy,rfl⟩:=List.mem_map.1 hx
 obtain⟨i,hi,rfl⟩:=List.mem_iff_getElem.1 hy
 exact(zC (h2.2.2.2.2 i hi).2).2
theorem CX (d:nS.D):nS.enc d=Gn (zO d):=by
 obtain⟨⟨a1,c1,l1⟩,⟨a2,c2,l2⟩,⟨a3,c3,l3⟩,⟨⟩⟩:=d
 show [Value.slice a1 l1.length c1, .slice a2 l2.length c2, .slice a3 l3.length c3]=[Value.slice a1 (l1.map CW).length c1, .slice a2 (l2.map Bq).length c2, .slice a3 (l3.map FQ).length c3]
 rw[List.length_map,List.length_map,List.length_map]
theorem Vec.field {α:Type} {f:α→List Value} {n:Nat} {w:World} {a:Option Addr} {l:List α} {c:Nat} (h:Vec f n w a l c) (i:Nat) (hi:i<l.length) (j:Nat) (hj:j<n) {v:Value} (hv:(f l[i])[j]? =some v):
 w.cell? ⟨(ad a (i*n)).block,(ad a (i*n)).off+j,none⟩=some v:=by
 obtain⟨b,off,rfl⟩:=h.spot (by intro h0;simp[h0] at hi)
 have:=h.cell i hi j hj
 rw[hv] at this
 simpa[ad,Nat.add_assoc] using this
theorem Vec.pW {α:Type} {f:α→List Value} {n:Nat} {w:World} {a:Option Addr} {l:List α} {c:Nat} (h:Vec f n w a l c) (i:Nat) (hi:i<l.length) (hj:0<n) {v:Value} (hv:(f l[i])[0]? =some v):
 w.cell? (ad a (i*n))=some v:=by
 have:=h.field i hi 0 hj hv
 obtain⟨b,off,rfl⟩:=h.spot (by intro h0;simp[h0] at hi)
 simpa[ad] using this
end Go.Cit
namespace Go.Proofs.YtlholdllibghbaaGreat
open Go Go.RowKit Go.Cit
theorem II:bC Tryz.prog 22 77 2 16 (.agg #[.int .i64 0, .int .i64 0]):=⟨Tryz.underlying22,by kernel_rfl,fun w=>AB,rfl,by decide,by decide⟩
theorem Gq:bC Tryz.prog 24 48 5 40 (.agg #[.int .i64 0, .int .i64 0, .int .i64 0, .int .i64 0, .int .i64 0]):=⟨Tryz.underlying24,by kernel_rfl,fun w=>AB,rfl,by decide,by decide⟩
theorem Eh:bC Tryz.prog 23 46 5 56 (.agg #[.int .i64 0, .int .i64 0, .int .i64 0, .bool false, .slice none 0 0]):=⟨Tryz.underlying23,by kernel_rfl,fun w=>AB,rfl,by decide,by decide⟩
theorem Gu:bC Tryz.prog 279 44 2 16 (.agg #[.int .i64 0, .int .i64 0]):=⟨Tryz.underlying279,by kernel_rfl,fun w=>AB,rfl,by decide,by decide⟩
theorem Gt:bC Tryz.prog 146 33 1 8 (.int .i64 0):=⟨Tryz.underlying146,by kernel_rfl,fun w=>AB,rfl,by decide,by decide⟩
end Go.Proofs.YtlholdllibghbaaGreat
namespace Go.Cit
open Go Go.RowKit
def upd (δ:Nat→Bool) (i:Nat):Nat→Bool:=fun j=>if i=j then true else δ j
theorem upd_same (δ:Nat→Bool) (i:Nat):upd δ i i=true:=by simp[upd]
theorem aA (δ:Nat→Bool) {i j:Nat} (h:i≠j):upd δ i j=δ j:=by simp[upd,h]
def Closed (ops:Array Oper) (δ:Nat→Bool):Prop:=
 ∀(i:Nat) (o:Oper),ops[i]? =some o→δ i=true→∀e∈o.after,Region.binds .any e=true→δ e.on=true
def eF (ops:Array Oper):Nat→Nat→Nat→Bool
 | 0,_,_=>false
 |
  f+1,i,j=>match ops[i]? with
  | none=>false
  | some o=>o.after.any fun e=>Region.binds .any e && (decide (e.on=j) || eF ops f e.on j)
theorem Closed.needs {ops:Array Oper} {δ:Nat→Bool} (h:Closed ops δ):∀(f i j:Nat),eF ops f i j=true→δ i=true→δ j=true
 | 0,_,_,hn,_=>absurd hn (by simp[eF])
 |
  f+1,i,j,hn,hi=>by
  unfold eF at hn
  split at hn
  ·exact absurd hn AP
  ·rename_i o ho
   rw[Array.any_eq_true] at hn
   obtain⟨k,hk,he⟩:=hn
   rw[Bool.and_eq_true,Bool.or_eq_true,decide_eq_true_eq] at he
   have h1:=h i o ho hi _ (Array.getElem_mem hk) he.1
   rcases he.2 with h2 |h2
   ·rw[←h2];exact h1
   ·exact Closed.needs h f _ _ h2 h1
theorem Closed.yet {ops:Array Oper} {δ:Nat→Bool} (h:Closed ops δ) (f i j:Nat) (hn:eF ops f i j=true) (hj:δ j=false):δ i=false:=by
 cases hi:δ i
 ·rfl
 ·rw[h.needs f i j hn hi] at hj;exact absurd hj AP
theorem iT {ops:Array Oper} {m:Nat} (hs:gU ops m=true):∀(f i j:Nat),eF ops f i j=true→j<i
 | 0,_,_,hn=>absurd hn (by simp[eF])
 |
  f+1,i,j,hn=>by
  unfold eF at hn
  split at hn
  ·exact absurd hn AP
  ·rename_i o ho
   rw[Array.any_eq_true] at hn
   obtain⟨k,hk,he⟩:=hn
   rw[Bool.and_eq_true,Bool.or_eq_true,decide_eq_true_eq] at he
   have h1:=(aS hs ho).1 _ (Array.getElem_mem hk) he.1
   rcases he.2 with h2 |h2
   ·omega
   ·have:=iT hs f _ _ h2;omega
section
variable {P:Program} {ops:Array Oper} {Q:Exit→Act→World→Prop}
theorem Aj {C:(Nat→Bool)→World→Prop} {G:Nat→World→World→Prop} {Γ:Nat→Value→World→Prop} {a0:Act}
 (hs:gU ops a0.tmps.size=true)
 (hΓ:∀δ i j v w w',i≠j→Closed ops δ→δ j=true→δ i=false→C δ w→G i w w'→Γ j v w→Γ j v w')
 (hop:∀δ i o a w,ops[i]? =some o→δ i=false→Closed ops δ→Closed ops (upd δ i)→C δ w→dA ops a0 a→(∀e∈o.after,Region.binds .any e=true→∀p d,ops[e.on]? =some p→p.dst=some d→Γ e.on (a.tmps.getD d undef) w)→
  wpOp P ops Q i (fun a' w'=>∃v,a'=a.put o.dst v∧G i w w'∧C (upd δ i) w'∧Γ i v w') a w)
 (hend:∀δ a w,(∀i,i<ops.size→δ i=true)→C δ w→dA ops a0 a→(∀i o d,ops[i]? =some o→o.dst=some d→Γ i (a.tmps.getD d undef) w)→Q .normal a w):
 ∀(fuel:Nat) (listed:Array Bool) (δ:Nat→Bool) (a:Act) (w:World),pX listed ops.size≤fuel→listed.size=ops.size→(∀i,δ i=listed.getD i false)→Closed ops δ→C δ w→dA ops a0 a→
  (∀i o d,δ i=true→ops[i]? =some o→o.dst=some d→Γ i (a.tmps.getD d undef) w)→wpAny P .any ops Q fuel listed a w:=by
 have hready:∀(listed:Array Bool),listed.size=ops.size→Region.ready .any ops listed=[]→∀i,i<ops.size→listed.getD i false=true:=by
  intro listed hsz hr i
  induction i using Nat.strongRecOn with
  |
   ind i ih=>
   intro hi
   cases hl:listed.getD i true with
   |
    true=>
    have hi':i<listed.size:=by omega
    simpa[Array.getD,hi'] using hl
   |
    false=>
    exfalso
    have hm:i∈Region.ready .any ops listed:=by
     rw[mem_ready]
     refine⟨hl,ops[i],by simp[hi],fun e he hb=> ?_⟩
     have:=(aS hs (i:=i) (o:=ops[i]) (by simp[hi])).1 e he hb
     exact ih e.on this AL
    rw[hr] at hm
    simp at hm
 intro fuel
 induction fuel with
 |
  zero=>
  intro listed δ a w hf hsz hδ hcl hc hsame hg
  have hall:=nU (Nat.le_zero.1 hf)
  have hr:Region.ready .any ops listed=[]:=by
   apply List.eq_nil_iff_forall_not_mem.2
   intro i hi
   rw[mem_ready] at hi
   obtain⟨h0,o,ho,_⟩:=hi
   rw[hall i (Array.getElem?_eq_some_iff.1 ho).1] at h0
   simp at h0
  exact⟨hr,hend δ a w (fun i hi=>by rw[hδ];exact hready listed hsz hr i hi) hc hsame fun i o d ho hd=>hg i o d (by rw[hδ];exact hready listed hsz hr i (Array.getElem?_eq_some_iff.1 ho).1) ho hd⟩
 |
  succ fuel ih=>
  intro listed δ a w hf hsz hδ hcl hc hsame hg
  refine⟨fun hr=>hend δ a w (fun i hi=>by rw[hδ];exact hready listed hsz hr i hi) hc hsame fun i o d ho hd=>hg i o d (by rw[hδ];exact hready listed hsz hr i (Array.getElem?_eq_some_iff.1 ho).1) ho hd,fun i hi=> ?_⟩
  obtain⟨h0,o,ho,hdep⟩:=mem_ready.1 hi
  have hlt:i<ops.size:=(Array.getElem?_eq_some_iff.1 ho).1
  have hδi:δ i=false:=by
   rw[hδ]
   have hi':i<listed.size:=by omega
   simpa[Array.getD,hi'] using h0
  have hcl':Closed ops (upd δ i):=by
   intro j p hp hj e he hb
   by_cases hij:i=j
   ·subst hij
    obtain rfl:o=p:=by rw[ho] at hp;exact Option.some.inj hp
    unfold upd
    split
    ·rfl
    ·rw[hδ];exact hdep e he hb
   ·rw[aA _ hij] at hj
    have:=hcl j p hp hj e he hb
    unfold upd
    split
    ·rfl
    ·exact this
  have hgive:=hop δ i o a w ho hδi hcl hcl' hc hsame (fun e he hb p d hp hd=>hg e.on p d (by rw[hδ];exact hdep e he hb) hp hd)
  refine wpOp_mono (fun a' w' hk=> ?_) hgive
  obtain⟨v,rfl,hG,hc',hv⟩:=hk
  refine ih _ (upd δ i) _ _ ?_ (by simpa using hsz) ?_ hcl' hc' ?_ ?_
  ·have:=pK (n:=ops.size) hlt AL h0
   omega
  ·intro j
   by_cases hij:i=j
   ·subst hij
    rw[upd_same]
    have hi':i<listed.size:=by omega
    simp[hi']
   ·rw[aA _ hij,getD_set_ne false hij];exact hδ j
  ·refine⟨by rw[put_defers];exact hsame.1,by rw[iy];exact hsame.2.1,fun d hd=> ?_⟩
   rw[aN _ _ _ _ (hd i o ho)]
   exact hsame.2.2 d hd
  ·intro j p d hj hp hd
   by_cases hij:i=j
   ·subst hij
    obtain rfl:o=p:=by rw[ho] at hp;exact Option.some.inj hp
    rw[hd,bf _ _ _ (by rw[hsame.2.1];exact(aS hs ho).2.1 d hd)]
    exact hv
   ·rw[aA _ hij] at hj
    have hne:o.dst≠some d:=by
     rcases Nat.lt_or_gt_of_ne hij with h |h
     ·intro e;exact(aS hs hp).2.2 i o d ho h hd e
     ·intro e;exact(aS hs ho).2.2 j p d hp h e hd
    rw[aN _ _ _ _ hne]
    exact hΓ δ i j _ w w' hij hcl hj hδi hc hG (hg j p d hj hp hd)
def Ht (ops:Array Oper) (d j:Nat):Bool:=(List.range ops.size).all fun i=>match ops[i]? with |some o=>decide (o.dst≠some d) || decide (i=j) |none=>true
theorem zY {ops:Array Oper} {d j:Nat} (h:Ht ops d j=true) {i:Nat} {o:Oper} (ho:ops[i]? =some o) (hd:o.dst=some d):i=j:=by
 have:=List.all_eq_true.1 h i (List.mem_range.2 (Array.getElem?_eq_some_iff.1 ho).1)
 rw[ho] at this
 simpa[hd] using this
theorem rD (a:Act):∀(ds:List Nat) (x:Act),(ds.foldl (fun x d=>x.put (some d) (a.eval (.tmp d))) x).tmps.size=x.tmps.size∧(ds.foldl (fun x d=>x.put (some d) (a.eval (.tmp d))) x).defers=x.defers∧
 ∀d,d<x.tmps.size→(ds.foldl (fun x d=>x.put (some d) (a.eval (.tmp d))) x).tmps.getD d undef=if ds.contains d then a.tmps.getD d undef else x.tmps.getD d undef
 | [],x=>⟨rfl,rfl,fun d _=>by simp⟩
 |
  e::ds,x=>by
  obtain⟨h1,h2,h3⟩:=rD a ds (x.put (some e) (a.eval (.tmp e)))
  refine⟨h1.trans (iy _ _ _),h2.trans (put_defers _ _ _),fun d hd=> ?_⟩
  rw[List.foldl_cons,h3 d (by rw[iy];exact hd)]
  by_cases he:e=d
  ·subst he
   rw[bf _ _ _ hd]
   simp[Act.eval]
  ·rw[aN _ _ _ _ (fun h=>he (Option.some.inj h))]
   have hne:d≠e:=fun h=>he h.symm
   simp[hne]
theorem fB {ops:Array Oper} {a0 a:Act} (h:dA ops a0 a) (ds:List Nat) (hds:((List.range a0.tmps.size).all fun d=>ds.contains d || gB ops d)=true):a=ds.foldl (fun x d=>x.put (some d) (a.eval (.tmp d))) a0:=by
 obtain⟨h1,h2,h3⟩:=rD a ds a0
 obtain⟨g1,g2,g3⟩:=h
 have ht:a.tmps=(ds.foldl (fun x d=>x.put (some d) (a.eval (.tmp d))) a0).tmps:=by
  apply Array.ext
  ·rw[h1];exact g2
  ·intro d hd1 hd2
   have hd0:d<a0.tmps.size:=by omega
   have e:=h3 d hd0
   have e1:a.tmps.getD d undef=a.tmps[d]:=by simp[Array.getD,hd1]
   have e2:(ds.foldl (fun x d=>x.put (some d) (a.eval (.tmp d))) a0).tmps.getD d undef=(ds.foldl (fun x d=>x.put (some d) (a.eval (.tmp d))) a0).tmps[d]:=by simp[Array.getD,hd2]
   rw[←e1,←e2,e]
   by_cases hc:ds.contains d=true
   ·rw[if_pos hc]
   ·rw[if_neg hc]
    have:=List.all_eq_true.1 hds d (List.mem_range.2 hd0)
    rw[Bool.or_eq_true] at this
    rcases this with h |h
    ·exact absurd h hc
    ·refine g3 d fun i o ho hdo=> ?_
     unfold gB at h
     rw[Array.all_eq_true] at h
     obtain⟨hi,hio⟩:=Array.getElem?_eq_some_iff.1 ho
     have:=h i hi
     rw[hio] at this
     simp[hdo] at this
 have hdf:a.defers=(ds.foldl (fun x d=>x.put (some d) (a.eval (.tmp d))) a0).defers:=by rw[h2];exact g1
 generalize (ds.foldl (fun x d=>x.put (some d) (a.eval (.tmp d))) a0)=z at ht hdf
 cases a;cases z
 simp only at ht hdf
 rw[ht,hdf]
def bK (P:Program) (post:Value→World→Prop):Result Next→Prop
 | .ok (.value v) w'=>post v w'
 | .ok .skip w'=>post undef w'
 | .ok (.enter f args) w'=>Calls P f args w' fun e w''=>∃v,e= .returned v∧post v w''
 | _=>False
structure kY (ops:Array Oper) (C:(Nat→Bool)→World→Prop) (T:Nat→Value→World→Prop) (a0:Act) (i:Nat) (o:Oper) (δ:Nat→Bool) (a:Act) (w:World):Prop where
 yet:δ i=false
 closed:Closed ops δ
 next:Closed ops (upd δ i)
 inv:C δ w
 slot:∀d,fJ ops o d=true→T d (a.eval (.tmp d)) w
 old:∀d,gB ops d=true→a.eval (.tmp d)=a0.eval (.tmp d)
 lit:∀v,a.eval (.const v)=v
 fn:∀f,a.eval (.func f)= .func (.func f) #[] #[]
theorem kY.s {ops:Array Oper} {C:(Nat→Bool)→World→Prop} {T:Nat→Value→World→Prop} {a0:Act} {i:Nat} {o:Oper} {δ:Nat→Bool} {a:Act} {w:World} (h:kY ops C T a0 i o δ a w) (d:Nat) (e:fJ ops o d=true:=by kernel_rfl):T d (a.eval (.tmp d)) w:=h.slot d e
theorem kY.o {ops:Array Oper} {C:(Nat→Bool)→World→Prop} {T:Nat→Value→World→Prop} {a0:Act} {i:Nat} {o:Oper} {δ:Nat→Bool} {a:Act} {w:World} (h:kY ops C T a0 i o δ a w) (d:Nat) (e:gB ops d=true:=by kernel_rfl):a.eval (.tmp d)=a0.eval (.tmp d):=h.old d e
def tyP (T:Nat→Value→World→Prop) (o:Oper):Value→World→Prop:=match o.dst with |some d=>T d |none=>fun _ _=>True
theorem iR {T:Nat→Value→World→Prop} {o:Oper} {d:Nat} (h:o.dst=some d) (v:Value) (w:World):tyP T o v w=T d v w:=by unfold tyP;rw[h]
theorem gq {T:Nat→Value→World→Prop} {o:Oper} (h:o.dst=none) (v:Value) (w:World):tyP T o v w:=by unfold tyP;rw[h];trivial
theorem FY {a0:Act} {w:World} (C:(Nat→Bool)→World→Prop) (G:Nat→World→World→Prop) (T:Nat→Value→World→Prop)
 (hs:gU ops a0.tmps.size=true)
 (h0:∀w',Below w.heap.size w w'→w'.heap=w.heap→C (fun _=>false) w')
 (hΓ:∀δ i j o v w w',ops[j]? =some o→i≠j→Closed ops δ→δ j=true→δ i=false→C δ w→G i w w'→tyP T o v w→tyP T o v w')
 (hop:bJ (fun n o=>∀δ a wx,kY ops C T a0 n o δ a wx→Wanted ops o a∧bK P (fun v w'=>G n wx w'∧C (upd δ n) w'∧tyP T o v w') ((execOp a.eval o).run P wx)) ops.toList 0)
 (hend:∀δ a wx,(∀i,i<ops.size→δ i=true)→C δ wx→dA ops a0 a→(∀d,gB ops d=false→T d (a.eval (.tmp d)) wx)→Q .normal a wx):
 wpAny P .any ops Q ops.size (Array.replicate ops.size false) a0 {w with drawn:=w.drawn+1}:=by
 refine Aj (C:=C) (G:=G) (Γ:=fun i v wx=>∀o,ops[i]? =some o→tyP T o v wx) hs ?_ ?_ ?_ _ _ (fun _=>false) _ _ ?_ AO ?_ ?_ (h0 _ ⟨rfl,rfl,rfl,Nat.le_refl _,fun _ _=>rfl⟩ rfl) ⟨rfl,rfl,fun _ _=>rfl⟩ ?_
 ·intro δ i j v w w' hij hcl hj hi hc hG h o ho
  exact hΓ δ i j o v w w' ho hij hcl hj hi hc hG (h o ho)
 ·intro δ i o a wx ho hi hcl hcl' hc hsame hdep
  have hk:kY ops C T a0 i o δ a wx:=by
   refine⟨hi,hcl,hcl',hc,fun d hd=> ?_,fun d hd=> ?_,fun _=>rfl,fun _=>rfl⟩
   ·unfold fJ at hd
    rw[Array.any_eq_true] at hd
    obtain⟨k,hk,he⟩:=hd
    rw[Bool.and_eq_true] at he
    obtain⟨hb,hp⟩:=he
    split at hp
    ·rename_i p hpp
     simp only[decide_eq_true_eq] at hp
     have:=hdep _ (Array.getElem_mem hk) hb p d hpp hp p hpp
     unfold tyP at this
     rw[hp] at this
     exact this
    ·exact absurd hp AP
   ·refine hsame.2.2 d fun j p hp hpd=> ?_
    unfold gB at hd
    rw[Array.all_eq_true] at hd
    obtain⟨hj,hjp⟩:=Array.getElem?_eq_some_iff.1 hp
    have:=hd j hj
    rw[hjp] at this
    simp[hpd] at this
  have h:=bJ.get _ _ hop i o (by simpa using ho) δ a wx (by rw[Nat.zero_add];exact hk)
  unfold wpOp
  rw[ho]
  dsimp only
  rw[if_pos (show Region.wanted o (yielded ops a.tmps)=true from h.1)]
  refine Or.inl ?_
  unfold Oper.wp
  have h2:=h.2
  rw[Nat.zero_add] at h2
  generalize (execOp a.eval o).run P wx=r at h2
  have hgo:∀v w',(G i wx w'∧C (upd δ i) w'∧tyP T o v w')→∃v',a.put o.dst v=a.put o.dst v'∧G i wx w'∧C (upd δ i) w'∧∀o',some o=some o'→tyP T o' v' w':=by
   rintro v w' ⟨h1,h2,h3⟩
   refine⟨v,rfl,h1,h2,fun o' ho'=> ?_⟩
   obtain rfl:o=o':=Option.some.inj ho'
   exact h3
  match r,h2 with
  | .ok (.value v) w',h2=>exact hgo v w' h2
  | .ok .skip w',h2=>exact hgo undef w' h2
  |
   .ok (.enter f args) w',h2=>
   refine Calls.mono h2 ?_
   rintro e w'' ⟨v,rfl,hv⟩
   exact hgo v w'' hv
 ·intro δ a wx hall hc hsame hΓ
  refine hend δ a wx hall hc hsame fun d hd=> ?_
  unfold gB at hd
  rw[Array.all_eq_false] at hd
  obtain⟨j,hj,hp⟩:=hd
  have hpd:ops[j].dst=some d:=by simpa using hp
  have:=hΓ j ops[j] d (by simp[hj]) hpd ops[j] (by simp[hj])
  unfold tyP at this
  rw[hpd] at this
  exact this
 ·exact Nat.le_trans (List.length_filter_le _ _) AO
 ·intro i;simp[Array.getD]
 ·intro i o ho hi;exact absurd hi Bool.false_ne_true
 ·intro i o d hl;exact absurd hl Bool.false_ne_true
theorem mP {id:Nat} {a0:Act} {w:World} (C:(Nat→Bool)→World→Prop) (G:Nat→World→World→Prop) (T:Nat→Value→World→Prop)
 (hm:P.follows .mixedOrders=true) (hs:gU ops a0.tmps.size=true)
 (h0:∀w',Below w.heap.size w w'→w'.heap=w.heap→C (fun _=>false) w')
 (hΓ:∀δ i j o v w w',ops[j]? =some o→i≠j→Closed ops δ→δ j=true→δ i=false→C δ w→G i w w'→tyP T o v w→tyP T o v w')
 (hop:bJ (fun n o=>∀δ a wx,kY ops C T a0 n o δ a wx→Wanted ops o a∧bK P (fun v w'=>G n wx w'∧C (upd δ n) w'∧tyP T o v w') ((execOp a.eval o).run P wx)) ops.toList 0)
 (hend:∀δ a wx,(∀i,i<ops.size→δ i=true)→C δ wx→dA ops a0 a→(∀d,gB ops d=false→T d (a.eval (.tmp d)) wx)→Q .normal a wx):
 (Code.region id ops true).wp P Q a0 w:=wp_region_any hm (FY C G T hs h0 hΓ hop hend)
section
variable {P:Program} {w:World} {o:Oper} {ρ:Operand→Value} {post:Value→World→Prop}
theorem jf {v:Value} {w':World} (hr:(execOp ρ o).run P w= .ok (.value v) w') (hp:post v w'):bK P post ((execOp ρ o).run P w):=by
 rw[hr];exact hp
theorem uo {w':World} (hr:(execOp ρ o).run P w= .ok .skip w') (hp:post undef w'):bK P post ((execOp ρ o).run P w):=by
 rw[hr];exact hp
theorem kF (x:Operand) (h:o.op= .move x) (hp:post (ρ x) w):bK P post ((execOp ρ o).run P w):=by
 unfold execOp;rw[h];exact hp
theorem dw {f:FuncId} {xs:Array Operand} {ts:Array TypeId} (h:o.op= .call {callee:= .value (.func f),args:=xs,argTypes:=ts}) (hf:ρ (.func f)= .func (.func f) #[] #[])
 (args:Array Value) (hcf:∀w,(callFunc f args).run P w= .ok (.enter f args) w) (ha:xs.map ρ=args) (hc:Calls P f args w fun e w''=>∃v,e= .returned v∧post v w''):bK P post ((execOp ρ o).run P w):=by
 unfold execOp;rw[h];dsimp only;unfold resolve;dsimp only;rw[hf,ha]
 have e:args++ #[]=args:=by simp
 have e2:(invoke (.fn (.func f) #[]) args:Sem Next).run P w= .ok (.enter f args) w:=by
  unfold invoke;dsimp only;rw[e];exact hcf w
 simp only[Deferred.ofValue,Sem.run_bind,Sem.run_pure,Result.andThen,Array.empty_append,e2]
 exact hc
theorem yR (x:Operand) (h:o.op= .nilCheck x) {a:Addr} (hx:ρ x= .pointer (some a)) (hp:post (.pointer (some a)) w):bK P post ((execOp ρ o).run P w):=by
 refine jf (v:= .pointer (some a)) (w':=w) ?_ hp
 unfold execOp;rw[h];dsimp only;rw[hx];simp[go_sem]
theorem dh {T:TypeId} {k:Nat} (x:Operand) (h:o.op= .fieldAddr T x k) {p v:Value} (hx:ρ x=p) (hr:∀w,(Instr.fieldAt T p k).run P w= .ok v w) (hp:post v w):bK P post ((execOp ρ o).run P w):=by
 refine jf (v:=v) (w':=w) ?_ hp
 unfold execOp;rw[h];dsimp only;rw[hx,Sem.run_bind,hr];rfl
theorem bP {T:TypeId} (x:Operand) (h:o.op= .load T x) {p v:Value} (hx:ρ x=p) (hr:(Instr.loadAt T p).run P w= .ok v w) (hp:post v w):bK P post ((execOp ρ o).run P w):=by
 refine jf (v:=v) (w':=w) ?_ hp
 unfold execOp;rw[h];dsimp only;rw[hx,Sem.run_bind,hr];rfl
theorem Ci {T:TypeId} (x y:Operand) (h:o.op= .indexAddr T x y) {p q v:Value} (hx:ρ x=p) (hy:ρ y=q) (hr:(Instr.indexAt T p q).run P w= .ok v w) (hp:post v w):bK P post ((execOp ρ o).run P w):=by
 refine jf (v:=v) (w':=w) ?_ hp
 unfold execOp;rw[h];dsimp only;rw[hx,hy,Sem.run_bind,hr];rfl
theorem vk {T:TypeId} (x y:Operand) (h:o.op= .store T x y) {p v:Value} {w':World} (hx:ρ x=p) (hy:ρ y=v) (hr:(Instr.storeAt T p v).run P w= .ok () w') (hp:post undef w'):bK P post ((execOp ρ o).run P w):=by
 refine uo (w':=w') ?_ hp
 unfold execOp;rw[h];dsimp only;rw[hx,hy,Sem.run_bind,hr];rfl
theorem zV {T E:TypeId} (hBT:iV P T E) (s x:Operand) (ho:o.op= .call {callee:= .builtin .append,args:= #[s,x],argTypes:= #[T,T]}) {base:Nat}
 {a b:Option Addr} {l m:List UInt8} {cap c:Nat} (hown:Cit.Own E base w a l cap) (hm:Row w b m c) (hne:m≠ []) (hlen:l.length+m.length≤1000000000) (hbase:base≤w.heap.size)
 (hs:ρ s= .slice a l.length cap) (hx:ρ x= .slice b m.length c)
 (h:∀a' cap' w',Cit.Own E base w' a' (l++m) cap'→w.grownBy w' (blk a)→dP w.heap.size a a'→post (.slice a' (l++m).length cap') w'):bK P post ((execOp ρ o).run P w):=by
 obtain⟨i,hi,hz0,hz1,hz2⟩:=info_parts hBT.info
 obtain⟨g,off,rfl⟩:=hm.spot hne
 obtain⟨g',cap',w',hr,hown',hgr,hat,hlt⟩:=run_append_lies (P:=P) w T o.type base E i (.int .u8 0) 1 1 hBT.slice hi hz0 hz1 hz2 rfl AP _ l.length (l.map vb) hown.row ⟨g,off,none⟩ m.length c (m.map vb) AO (DY hm) FT (List.length_pos_iff.2 hne) (by unfold maxLen;omega) AL hbase w.heap.size rfl
 rw[dU] at hgr hat
 rw[←List.length_append,←List.map_append] at hown'
 rw[←List.length_append] at hr
 refine jf (v:= .slice (some ⟨g',0,none⟩) (l++m).length cap') (w':=w') ?_ (h (some ⟨g',0,none⟩) cap' w' ⟨hown'⟩ hgr (fun k hk=> ?_))
 ·unfold execOp
  simp only[ho,resolve,invoke,builtin,Sem.run_bind,Sem.run_pure,Result.andThen_ok,List.map_toArray,List.map_cons,List.map_nil,hs,hx,hr]
 ·simp only[blk,Option.map_some,Option.some.injEq] at hk
  subst hk
  rcases hat with h1 |h1
  ·exact .inl h1
  ·exact .inr AL
end
end
end Go.Cit
