/- Texts of the proof, one behind the other: Sh, Open, Cfg. No condition but those that each names. -/
import Derived.Test.YtlholdllibghbaaGreatG01
import Derived.Deep.Slices
import Derived.Deep.Fields
import Derived.ChangeSame
import Derived.SizedLaws
import Derived.Test.YtlholdllibghbaaGreatProg
import Derived.Test.YtlholdllibghbaaGreatKit
namespace Go.Cit
open Go Go.RowKit Go.ChangeShapes Go.WideShapes Go.Deep
structure Sl (α:Type) where
 a:Option Addr
 c:Nat
 l:List α
inductive Sh:Bool→Type where
 | i64:Sh false
 | u8:Sh false
 | u32:Sh false
 | u64:Sh false
 | bool:Sh false
 | str:Sh false
 | bytes:Sh false
 | arr (n:Nat) (s:Sh false):Sh false
 | slice (s:Sh false):Sh false
 | st (f:Sh true):Sh false
 | nil:Sh true
 | cons (s:Sh false) (f:Sh true):Sh true
@[reducible] def Sh.D: {b:Bool}→Sh b→Type
 | _, .i64=>Int
 | _, .u8=>UInt8
 | _, .u32=>UInt32
 | _, .u64=>UInt64
 | _, .bool=>Bool
 | _, .str=>ByteArray
 | _, .bytes=>Sl UInt8
 | _, .arr _ s=>List s.D
 | _, .slice s=>Sl s.D
 | _, .st f=>f.D
 | _, .nil=>Unit
 | _, .cons s f=>s.D×f.D
def Sh.size: {b:Bool}→Sh b→Nat
 | _, .i64=>1
 | _, .u8=>1
 | _, .u32=>1
 | _, .u64=>1
 | _, .bool=>1
 | _, .str=>1
 | _, .bytes=>1
 | _, .arr n s=>n*s.size
 | _, .slice _=>1
 | _, .st f=>f.size
 | _, .nil=>0
 | _, .cons s f=>s.size+f.size
def Sh.enc: {b:Bool}→(s:Sh b)→s.D→List Value
 | _, .i64,n=> [.int .i64 n]
 | _, .u8,x=> [vb x]
 | _, .u32,x=> [vw x]
 | _, .u64,x=> [vq x]
 | _, .bool,x=> [.bool x]
 | _, .str,x=> [.string x]
 | _, .bytes,d=> [.slice d.a d.l.length d.c]
 | _, .arr _ s,l=>l.flatMap s.enc
 | _, .slice _,d=> [.slice d.a d.l.length d.c]
 | _, .st f,d=>f.enc d
 | _, .nil,_=> []
 | _, .cons s f,d=>s.enc d.1++f.enc d.2
def Sh.ok: {b:Bool}→(s:Sh b)→World→s.D→Prop
 | _, .i64,_,n=> -9223372036854775808≤n∧n≤9223372036854775807
 | _, .u8,_,_=>True
 | _, .u32,_,_=>True
 | _, .u64,_,_=>True
 | _, .bool,_,_=>True
 | _, .str,_,s=>s.size≤maxLen
 | _, .bytes,w,d=>Row w d.a d.l d.c∧d.c≤140737488351232
 | _, .arr n s,w,l=>l.length=n∧∀x∈l,s.ok w x
 | _, .slice s,w,d=>d.l.length≤d.c∧d.c≤140737488351232∧(d.a=none→d.c=0)∧(d.l≠ []→∃b off,d.a=some ⟨b,off,none⟩)∧
  ∀i (h:i<d.l.length),(∀j,j<s.size→w.cell? (ad d.a (i*s.size+j))=(s.enc d.l[i])[j]?)∧s.ok w d.l[i]
 | _, .st f,w,d=>f.ok w d
 | _, .nil,_,_=>True
 | _, .cons s f,w,d=>s.ok w d.1∧f.ok w d.2
def isInt (d:Option TypeDesc) (k:IntKind):Bool:=match d with |some (.int j)=>decide (j=k) |_=>false
def isBool (d:Option TypeDesc):Bool:=match d with |some .bool=>true |_=>false
def isStr (d:Option TypeDesc):Bool:=match d with |some .string=>true |_=>false
theorem pq {d:Option TypeDesc} {k:IntKind} (h:isInt d k=true):d=some (.int k):=by
 unfold isInt at h;split at h
 ·rw[of_decide_eq_true h]
 ·exact absurd h AP
theorem KA {d:Option TypeDesc} (h:isBool d=true):d=some .bool:=by
 unfold isBool at h;split at h
 ·rfl
 ·exact absurd h AP
theorem PN {d:Option TypeDesc} (h:isStr d=true):d=some .string:=by
 unfold isStr at h;split at h
 ·rfl
 ·exact absurd h AP
def Sh.fits (P:Program): {b:Bool}→Sh b→TypeId→List Field→Nat→Bool
 | _, .i64,t,_,_=>isInt (P.underlying t) .i64
 | _, .u8,t,_,_=>isInt (P.underlying t) .u8
 | _, .u32,t,_,_=>isInt (P.underlying t) .u32
 | _, .u64,t,_,_=>isInt (P.underlying t) .u64
 | _, .bool,t,_,_=>isBool (P.underlying t)
 | _, .str,t,_,_=>isStr (P.underlying t)
 |
  _, .bytes,t,_,_=>match P.underlying t with
  | some (.slice e)=>isInt (P.underlying e) .u8 && P.cellsOf e==1 && P.bytesOf e==1
  | _=>false
 |
  _, .arr n s,t,_,_=>match P.underlying t with
  | some (.array m e)=>m==n && P.cellsOf e==s.size && s.fits P e [] 0 && P.cellsOf t==n*s.size
  | _=>false
 |
  _, .slice s,t,_,_=>match P.underlying t with
  | some (.slice e)=>P.cellsOf e==s.size && decide (0<s.size∧0<P.bytesOf e) && s.fits P e [] 0
  | _=>false
 |
  _, .st f,t,_,_=>match P.underlying t with
  | some (.struct fs)=>P.cellsOf t==f.size && f.fits P 0 fs.toList 0
  | _=>false
 | _, .nil,_,fs,_=>fs.isEmpty
 |
  _, .cons s f,_,fs,off=>match fs with
  | fd::fs=>fd.offset==off && P.cellsOf fd.type==s.size && s.fits P fd.type [] 0 && f.fits P 0 fs (off+s.size)
  | []=>false
theorem Sh.ng: {b:Bool}→(s:Sh b)→(w:World)→(d:s.D)→s.ok w d→(s.enc d).length=s.size
 | _, .i64,_,_,_=>rfl
 | _, .u8,_,_,_=>rfl
 | _, .u32,_,_,_=>rfl
 | _, .u64,_,_,_=>rfl
 | _, .bool,_,_,_=>rfl
 | _, .str,_,_,_=>rfl
 | _, .bytes,_,_,_=>rfl
 |
  _, .arr n s,w,l,h=>by
  have:∀l:List s.D,(∀x∈l,s.ok w x)→(l.flatMap s.enc).length=l.length*s.size:=by
   intro l hl
   induction l with
   | nil=>simp
   | cons x l ih=>rw[List.flatMap_cons,List.length_append,s.ng w x (hl x AO),ih (fun y hy=>hl y (by simp[hy])),List.length_cons,Nat.succ_mul,Nat.add_comm]
  show(List.flatMap s.enc l).length=n*s.size
  rw[this l h.2,h.1]
 | _, .slice _,_,_,_=>rfl
 | _, .st f,w,d,h=>f.ng w d h
 | _, .nil,_,_,_=>rfl
 |
  _, .cons s f,w,d,h=>by
  show(s.enc d.1++f.enc d.2).length=s.size+f.size
  rw[List.length_append,s.ng w d.1 h.1,f.ng w d.2 h.2]
theorem choose_lt' {α:Type}:∀(n:Nat) {p:Nat→α→Prop},(∀i,i<n→∃x,p i x)→∃l:List α,l.length=n∧∀i (h:i<l.length),p i l[i]
 | 0,_,_=>⟨[],rfl,fun i h=>by simp at h⟩
 |
  n+1,p,h=>by
  obtain⟨l,hl,hp⟩:=choose_lt' n (p:=p) (fun i hi=>h i AL)
  obtain⟨x,hx⟩:=h n AL
  refine⟨l++ [x],by simp[hl],fun i hi=> ?_⟩
  by_cases hin:i<l.length
  ·rw[List.getElem_append_left hin];exact hp i hin
  ·have:i=n:=by simp at hi;omega
   subst this
   rw[List.getElem_append_right AL]
   simpa[hl] using hx
theorem sQ {α:Type} (k:Nat) (f:α→List Value):∀(l:List α) (cs:List Value),cs.length=l.length*k→(∀i (h:i<l.length),(cs.drop (i*k)).take k=f l[i])→cs=l.flatMap f
 | [],cs,h,_=>by simp at h;simp[h]
 |
  x::l,cs,h,hp=>by
  have h0:=hp 0 AO
  simp only[Nat.zero_mul,List.drop_zero,List.getElem_cons_zero] at h0
  have ih:=sQ k f l (cs.drop k) (by simp at h ⊢;rw[h,Nat.succ_mul];omega) (fun i hi=>by
   have:=hp (i+1) (by simp;omega)
   rw[Nat.succ_mul,Nat.add_comm (i*k) k] at this
   simpa[List.drop_drop] using this)
  rw[List.flatMap_cons,←h0,←ih,List.take_append_drop]
section
variable {H:Type} {enc:TypeId×Value→H} {P:Program} {w:World} {base:Nat} {held:Bool}
theorem Qv {w:World} {a:Addr} {k:Nat} {v:Value} (h:w.cell? (a.add k)=some v):a.add k=ad (some a) k∧(0<k→True):=by
 refine⟨?_,fun _=>trivial⟩
 have hs:=World.cell?_spot h
 obtain⟨b,off,sp⟩:=a
 unfold Addr.add ad at *
 by_cases h0:k=0
 ·subst h0;simp at hs ⊢;simp[hs]
 ·simp[h0]
theorem lT:∀ {e:TypeId} {ds:List (DataW H)} {j:Nat} {d:DataW H},ds[j]? =some d→∀n∈d.weights P e,n∈DataW.weightsAll P e ds
 |
  e,d0::ds,0,d,hd,n,hn=>by
  simp only[List.getElem?_cons_zero,Option.some.injEq] at hd
  subst hd
  simp only[DataW.weightsAll,List.mem_append]
  exact Or.inl hn
 |
  e,d0::ds,j+1,d,hd,n,hn=>by
  simp only[List.getElem?_cons_succ] at hd
  simp only[DataW.weightsAll,List.mem_append]
  exact Or.inr (lT hd n hn)
 | _,[],_,_,hd,_,_=>by simp at hd
def Fine (P:Program) (t:TypeId) (d:DataW H):Prop:=∀n∈d.weights P t,n≤140737488351232
mutual
theorem yN:(s:Sh false)→(t:TypeId)→(fs:List Field)→(off:Nat)→(fuel:Nat)→(cs:List Value)→(x:DataW H×List MemPlace)→s.fits P t fs off=true→DataW.trod enc P w base (fun _=>true) held fuel t cs=some x→Fine P t x.1→∃d:s.D,cs=s.enc d∧s.ok w d
 |
  .i64,t,_,_,fuel,cs,x,hf,h,hz0=>by
  obtain⟨n,rfl,_,hw⟩:=DataW.trod_int (pq hf) h
  exact⟨n,rfl,KO hw⟩
 |
  .u8,t,_,_,fuel,cs,x,hf,h,hz0=>by
  obtain⟨n,rfl,_,hw⟩:=DataW.trod_int (pq hf) h
  obtain⟨y,rfl⟩:=GZ hw
  exact⟨y,rfl,trivial⟩
 |
  .u32,t,_,_,fuel,cs,x,hf,h,hz0=>by
  obtain⟨n,rfl,_,hw⟩:=DataW.trod_int (pq hf) h
  obtain⟨y,rfl⟩:=KW hw
  exact⟨y,rfl,trivial⟩
 |
  .u64,t,_,_,fuel,cs,x,hf,h,hz0=>by
  obtain⟨n,rfl,_,hw⟩:=DataW.trod_int (pq hf) h
  obtain⟨y,rfl⟩:=Md hw
  exact⟨y,rfl,trivial⟩
 |
  .bool,t,_,_,fuel,cs,x,hf,h,hz0=>by
  obtain⟨y,rfl,_⟩:=DataW.trod_bool (KA hf) h
  exact⟨y,rfl,trivial⟩
 |
  .str,t,_,_,fuel,cs,x,hf,h,hz0=>by
  obtain⟨y,rfl,_,hw⟩:=DataW.trod_string (PN hf) h
  exact⟨y,rfl,hw⟩
 |
  .bytes,t,_,_,fuel,cs,x,hf,h,hz0=>by
  unfold Sh.fits at hf
  split at hf
  ·rename_i e he
   rw[Bool.and_eq_true,Bool.and_eq_true,beq_iff_eq,beq_iff_eq] at hf
   rcases open_ints he (pq hf.1.1) hf.1.2 h with⟨rfl,_⟩ |⟨a,len,cap,zs,rfl,_,hl,hm,hz,rfl,hcell,hwz⟩
   ·exact⟨⟨none,0,[]⟩,rfl,Row.nil_ w,Nat.zero_le _⟩
   ·have h1:((lits (H:=H) .u8 (zs.take len)).length+(lits (H:=H) .u8 (zs.drop len)).length)*P.bytesOf e≤140737488351232:=hz0 _ (by simp[DataW.weights,he])
    have hcz:cap≤140737488351232:=by
     rw[hf.2,Nat.mul_one] at h1
     simp[lits] at h1 hz
     omega
    obtain⟨l,rfl,hr⟩:=row_of (w:=w) (a:=some a) (len:=len) (cap:=cap) (zs:=zs) (.inr ⟨a,rfl,hl,hm,by simpa using hz,hcell,hwz⟩)
    exact⟨⟨some a,cap,l⟩,rfl,hr,hcz⟩
  ·exact absurd hf AP
 |
  .arr n s,t,_,_,fuel,cs,x,hf,h,hz0=>by
  unfold Sh.fits at hf
  split at hf
  ·rename_i m e he
   simp only[Bool.and_eq_true,beq_iff_eq] at hf
   obtain⟨⟨⟨rfl,hsz⟩,hfe⟩,hC⟩:=hf
   obtain⟨xs,k,_,hxe,hl,hxl,hx⟩:=DataW.trod_array he h
   obtain⟨l,hll,hp⟩:=choose_lt' (α:=s.D) m (p:=fun i d=>(cs.drop (i*s.size)).take s.size=s.enc d∧s.ok w d) (fun i hi=>by
    have h1:=hx i hi
    rw[hsz,List.getElem?_eq_getElem AL] at h1
    refine yN s e [] 0 k _ _ hfe h1 (fun n hn=>hz0 n ?_)
    rw[hxe]
    simp only[DataW.weights,he]
    exact lT (j:=i) (by simp[hxl,hi]) n hn)
   refine⟨l, ?_,hll,fun x hx=> ?_⟩
   ·exact sQ s.size s.enc l cs (by rw[hl,hC,hll]) (fun i hi=>(hp i hi).1)
   ·obtain⟨i,hi,rfl⟩:=List.mem_iff_getElem.1 hx
    exact(hp i hi).2
  ·exact absurd hf AP
 |
  .slice s,t,_,_,fuel,cs,x,hf,h,hz0=>by
  unfold Sh.fits at hf
  split at hf
  ·rename_i e he
   simp only[Bool.and_eq_true,beq_iff_eq,decide_eq_true_eq] at hf
   obtain⟨⟨hsz,hpos,hby⟩,hfe⟩:=hf
   rcases open_slice he h with⟨rfl,_⟩ |⟨a,len,cap,m,n,D,Pl,rfl,_,hl,hm,hmm,rfl,hi⟩
   ·exact⟨⟨none,0,[]⟩,rfl,by refine⟨Nat.le_refl _,Nat.zero_le _,fun _=>rfl,fun h=>absurd rfl h,fun i h=>by simp at h⟩⟩
   ·have hlm:len≤m:=by rw[hmm];split<;>omega
    obtain⟨l,hll,hp⟩:=choose_lt' (α:=s.D) len (p:=fun i d=>(∀j,j<s.size→w.cell? (a.add (i*s.size+j))=(s.enc d)[j]?)∧s.ok w d) (fun i hii=>by
     obtain⟨cs',hc,ht'⟩:=hi i AL
     rw[hsz] at hc
     obtain⟨_,hcl,hat⟩:=World.cells?_some hc
     obtain⟨d,rfl,hok⟩:=yN s e [] 0 n _ _ hfe ht' (fun n hn=>hz0 n (by
      simp only[DataW.weights,he,List.mem_cons,List.mem_append]
      exact .inr (.inl (lT (j:=i) (by simp[hii]) n hn))))
     refine⟨d,fun j hj=> ?_,hok⟩
     have:=hat j hj
     rwa[Go.Deep.add_add] at this)
    subst hll
    have hcell:∀i (h:i<l.length) j,j<s.size→∃v,w.cell? (a.add (i*s.size+j))=some v:=by
     intro i h j hj
     have:=(hp i h).1 j hj
     rw[List.getElem?_eq_getElem (by rw[s.ng w _ (hp i h).2];exact hj)] at this
     exact⟨_,this⟩
    have hcz:cap≤140737488351232:=by
     have h1:(((List.range l.length).map D).length+((List.range (m-l.length)).map fun j=>D (l.length+j)).length)*P.bytesOf e≤140737488351232:=hz0 _ (by simp[DataW.weights,he])
     have h2:=Nat.le_mul_of_pos_right (((List.range l.length).map D).length+((List.range (m-l.length)).map fun j=>D (l.length+j)).length) hby
     simp at h1 h2 hmm
     omega
    refine⟨⟨some a,cap,l⟩,rfl,hl,hcz,fun h=>by simp at h,fun hne=> ?_,fun i h=>⟨fun j hj=> ?_,(hp i h).2⟩⟩
    ·have h0:0<l.length:=List.length_pos_iff.2 hne
     obtain⟨v,hv⟩:=hcell 0 h0 0 hpos
     have:=World.cell?_spot hv
     obtain⟨b,off,sp⟩:=a
     simp[Addr.add] at this
     exact⟨b,off,by rw[this]⟩
    ·obtain⟨v,hv⟩:=hcell i h j hj
     show w.cell? (ad (some a) _)=_
     rw[←(Qv hv).1]
     exact(hp i h).1 j hj
  ·exact absurd hf AP
 |
  .st f,t,_,_,fuel,cs,x,hf,h,hz0=>by
  unfold Sh.fits at hf
  split at hf
  ·rename_i fs he
   simp only[Bool.and_eq_true,beq_iff_eq] at hf
   obtain⟨xs,n,_,hxe,hl,hxl,hx⟩:=DataW.trod_struct he h
   obtain⟨d,hd,hok⟩:=JW f fs.toList 0 n cs hf.2 (by rw[hl,hf.1];omega) (fun i fd hfd=>by
    have h1:=hx i fd (by simpa using hfd)
    have hi:i<xs.length:=by rw[hxl];have:=(List.getElem?_eq_some_iff.1 hfd).1;simpa using this
    rw[List.getElem?_eq_getElem hi] at h1
    refine⟨_,h1,fun n hn=>hz0 n ?_⟩
    rw[hxe]
    simp only[DataW.weights,he]
    exact DataW.weights_mem_each (j:=i) (by rw[List.getElem?_map,hfd];rfl) (by simp[hi]) n hn)
   exact⟨d,hd,hok⟩
  ·exact absurd hf AP
theorem JW:(f:Sh true)→(fs:List Field)→(off:Nat)→(n:Nat)→(cs:List Value)→f.fits P 0 fs off=true→cs.length=off+f.size→
 (∀(i:Nat) (fd:Field),fs[i]? =some fd→∃y,DataW.trod enc P w base (fun _=>true) held n fd.type ((cs.drop fd.offset).take (P.cellsOf fd.type))=some y∧Fine P fd.type y.1)→∃d:f.D,cs.drop off=f.enc d∧f.ok w d
 |
  .nil,fs,off,n,cs,_,hl,_=>by
  refine⟨(), ?_,trivial⟩
  rw[List.drop_eq_nil_of_le (by rw[hl];exact Nat.le_refl _)];rfl
 |
  .cons s f,[],off,n,cs,hf,hl,hx=>by
  exact absurd hf Bool.false_ne_true
 |
  .cons s f,fd::fs,off,n,cs,hf,hl,hx=>by
  unfold Sh.fits at hf
  simp only[Bool.and_eq_true,beq_iff_eq] at hf
  obtain⟨⟨⟨rfl,hsz⟩,hfs⟩,hff⟩:=hf
  obtain⟨y,hy,hyz⟩:=hx 0 fd rfl
  obtain⟨d1,hd1,hok1⟩:=yN s fd.type [] 0 n _ _ hfs hy hyz
  obtain⟨d2,hd2,hok2⟩:=JW f fs (fd.offset+s.size) n cs hff (by rw[hl];show _+(s.size+f.size)=_;omega) (fun i g hg=>hx (i+1) g (by simpa using hg))
  refine⟨(d1,d2), ?_,hok1,hok2⟩
  show _=s.enc d1++f.enc d2
  rw[←hd1,←hd2,hsz,←List.drop_drop,List.take_append_drop]
end
end
end Go.Cit
namespace Go.Cit
open Go Go.RowKit Go.ChangeShapes Go.WideShapes Go.Deep
def Sh.val:(s:Sh false)→s.D→Value
 | .i64,n=> .int .i64 n
 | .u8,x=>vb x
 | .u32,x=>vw x
 | .u64,x=>vq x
 | .bool,x=> .bool x
 | .str,x=> .string x
 | .bytes,d=> .slice d.a d.l.length d.c
 | .slice _,d=> .slice d.a d.l.length d.c
 | .arr n s,d=> .agg (Sh.enc (.arr n s) d).toArray
 | .st f,d=> .agg (f.enc d).toArray
section
variable {H:Type} {enc:TypeId×Value→H} {P:Program} {w:World} {base:Nat} {held:Bool}
theorem BP {n:Nat} {e:TypeId} {r:Reach} {b0:Nat} {t:TypeId} {v:Value} (ht:P.underlying t=some (.array n e)) (h:Value.okWide P w r b0 t v):∃cs,v= .agg cs:=by
 simp only[Value.okWide,ht] at h
 obtain⟨cs,h1,_⟩:=h
 exact⟨cs,h1⟩
theorem qL (s:Sh false) {r:Reach} {b0:Nat} {t:TypeId} {v:Value} {d:DataW H} {p:List MemPlace} (hf:s.fits P t [] 0=true) (hv:Value.okWide P w r b0 t v) (h:DataW.Trod enc P w base (fun _=>true) held t v d p) (hz:Fine P t d):
 ∃e:s.D,v=s.val e∧s.ok w e:=by
 obtain⟨fuel,h⟩:=h
 obtain⟨e,he,hok⟩:=yN s t [] 0 fuel _ _ hf h hz
 refine⟨e, ?_,hok⟩
 cases s with
 | i64=>obtain⟨n,rfl⟩:=okWide_int (pq hf) hv;simpa[Value.cells,Sh.enc,Sh.val] using he
 | u8=>obtain⟨n,rfl⟩:=okWide_int (pq hf) hv;simpa[Value.cells,Sh.enc,Sh.val] using he
 | u32=>obtain⟨n,rfl⟩:=okWide_int (pq hf) hv;simpa[Value.cells,Sh.enc,Sh.val] using he
 | u64=>obtain⟨n,rfl⟩:=okWide_int (pq hf) hv;simpa[Value.cells,Sh.enc,Sh.val] using he
 | bool=>obtain⟨n,rfl⟩:=okWide_bool (KA hf) hv;simpa[Value.cells,Sh.enc,Sh.val] using he
 | str=>obtain⟨n,rfl⟩:=okWide_string (PN hf) hv;simpa[Value.cells,Sh.enc,Sh.val] using he
 |
  bytes=>
  unfold Sh.fits at hf
  split at hf
  ·rename_i q hq
   obtain⟨a,len,cap,rfl⟩:=okWide_slice hq hv
   simpa[Value.cells,Sh.enc,Sh.val] using he
  ·exact absurd hf AP
 |
  slice s=>
  unfold Sh.fits at hf
  split at hf
  ·rename_i q hq
   obtain⟨a,len,cap,rfl⟩:=okWide_slice hq hv
   simpa[Value.cells,Sh.enc,Sh.val] using he
  ·exact absurd hf AP
 |
  arr n s=>
  unfold Sh.fits at hf
  split at hf
  ·rename_i m q hq
   obtain⟨cs,rfl⟩:=BP hq hv
   have:cs.toList=Sh.enc (.arr n s) e:=he
   show Value.agg cs= .agg _
   rw[←this]
  ·exact absurd hf AP
 |
  st f=>
  unfold Sh.fits at hf
  split at hf
  ·rename_i fs hq
   obtain⟨cs,rfl,_⟩:=okWide_struct hq hv
   have:cs.toList=f.enc e:=he
   show Value.agg cs= .agg _
   rw[←this]
  ·exact absurd hf AP
theorem wB {ts:List TypeId} {ds:List (DataW H)} (h:(DataW.weightsEach P ts ds).all (· ≤reachBytes)=true) {j:Nat} {t:TypeId} {d:DataW H} (ht:ts[j]? =some t) (hd:ds[j]? =some d):Fine P t d:=by
 intro n hn
 have:=List.all_eq_true.1 h n (DataW.weights_mem_each ht hd n hn)
 have h2:=of_decide_eq_true this
 unfold reachBytes at h2
 omega
end
end Go.Cit
namespace Go.Cit
open Go Go.RowKit
abbrev I64:= {n:Int// -9223372036854775808≤n∧n≤9223372036854775807}
def wH (n:Int):I64:=if h: -9223372036854775808≤n∧n≤9223372036854775807 then⟨n,h⟩ else⟨0,by decide⟩
theorem jq {n:Int} (h: -9223372036854775808≤n∧n≤9223372036854775807):(wH n).1=n:=by unfold wH;rw[dif_pos h]
structure qm where
 len:I64
 part:I64
structure Reg where
 base:I64
 size:I64
structure Ch where
 id:I64
 src:I64
 dst:I64
 cap:I64
 size:I64
structure Pt where
 id:I64
 reg:Reg
 keep:Bool
 img:List UInt8
structure dL where
 id:I64
 reg:Reg
 keep:Bool
 a:Option Addr
 img:List UInt8
 c:Nat
def dL.pt (p:dL):Pt:=⟨p.id,p.reg,p.keep,p.img⟩
structure Bq where
 wins:List qm
 parts:List Pt
 chans:List Ch
structure aO where
 wa:Option Addr
 ws:List qm
 wc:Nat
 pa:Option Addr
 ps:List dL
 pc:Nat
 ca:Option Addr
 cs:List Ch
 cc:Nat
def aO.cfg (V:aO):Bq:=⟨V.ws,V.ps.map dL.pt,V.cs⟩
instance:DecidableEq qm:=fun a b=>if h:a.len=b.len∧a.part=b.part then isTrue (by cases a;cases b;simp_all) else isFalse (by rintro rfl;simp at h)
instance:DecidableEq Reg:=fun a b=>if h:a.base=b.base∧a.size=b.size then isTrue (by cases a;cases b;simp_all) else isFalse (by rintro rfl;simp at h)
instance:DecidableEq Ch:=fun a b=>if h:a.id=b.id∧a.src=b.src∧a.dst=b.dst∧a.cap=b.cap∧a.size=b.size then isTrue (by cases a;cases b;simp_all) else isFalse (by rintro rfl;simp at h)
instance:DecidableEq Pt:=fun a b=>if h:a.id=b.id∧a.reg=b.reg∧a.keep=b.keep∧a.img=b.img then isTrue (by cases a;cases b;simp_all) else isFalse (by rintro rfl;simp at h)
instance:DecidableEq Bq:=fun a b=>if h:a.wins=b.wins∧a.parts=b.parts∧a.chans=b.chans then isTrue (by cases a;cases b;simp_all) else isFalse (by rintro rfl;simp at h)
instance:Inhabited qm:=⟨⟨⟨0,by decide⟩,⟨0,by decide⟩⟩⟩
instance:Inhabited Reg:=⟨⟨⟨0,by decide⟩,⟨0,by decide⟩⟩⟩
@[reducible] def mY (x:qm):List Value:=[.int .i64 x.len.1, .int .i64 x.part.1]
@[reducible] def IQ (x:Reg):List Value:=[.int .i64 x.base.1, .int .i64 x.size.1]
@[reducible] def BO (x:Ch):List Value:=[.int .i64 x.id.1, .int .i64 x.src.1, .int .i64 x.dst.1, .int .i64 x.cap.1, .int .i64 x.size.1]
@[reducible] def Bo (x:dL):List Value:=[.int .i64 x.id.1, .int .i64 x.reg.base.1, .int .i64 x.reg.size.1, .bool x.keep, .slice x.a x.img.length x.c]
@[reducible] def uX (V:aO):List Value:=[.slice V.wa V.ws.length V.wc, .slice V.pa V.ps.length V.pc, .slice V.ca V.cs.length V.cc]
theorem dW:∀x,(mY x).length=2:=fun _=>rfl
theorem oK:∀x,(IQ x).length=2:=fun _=>rfl
theorem gK:∀x,(BO x).length=5:=fun _=>rfl
theorem dY:∀x,(Bo x).length=5:=fun _=>rfl
theorem vg:∀x,∀u∈mY x,u.oneCell'=true:=by intro x u hu;simp at hu;rcases hu with rfl |rfl<;>rfl
theorem N9:∀x,∀u∈IQ x,u.oneCell'=true:=by intro x u hu;simp at hu;rcases hu with rfl |rfl<;>rfl
theorem yE:∀x,∀u∈BO x,u.oneCell'=true:=by intro x u hu;simp at hu;rcases hu with rfl |rfl |rfl |rfl |rfl<;>rfl
theorem yR:∀x,∀u∈Bo x,u.oneCell'=true:=by intro x u hu;simp at hu;rcases hu with rfl |rfl |rfl |rfl |rfl<;>rfl
structure aO.At (w:World) (V:aO):Prop where
 win:Vec mY 2 w V.wa V.ws V.wc
 pts:Vec Bo 5 w V.pa V.ps V.pc
 kL:Vec BO 5 w V.ca V.cs V.cc
 img:∀x∈V.ps,Row w x.a x.img x.c
theorem aO.At.stay {w w':World} {V:aO} (h:V.At w) (hb:Below w.heap.size w w'):V.At w':=
 ⟨h.win.stay dW hb,h.pts.stay dY hb,h.kL.stay gK hb,fun x hx=>(h.img x hx).stay hb⟩
def FW:Sh false:= .st (.cons .i64 (.cons .i64 .nil))
def TV:Sh false:= .st (.cons .i64 (.cons .i64 .nil))
def Ox:Sh false:= .st (.cons .i64 (.cons .i64 (.cons .i64 (.cons .i64 (.cons .i64 .nil)))))
def Ny:Sh false:= .st (.cons .i64 (.cons TV (.cons .bool (.cons .bytes .nil))))
def uQ:Sh false:= .st (.cons (.slice FW) (.cons (.slice Ny) (.cons (.slice Ox) .nil)))
def NV (d:FW.D):qm:=⟨wH d.1,wH d.2.1⟩
def Sj (d:Ox.D):Ch:=⟨wH d.1,wH d.2.1,wH d.2.2.1,wH d.2.2.2.1,wH d.2.2.2.2.1⟩
def MH (d:Ny.D):dL:=⟨wH d.1,⟨wH d.2.1.1,wH d.2.1.2.1⟩,d.2.2.1,d.2.2.2.1.a,d.2.2.2.1.l,d.2.2.2.1.c⟩
def Fh (d:uQ.D):aO:=⟨d.1.a,d.1.l.map NV,d.1.c,d.2.1.a,d.2.1.l.map MH,d.2.1.c,d.2.2.1.a,d.2.2.1.l.map Sj,d.2.2.1.c⟩
theorem NS {w:World} {d:FW.D} (h:FW.ok w d):FW.enc d=mY (NV d):=by
 obtain⟨x,y,⟨⟩⟩:=d
 obtain⟨h1,h2,_⟩:=h
 show [Value.int .i64 x, .int .i64 y]=[.int .i64 (wH x).1, .int .i64 (wH y).1]
 rw[jq h1,jq h2]
theorem PY {w:World} {d:Ox.D} (h:Ox.ok w d):Ox.enc d=BO (Sj d):=by
 obtain⟨x1,x2,x3,x4,x5,⟨⟩⟩:=d
 obtain⟨h1,h2,h3,h4,h5,_⟩:=h
 show [Value.int .i64 x1, .int .i64 x2, .int .i64 x3, .int .i64 x4, .int .i64 x5]=[.int .i64 (wH x1).1, .int .i64 (wH x2).1, .int .i64 (wH x3).1, .int .i64 (wH x4).1, .int .i64 (wH x5).1]
 rw[jq h1,jq h2,jq h3,jq h4,jq h5]
theorem J4 {w:World} {d:Ny.D} (h:Ny.ok w d):Ny.enc d=Bo (MH d)∧Row w (MH d).a (MH d).img (MH d).c:=by
 obtain⟨x1,⟨x2,x3,⟨⟩⟩,x4,⟨a,c,l⟩,⟨⟩⟩:=d
 obtain⟨h1,⟨h2,h3,_⟩,_,h5,_⟩:=h
 refine⟨?_,h5.1⟩
 show [Value.int .i64 x1, .int .i64 x2, .int .i64 x3, .bool x4, .slice a l.length c]=[.int .i64 (wH x1).1, .int .i64 (wH x2).1, .int .i64 (wH x3).1, .bool x4, .slice a l.length c]
 rw[jq h1,jq h2,jq h3]
theorem Iq {α:Type} {s:Sh false} {t:s.D→α} {f:α→List Value} {w:World} {d:Sl s.D} (ht:∀x,s.ok w x→s.enc x=f (t x)) (h:(Sh.slice s).ok w d):Vec f s.size w d.a (d.l.map t) d.c:=by
 obtain⟨h1,h2,h3,h4,h5⟩:=h
 refine⟨by rw[List.length_map];exact h1,by unfold maxLen;omega,h3,fun hne=>h4 (by simpa using hne),fun i hi j hj=> ?_⟩
 rw[List.length_map] at hi
 rw[List.getElem_map,←ht _ (h5 i hi).2]
 exact(h5 i hi).1 j hj
theorem Oj {w:World} {d:uQ.D} (h:uQ.ok w d):(Fh d).At w:=by
 obtain⟨h1,h2,h3,_⟩:=h
 refine⟨Iq (fun x hx=>NS hx) h1,Iq (fun x hx=>(J4 hx).1) h2,Iq (fun x hx=>PY hx) h3,fun x hx=> ?_⟩
 obtain⟨y,hy,rfl⟩:=List.mem_map.1 hx
 obtain⟨i,hi,rfl⟩:=List.mem_iff_getElem.1 hy
 exact(J4 (h2.2.2.2.2 i hi).2).2
theorem OC (d:uQ.D):uQ.enc d=uX (Fh d):=by
 obtain⟨⟨a1,c1,l1⟩,⟨a2,c2,l2⟩,⟨a3,c3,l3⟩,⟨⟩⟩:=d
 show [Value.slice a1 l1.length c1, .slice a2 l2.length c2, .slice a3 l3.length c3]=[Value.slice a1 (l1.map NV).length c1, .slice a2 (l2.map MH).length c2, .slice a3 (l3.map Sj).length c3]
 rw[List.length_map,List.length_map,List.length_map]
theorem Vec.field {α:Type} {f:α→List Value} {n:Nat} {w:World} {a:Option Addr} {l:List α} {c:Nat} (h:Vec f n w a l c) (i:Nat) (hi:i<l.length) (j:Nat) (hj:j<n) {v:Value} (hv:(f l[i])[j]? =some v):
 w.cell? ⟨(ad a (i*n)).block,(ad a (i*n)).off+j,none⟩=some v:=by
 obtain⟨b,off,rfl⟩:=h.spot (by intro h0;simp[h0] at hi)
 have:=h.cell i hi j hj
 rw[hv] at this
 simpa[ad,Nat.add_assoc] using this
theorem Vec.wY {α:Type} {f:α→List Value} {n:Nat} {w:World} {a:Option Addr} {l:List α} {c:Nat} (h:Vec f n w a l c) (i:Nat) (hi:i<l.length) (hj:0<n) {v:Value} (hv:(f l[i])[0]? =some v):
 w.cell? (ad a (i*n))=some v:=by
 have:=h.field i hi 0 hj hv
 obtain⟨b,off,rfl⟩:=h.spot (by intro h0;simp[h0] at hi)
 simpa[ad] using this
end Go.Cit
namespace Go.Proofs.YtlholdllibghbaaGreat
open Go Go.RowKit Go.Cit
theorem JR:bT Tryz.prog 22 77 2 16 (.agg #[.int .i64 0, .int .i64 0]):=⟨Tryz.underlying22,by kernel_rfl,fun w=>AB,rfl,by decide,by decide⟩
theorem Kv:bT Tryz.prog 24 48 5 40 (.agg #[.int .i64 0, .int .i64 0, .int .i64 0, .int .i64 0, .int .i64 0]):=⟨Tryz.underlying24,by kernel_rfl,fun w=>AB,rfl,by decide,by decide⟩
theorem Di:bT Tryz.prog 23 46 5 56 (.agg #[.int .i64 0, .int .i64 0, .int .i64 0, .bool false, .slice none 0 0]):=⟨Tryz.underlying23,by kernel_rfl,fun w=>AB,rfl,by decide,by decide⟩
theorem SH:bT Tryz.prog 279 44 2 16 (.agg #[.int .i64 0, .int .i64 0]):=⟨Tryz.underlying279,by kernel_rfl,fun w=>AB,rfl,by decide,by decide⟩
theorem SE:bT Tryz.prog 146 33 1 8 (.int .i64 0):=⟨Tryz.underlying146,by kernel_rfl,fun w=>AB,rfl,by decide,by decide⟩
theorem VE:bT Tryz.prog 199 3 1 8 (.int .i64 0):=⟨Tryz.underlying199,by kernel_rfl,fun w=>AB,rfl,by decide,by decide⟩
end Go.Proofs.YtlholdllibghbaaGreat
