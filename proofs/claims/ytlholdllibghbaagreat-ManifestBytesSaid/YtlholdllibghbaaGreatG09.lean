/- Texts of the proof, one behind the other: Chan, Find, Sched, Part. No condition but those that each names. -/
import Derived.Test.YtlholdllibghbaaGreatG08
import Derived.Test.YtlholdllibghbaaGreatG07
import Derived.Lib.SliceRun
import Derived.WalkSpells
import Derived.Shelf.Abstract
import Derived.Test.YtlholdllibghbaaGreatKit
set_option maxRecDepth 100000
set_option maxHeartbeats 8000000
namespace Go.Proofs.YtlholdllibghbaaGreat
open Go Go.RowKit Go.Cit
def JO (n:Int):Bool:=decide (1≤n∧n≤6)
theorem Ji (w:World) (n:Int):Calls Tryz.prog 230 #[.int .i64 n] w fun e w'=>e= .returned (.bool (JO n))∧w'=w:=by
 obtain⟨R,HR⟩:=AU (JO n)
 rw[←HR.o]
 go_enter Tryz.func230,Tryz.ntmps230
 go_wp2_with fail
 all_goals
  go_ret
  refine⟨aJ ?_,rfl⟩
  rw[HR.o,JO]
  first |(refine(decide_eq_false ?_).symm;omega) |(refine(decide_eq_true ?_).symm;omega) |(refine decide_eq_decide.2 ?_;omega) |(rw[Bool.eq_iff_iff];simp only[Bool.and_eq_true,bne_iff_ne,ne_eq,decide_eq_true_eq];omega)
def FU (c:Ch):Bool:=decide (1≤c.id.1∧c.id.1≤8∧1≤c.src.1∧c.src.1≤6∧1≤c.dst.1∧c.dst.1≤6∧c.src.1≠c.dst.1∧1≤c.cap.1∧c.cap.1≤4∧1≤c.size.1∧c.size.1≤16)
theorem xK (w:World) (c:Ch):Calls Tryz.prog 182 #[.agg #[.int .i64 c.id.1, .int .i64 c.src.1, .int .i64 c.dst.1, .int .i64 c.cap.1, .int .i64 c.size.1]] w fun e w'=>e= .returned (.bool (FU c))∧Below w.heap.size w w':=by
 obtain⟨R,HR⟩:=AU (FU c)
 rw[←HR.o]
 obtain⟨⟨x1,_⟩,⟨x2,_⟩,⟨x3,_⟩,⟨x4,_⟩,⟨x5,_⟩⟩:=c
 have B:Hid (∀C,Below w.heap.size w (w.alloc (.cells C 48))):=fun C=>(Below.refl _ w).alloc (Nat.le_refl _) _
 go_enter Tryz.func182,Tryz.ntmps182
 go_wp2_with (go_at_call 230;refine(Ji _ _).mono ?_;rintro e w' ⟨rfl,rfl⟩)
 all_goals
  go_ret
  refine⟨aJ ?_,B.o _⟩
  rw[HR.o,FU]
  simp only[JO,decide_eq_true_eq,decide_eq_false_iff_not] at *
  first |(refine(decide_eq_false ?_).symm;omega) |(refine(decide_eq_true ?_).symm;omega) |(refine decide_eq_decide.2 ?_;omega) |(rw[Bool.eq_iff_iff];simp only[Bool.and_eq_true,bne_iff_ne,ne_eq,decide_eq_true_eq];omega)
theorem eu {w w':World} {a:Option Addr} {l:List Ch} {c:Nat} (h:Vec BO 5 w a l c) (hb:Below w.heap.size w w') (k:Nat) (hk:k<l.length):
 w'.cell? (ad a (k*5))=some (.int .i64 l[k].id.1)∧w'.cell? ⟨(ad a (k*5)).block,(ad a (k*5)).off+1,none⟩=some (.int .i64 l[k].src.1)∧w'.cell? ⟨(ad a (k*5)).block,(ad a (k*5)).off+2,none⟩=some (.int .i64 l[k].dst.1)∧
 w'.cell? ⟨(ad a (k*5)).block,(ad a (k*5)).off+3,none⟩=some (.int .i64 l[k].cap.1)∧w'.cell? ⟨(ad a (k*5)).block,(ad a (k*5)).off+4,none⟩=some (.int .i64 l[k].size.1):=by
 have h:=h.stay gK hb
 exact⟨h.wY k hk AP rfl,h.field k hk 1 AP rfl,h.field k hk 2 AP rfl,h.field k hk 3 AP rfl,h.field k hk 4 AP rfl⟩
def F9 (l:List Ch) (i:Nat):Int:=(l[i]?.map (·.id.1)).getD 0
def uZ (l:List Ch) (k:Nat):Bool:=(List.range k).all fun i=>decide (F9 l i<F9 l (i+1))
theorem tu (l:List Ch) (k:Nat):uZ l (k+1)=(uZ l k && decide (F9 l k<F9 l (k+1))):=by
 unfold uZ;rw[List.range_succ,List.all_append];simp
theorem Jq (l:List Ch) (k n:Nat) (h:k≤n) (hk:uZ l k=false):uZ l n=false:=by
 obtain⟨d,rfl⟩:∃d,n=k+d:=⟨n-k,by omega⟩
 induction d with
 | zero=>exact hk
 | succ d ih=>rw[←Nat.add_assoc,tu,ih AL,Bool.false_and]
def uH (l:List Ch):Int:=if l.all FU then (if uZ l (l.length-1) then 0 else 100) else 2
theorem Aw {α:Type} (p:α→Bool) (l:List α) (k:Nat) (h:k<l.length):(l.take (k+1)).all p=((l.take k).all p && p l[k]):=by
 rw[List.take_succ_eq_append_getElem h,List.all_append];simp
theorem Ee {α:Type} (p:α→Bool) (l:List α) (k:Nat) (h:k<l.length) (hp:p l[k]=false):l.all p=false:=by
 rw[List.all_eq_false];exact⟨l[k],List.getElem_mem h,by simp[hp]⟩
theorem FY (w:World) (a:Option Addr) (l:List Ch) (c:Nat) (h:Vec BO 5 w a l c):Calls Tryz.prog 252 #[.slice a l.length c] w fun e w'=>e= .returned (.int .i64 (uH l))∧Below w.heap.size w w':=by
 obtain⟨R,HR⟩:=AU (uH l)
 rw[←HR.o]
 have hlen:=h.bK
 have HH:=AQ h
 clear h
 go_enter Tryz.func252,Tryz.ntmps252
 go_wp2_with fail
 go_loopw [8] (fun i wr=>∃(k:Nat),Hid ((l.take k).all FU=true)∧k≤l.length∧i= .int .i64 k∧Below w.heap.size w wr) (fun i _=>l.length-(intOf i).toNat)
 case atStart=>exact⟨0,rfl,by omega,rfl,Below.refl _ _⟩
 case round=>
  obtain⟨k,ha,hk,rfl,B⟩:=hrel
  by_cases hlt:k<l.length
  ·have i0:=HH.o.index Kv k hlt
   obtain⟨d0,d1,d2,d3,d4⟩:=eu HH.o B k hlt
   cases hq:FU l[k] with
   |
    true=>
    have HA:Hid ((l.take (k+1)).all FU=true):=by rw[Hid,Aw _ _ _ hlt,ha.o,hq];rfl
    have HC:=AQ (fun w=>xK w l[k])
    rw[hq] at HC
    have HB:=AQ B
    clear hq B
    go_wp2_with (go_at_call 182;refine(HC.o _).mono ?_;rintro e w2 ⟨rfl,hb2⟩)
    go_roundw
    case rel=>exact⟨k+1,HA.o,by omega,by go_num,HB.o.trans (((Below.refl _ wr).alloc (Nat.le_refl _) _).trans (hb2.mono AO) |>.mono HB.o.size)⟩
    case measure=>simp[intOf];omega
   |
    false=>
    have HC:=AQ (fun w=>xK w l[k])
    rw[hq] at HC
    have HF:Hid (R=2):=by rw[Hid,HR.o,uH,Ee _ _ _ hlt hq];rfl
    have HB:=AQ B
    clear hq B
    go_wp2_with (go_at_call 182;refine(HC.o _).mono ?_;rintro e w2 ⟨rfl,hb2⟩)
    go_ret
    exact⟨dX HF.o.symm,HB.o.trans (((Below.refl _ wr).alloc (Nat.le_refl _) _).trans (hb2.mono AO) |>.mono HB.o.size)⟩
  ·have hk2:k=l.length:=by omega
   have HA:Hid (l.all FU=true):=by have:=ha.o;rw[hk2,List.take_length] at this;exact this
   have hnl:¬(k:Int)<(l.length:Int):=by omega
   clear ha hk2
   go_wp2_with fail
   go_loopw [5] (fun i wx=>∃(m:Nat),Hid (uZ l m=true)∧(m+1≤l.length∨m=0)∧i= .int .i64 ((m:Int)+1)∧Below w.heap.size w wx) (fun i _=>l.length-(intOf i).toNat)
   case atStart=>exact⟨0,rfl, .inr rfl,rfl,B⟩
   case round=>
    obtain⟨m,hm,hml,rfl,B2⟩:=hrel
    by_cases hlt2:m+1<l.length
    ·have i0:=HH.o.index Kv m AL
     have i1:=HH.o.index Kv (m+1) hlt2
     rw[show((m+1:Nat):Int)=(m:Int)+1 from rfl] at i1
     have c0:∀q:After wr,q.to.cell? (ad a (m*5))=some (.int .i64 l[m].id.1):=fun q=>(eu HH.o (B2.trans (q.bel.mono B2.size)) m AL).1
     have c1:∀q:After wr,q.to.cell? (ad a ((m+1)*5))=some (.int .i64 l[m+1].id.1):=fun q=>(eu HH.o (B2.trans (q.bel.mono B2.size)) (m+1) hlt2).1
     have hwm:IntKind.i64.wrap (m:Int)=(m:Int):=IntWalk.i64_in _ AL
     have HI:Hid (F9 l m=l[m].id.1∧F9 l (m+1)=l[m+1].id.1):=by
      constructor
      ·simp[F9,show m<l.length by omega]
      ·simp[F9,hlt2]
     by_cases hc:l[m].id.1<l[m+1].id.1
     ·have HS:Hid (uZ l (m+1)=true):=by rw[Hid,tu,hm.o,HI.o.1,HI.o.2,decide_eq_true hc];rfl
      have hlti:(m:Int)+1<(l.length:Int):=by omega
      go_wp2_with fail
      refine aQ AB AB ?_
      iterate 12
       refine gQ (fun K hK=> ?_)
       go_simp
       refine hK _ ?_
       clear hK K
      refine iY ?_
      intro _ hw'
      obtain⟨⟨w3,hb3⟩,hw'⟩:=hw'
      subst hw'
      go_wp2_with fail
      go_roundw
      case rel=>exact⟨m+1,HS.o,by omega,by go_num,B2.trans (hb3.mono B2.size)⟩
      case measure=>simp[intOf];omega
     ·have HS:Hid (uZ l (m+1)=false):=by rw[Hid,tu,hm.o,HI.o.1,HI.o.2,decide_eq_false hc];rfl
      have HF:Hid (R=100):=by rw[Hid,HR.o,uH,HA.o,Jq l (m+1) _ AL HS.o];rfl
      have hlti:(m:Int)+1<(l.length:Int):=by omega
      go_wp2_with fail
      refine aQ AB AB ?_
      iterate 12
       refine gQ (fun K hK=> ?_)
       go_simp
       refine hK _ ?_
       clear hK K
      refine iY ?_
      intro _ hw'
      obtain⟨⟨w3,hb3⟩,hw'⟩:=hw'
      subst hw'
      go_wp2_with fail
      go_ret
      exact⟨dX HF.o.symm,B2.trans (hb3.mono B2.size)⟩
    ·have HF:Hid (R=0):=by
      rw[Hid,HR.o,uH,HA.o,if_pos rfl]
      rcases hml with h1 |h1
      ·rw[show l.length-1=m by omega,hm.o];rfl
      ·subst h1;rw[show l.length-1=0 by omega];rfl
     have hlti:¬(m:Int)+1<(l.length:Int):=by omega
     go_wp2_with fail
     go_ret
     exact⟨dX HF.o.symm,B2⟩
open Go Go.RowKit Go.Cit
def iQ {α:Type} (p:α→Bool) (l:List α):Int:=match l.findIdx? p with |some i=>(i:Int) |none=> -1
theorem wO {α:Type} (p:α→Bool) (l:List α) (k:Nat) (h:k<l.length) (hn:∀j (hj:j<l.length),j<k→p l[j]=false) (hp:p l[k]=true):iQ p l=k:=by
 have:l.findIdx? p=some k:=by
  rw[List.findIdx?_eq_some_iff_getElem]
  exact⟨h,hp,fun j hj=>by rw[hn j AL hj];decide⟩
 rw[iQ,this]
theorem uD {α:Type} (p:α→Bool) (l:List α) (hn:∀j (hj:j<l.length),p l[j]=false):iQ p l= -1:=by
 have:l.findIdx? p=none:=by
  rw[List.findIdx?_eq_none_iff]
  intro x hx
  obtain⟨i,hi,rfl⟩:=List.mem_iff_getElem.1 hx
  exact hn i hi
 rw[iQ,this]
theorem oJ {α:Type} (p:α→Bool) (l:List α):decide (0≤iQ p l)=l.any p:=by
 cases h:l.findIdx? p with
 |
  none=>
  simp only[iQ,h]
  rw[List.findIdx?_eq_none_iff] at h
  have:l.any p=false:=by rw[List.any_eq_false];intro x hx;rw[h x hx];decide
  rw[this];rfl
 |
  some i=>
  rw[iQ,h]
  rw[List.findIdx?_eq_some_iff_getElem] at h
  obtain⟨hi,hp,_⟩:=h
  have:l.any p=true:=List.any_eq_true.2 ⟨l[i],List.getElem_mem hi,hp⟩
  rw[this];simp
theorem GR {α:Type} (p:α→Bool) (l:List α):iQ p l= -1∨∃i,∃h:i<l.length,iQ p l=i∧p l[i]=true:=by
 cases h:l.findIdx? p with
 | none=>left;rw[iQ,h]
 |
  some i=>
  right
  rw[iQ,h]
  rw[List.findIdx?_eq_some_iff_getElem] at h
  obtain⟨hi,hp,_⟩:=h
  exact⟨i,hi,rfl,hp⟩
theorem jQ {w w':World} {a:Option Addr} {l:List qm} {c:Nat} (h:Vec mY 2 w a l c) (hb:Below w.heap.size w w') (k:Nat) (hk:k<l.length):
 w'.cell? (ad a (k*2))=some (.int .i64 l[k].len.1)∧w'.cell? ⟨(ad a (k*2)).block,(ad a (k*2)).off+1,none⟩=some (.int .i64 l[k].part.1):=by
 have h:=h.stay dW hb
 exact⟨h.wY k hk AP rfl,h.field k hk 1 AP rfl⟩
theorem LG {p:qm→Bool} (g:Nat) (lb:Array Value) (eg:∀args w,(callFunc g args).run Tryz.prog w= .ok (.enter g args) w) (w:World) (a:Option Addr) (l:List qm) (c:Nat) (h:Vec mY 2 w a l c) (hp:∀(W:World) (i:Nat) (hi:i<l.length),Below w.heap.size w W→Calls Tryz.prog g (#[.agg #[.int .i64 l[i].len.1, .int .i64 l[i].part.1]]++lb) W fun e w'=>e= .returned (.bool (p l[i]))∧Below w.heap.size w w'):
 Calls Tryz.prog 257 #[.slice a l.length c, .func (.func g) #[] lb] w fun e w'=>e= .returned (.int .i64 (iQ p l))∧Below w.heap.size w w':=by
 obtain⟨R,HR⟩:=AU (iQ p l)
 rw[←HR.o]
 have hlen:=h.bK
 have HH:=AQ h
 have HP:=AQ hp
 clear h hp
 go_enter Tryz.func257,Tryz.ntmps257
 go_wp2_with fail
 go_loopw [8] (fun i wr=>∃(k:Nat),Hid (∀j (hj:j<l.length),j<k→p l[j]=false)∧k≤l.length∧i= .int .i64 k∧Below w.heap.size w wr) (fun i _=>l.length-(intOf i).toNat)
 case atStart=>exact⟨0,fun j hj h=>by omega,by omega,rfl,Below.refl _ _⟩
 case round=>
  obtain⟨k,ha,hk,rfl,B⟩:=hrel
  by_cases hlt:k<l.length
  ·have i0:=HH.o.index JR k hlt
   obtain⟨d0,d1⟩:=jQ HH.o B k hlt
   have hcall:=HP.o wr k hlt B
   cases hq:p l[k] with
   |
    true=>
    rw[hq] at hcall
    have HF:Hid (R=k):=by rw[Hid,HR.o,wO p l k hlt ha.o hq]
    clear hq
    go_wp2_with fail
    refine(hcall).mono ?_
    rintro e w2 ⟨rfl,hb2⟩
    go_wp2_with fail
    go_ret
    exact⟨dX HF.o.symm,hb2⟩
   |
    false=>
    rw[hq] at hcall
    have HN:Hid (∀j (hj:j<l.length),j<k+1→p l[j]=false):=fun j hj h=>by
     rcases Nat.lt_or_ge j k with h1 |h1
     ·exact ha.o j hj h1
     ·obtain rfl:j=k:=by omega
      exact hq
    clear hq
    go_wp2_with fail
    refine(hcall).mono ?_
    rintro e w2 ⟨rfl,hb2⟩
    go_wp2_with fail
    go_roundw
    case rel=>exact⟨k+1,HN.o,by omega,by go_num,hb2⟩
    case measure=>simp[intOf];omega
  ·have HF:Hid (R= -1):=by rw[Hid,HR.o,uD p l (fun j hj=>ha.o j hj AL)]
   go_wp2_with fail
   go_ret
   exact⟨dX HF.o.symm,B⟩
theorem EY {p:qm→Bool} (g:Nat) (lb:Array Value) (eg:∀args w,(callFunc g args).run Tryz.prog w= .ok (.enter g args) w) (w:World) (a:Option Addr) (l:List qm) (c:Nat) (h:Vec mY 2 w a l c) (hp:∀(W:World) (i:Nat) (hi:i<l.length),Below w.heap.size w W→Calls Tryz.prog g (#[.agg #[.int .i64 l[i].len.1, .int .i64 l[i].part.1]]++lb) W fun e w'=>e= .returned (.bool (p l[i]))∧Below w.heap.size w w'):
 Calls Tryz.prog 247 #[.slice a l.length c, .func (.func g) #[] lb] w fun e w'=>e= .returned (.bool (l.any p))∧Below w.heap.size w w':=by
 have HC:=AQ (LG g lb eg w a l c h hp)
 obtain⟨R,HR⟩:=AU (iQ p l)
 obtain⟨S,HS⟩:=AU (l.any p)
 rw[←HR.o] at HC
 rw[←HS.o]
 clear h hp
 go_enter Tryz.func247,Tryz.ntmps247
 go_wp2_with fail
 refine(HC.o).mono ?_
 rintro e w2 ⟨rfl,hb2⟩
 go_wp2_with fail
 go_ret
 exact⟨aJ (by rw[HS.o,←oJ p l,←HR.o]),hb2⟩
theorem dh {w w':World} {a:Option Addr} {l:List dL} {c:Nat} (h:Vec Bo 5 w a l c) (hb:Below w.heap.size w w') (k:Nat) (hk:k<l.length):
 w'.cell? (ad a (k*5))=some (.int .i64 l[k].id.1)∧w'.cell? ⟨(ad a (k*5)).block,(ad a (k*5)).off+1,none⟩=some (.int .i64 l[k].reg.base.1)∧w'.cell? ⟨(ad a (k*5)).block,(ad a (k*5)).off+2,none⟩=some (.int .i64 l[k].reg.size.1)∧w'.cell? ⟨(ad a (k*5)).block,(ad a (k*5)).off+3,none⟩=some (.bool l[k].keep)∧w'.cell? ⟨(ad a (k*5)).block,(ad a (k*5)).off+4,none⟩=some (.slice l[k].a l[k].img.length l[k].c):=by
 have h:=h.stay dY hb
 exact⟨h.wY k hk AP rfl,h.field k hk 1 AP rfl,h.field k hk 2 AP rfl,h.field k hk 3 AP rfl,h.field k hk 4 AP rfl⟩
theorem Dt {p:dL→Bool} (g:Nat) (lb:Array Value) (eg:∀args w,(callFunc g args).run Tryz.prog w= .ok (.enter g args) w) (w:World) (a:Option Addr) (l:List dL) (c:Nat) (h:Vec Bo 5 w a l c) (hp:∀(W:World) (i:Nat) (hi:i<l.length),Below w.heap.size w W→Calls Tryz.prog g (#[.agg #[.int .i64 l[i].id.1, .int .i64 l[i].reg.base.1, .int .i64 l[i].reg.size.1, .bool l[i].keep, .slice l[i].a l[i].img.length l[i].c]]++lb) W fun e w'=>e= .returned (.bool (p l[i]))∧Below w.heap.size w w'):
 Calls Tryz.prog 191 #[.slice a l.length c, .func (.func g) #[] lb] w fun e w'=>e= .returned (.int .i64 (iQ p l))∧Below w.heap.size w w':=by
 obtain⟨R,HR⟩:=AU (iQ p l)
 rw[←HR.o]
 have hlen:=h.bK
 have HH:=AQ h
 have HP:=AQ hp
 clear h hp
 go_enter Tryz.func191,Tryz.ntmps191
 go_wp2_with fail
 go_loopw [8] (fun i wr=>∃(k:Nat),Hid (∀j (hj:j<l.length),j<k→p l[j]=false)∧k≤l.length∧i= .int .i64 k∧Below w.heap.size w wr) (fun i _=>l.length-(intOf i).toNat)
 case atStart=>exact⟨0,fun j hj h=>by omega,by omega,rfl,Below.refl _ _⟩
 case round=>
  obtain⟨k,ha,hk,rfl,B⟩:=hrel
  by_cases hlt:k<l.length
  ·have i0:=HH.o.index Di k hlt
   obtain⟨d0,d1,d2,d3,d4⟩:=dh HH.o B k hlt
   have hcall:=HP.o wr k hlt B
   cases hq:p l[k] with
   |
    true=>
    rw[hq] at hcall
    have HF:Hid (R=k):=by rw[Hid,HR.o,wO p l k hlt ha.o hq]
    clear hq
    go_wp2_with fail
    refine(hcall).mono ?_
    rintro e w2 ⟨rfl,hb2⟩
    go_wp2_with fail
    go_ret
    exact⟨dX HF.o.symm,hb2⟩
   |
    false=>
    rw[hq] at hcall
    have HN:Hid (∀j (hj:j<l.length),j<k+1→p l[j]=false):=fun j hj h=>by
     rcases Nat.lt_or_ge j k with h1 |h1
     ·exact ha.o j hj h1
     ·obtain rfl:j=k:=by omega
      exact hq
    clear hq
    go_wp2_with fail
    refine(hcall).mono ?_
    rintro e w2 ⟨rfl,hb2⟩
    go_wp2_with fail
    go_roundw
    case rel=>exact⟨k+1,HN.o,by omega,by go_num,hb2⟩
    case measure=>simp[intOf];omega
  ·have HF:Hid (R= -1):=by rw[Hid,HR.o,uD p l (fun j hj=>ha.o j hj AL)]
   go_wp2_with fail
   go_ret
   exact⟨dX HF.o.symm,B⟩
theorem vI {p:dL→Bool} (g:Nat) (lb:Array Value) (eg:∀args w,(callFunc g args).run Tryz.prog w= .ok (.enter g args) w) (w:World) (a:Option Addr) (l:List dL) (c:Nat) (h:Vec Bo 5 w a l c) (hp:∀(W:World) (i:Nat) (hi:i<l.length),Below w.heap.size w W→Calls Tryz.prog g (#[.agg #[.int .i64 l[i].id.1, .int .i64 l[i].reg.base.1, .int .i64 l[i].reg.size.1, .bool l[i].keep, .slice l[i].a l[i].img.length l[i].c]]++lb) W fun e w'=>e= .returned (.bool (p l[i]))∧Below w.heap.size w w'):
 Calls Tryz.prog 112 #[.slice a l.length c, .func (.func g) #[] lb] w fun e w'=>e= .returned (.bool (l.any p))∧Below w.heap.size w w':=by
 have HC:=AQ (Dt g lb eg w a l c h hp)
 obtain⟨R,HR⟩:=AU (iQ p l)
 obtain⟨S,HS⟩:=AU (l.any p)
 rw[←HR.o] at HC
 rw[←HS.o]
 clear h hp
 go_enter Tryz.func112,Tryz.ntmps112
 go_wp2_with fail
 refine(HC.o).mono ?_
 rintro e w2 ⟨rfl,hb2⟩
 go_wp2_with fail
 go_ret
 exact⟨aJ (by rw[HS.o,←oJ p l,←HR.o]),hb2⟩
theorem Mc {p:Ch→Bool} (g:Nat) (lb:Array Value) (eg:∀args w,(callFunc g args).run Tryz.prog w= .ok (.enter g args) w) (w:World) (a:Option Addr) (l:List Ch) (c:Nat) (h:Vec BO 5 w a l c) (hp:∀(W:World) (i:Nat) (hi:i<l.length),Below w.heap.size w W→Calls Tryz.prog g (#[.agg #[.int .i64 l[i].id.1, .int .i64 l[i].src.1, .int .i64 l[i].dst.1, .int .i64 l[i].cap.1, .int .i64 l[i].size.1]]++lb) W fun e w'=>e= .returned (.bool (p l[i]))∧Below w.heap.size w w'):
 Calls Tryz.prog 260 #[.slice a l.length c, .func (.func g) #[] lb] w fun e w'=>e= .returned (.int .i64 (iQ p l))∧Below w.heap.size w w':=by
 obtain⟨R,HR⟩:=AU (iQ p l)
 rw[←HR.o]
 have hlen:=h.bK
 have HH:=AQ h
 have HP:=AQ hp
 clear h hp
 go_enter Tryz.func260,Tryz.ntmps260
 go_wp2_with fail
 go_loopw [8] (fun i wr=>∃(k:Nat),Hid (∀j (hj:j<l.length),j<k→p l[j]=false)∧k≤l.length∧i= .int .i64 k∧Below w.heap.size w wr) (fun i _=>l.length-(intOf i).toNat)
 case atStart=>exact⟨0,fun j hj h=>by omega,by omega,rfl,Below.refl _ _⟩
 case round=>
  obtain⟨k,ha,hk,rfl,B⟩:=hrel
  by_cases hlt:k<l.length
  ·have i0:=HH.o.index Kv k hlt
   obtain⟨d0,d1,d2,d3,d4⟩:=eu HH.o B k hlt
   have hcall:=HP.o wr k hlt B
   cases hq:p l[k] with
   |
    true=>
    rw[hq] at hcall
    have HF:Hid (R=k):=by rw[Hid,HR.o,wO p l k hlt ha.o hq]
    clear hq
    go_wp2_with fail
    refine(hcall).mono ?_
    rintro e w2 ⟨rfl,hb2⟩
    go_wp2_with fail
    go_ret
    exact⟨dX HF.o.symm,hb2⟩
   |
    false=>
    rw[hq] at hcall
    have HN:Hid (∀j (hj:j<l.length),j<k+1→p l[j]=false):=fun j hj h=>by
     rcases Nat.lt_or_ge j k with h1 |h1
     ·exact ha.o j hj h1
     ·obtain rfl:j=k:=by omega
      exact hq
    clear hq
    go_wp2_with fail
    refine(hcall).mono ?_
    rintro e w2 ⟨rfl,hb2⟩
    go_wp2_with fail
    go_roundw
    case rel=>exact⟨k+1,HN.o,by omega,by go_num,hb2⟩
    case measure=>simp[intOf];omega
  ·have HF:Hid (R= -1):=by rw[Hid,HR.o,uD p l (fun j hj=>ha.o j hj AL)]
   go_wp2_with fail
   go_ret
   exact⟨dX HF.o.symm,B⟩
theorem DZ {p:Ch→Bool} (g:Nat) (lb:Array Value) (eg:∀args w,(callFunc g args).run Tryz.prog w= .ok (.enter g args) w) (w:World) (a:Option Addr) (l:List Ch) (c:Nat) (h:Vec BO 5 w a l c) (hp:∀(W:World) (i:Nat) (hi:i<l.length),Below w.heap.size w W→Calls Tryz.prog g (#[.agg #[.int .i64 l[i].id.1, .int .i64 l[i].src.1, .int .i64 l[i].dst.1, .int .i64 l[i].cap.1, .int .i64 l[i].size.1]]++lb) W fun e w'=>e= .returned (.bool (p l[i]))∧Below w.heap.size w w'):
 Calls Tryz.prog 253 #[.slice a l.length c, .func (.func g) #[] lb] w fun e w'=>e= .returned (.bool (l.any p))∧Below w.heap.size w w':=by
 have HC:=AQ (Mc g lb eg w a l c h hp)
 obtain⟨R,HR⟩:=AU (iQ p l)
 obtain⟨S,HS⟩:=AU (l.any p)
 rw[←HR.o] at HC
 rw[←HS.o]
 clear h hp
 go_enter Tryz.func253,Tryz.ntmps253
 go_wp2_with fail
 refine(HC.o).mono ?_
 rintro e w2 ⟨rfl,hb2⟩
 go_wp2_with fail
 go_ret
 exact⟨aJ (by rw[HS.o,←oJ p l,←HR.o]),hb2⟩
open Go Go.RowKit Go.Cit
def DJ (x:qm):Bool:=decide (1≤x.len.1∧x.len.1≤64∧0≤x.part.1∧x.part.1≤6)
def D5 (l:List qm):Int:=(l.map (·.len.1)).sum
theorem Lc (l:List qm) (k:Nat) (h:k<l.length):D5 (l.take (k+1))=D5 (l.take k)+l[k].len.1:=by
 rw[D5,D5,List.take_succ_eq_append_getElem h,List.map_append,List.sum_append];simp
def DU (l:List qm):Bool:=decide (1≤l.length∧l.length≤12) && (l.all DJ && decide (D5 l≤64))
theorem JH (w:World) (a:Option Addr) (l:List qm) (c:Nat) (h:Vec mY 2 w a l c):Calls Tryz.prog 246 #[.slice a l.length c] w fun e w'=>e= .returned (.bool (DU l))∧Below w.heap.size w w':=by
 obtain⟨R,HR⟩:=AU (DU l)
 rw[←HR.o]
 have hlen:=h.bK
 have HH:=AQ h
 clear h
 by_cases h1:l.length<1
 ·have HF:Hid (R=false):=by rw[Hid,HR.o,DU,decide_eq_false AL];rfl
  go_enter Tryz.func246,Tryz.ntmps246
  go_wp2_with fail
  go_ret
  exact⟨aJ HF.o.symm,Below.refl _ _⟩
 by_cases h2:12<l.length
 ·have HF:Hid (R=false):=by rw[Hid,HR.o,DU,decide_eq_false AL];rfl
  go_enter Tryz.func246,Tryz.ntmps246
  go_wp2_with fail
  go_ret
  exact⟨aJ HF.o.symm,Below.refl _ _⟩
 have HR:Hid (R=(l.all DJ && decide (D5 l≤64))):=by rw[Hid,HR.o,DU,decide_eq_true AL];rfl
 go_enter Tryz.func246,Tryz.ntmps246
 go_wp2_with fail
 go_loopw [3,16] (fun s i wr=>∃(k:Nat) (m:Int),Hid ((l.take k).all DJ=true)∧Hid (m=D5 (l.take k))∧k≤l.length∧0≤m∧m≤64*k∧s= .int .i64 m∧i= .int .i64 k∧Below w.heap.size w wr) (fun _ i _=>l.length-(intOf i).toNat)
 case atStart=>exact⟨0,0,rfl,rfl,by omega,by omega,by omega,rfl,rfl,Below.refl _ _⟩
 case round=>
  obtain⟨k,m,ha,hm,hk,hm0,hm1,rfl,rfl,B⟩:=hrel
  by_cases hlt:k<l.length
  ·have i0:=HH.o.index JR k hlt
   obtain⟨d0,d1⟩:=jQ HH.o B k hlt
   have HB:Hid (∀C,Below w.heap.size w (wr.alloc (.cells C 77))):=fun C=>B.alloc B.size _
   obtain⟨x,hx⟩:=AV (l[k].len.1)
   obtain⟨y,hy⟩:=AV (l[k].part.1)
   have HW:Hid (DJ l[k]=decide (1≤x∧x≤64∧0≤y∧y≤6)):=by rw[hx,hy];rfl
   have HS:Hid (m+x=D5 (l.take (k+1))):=by rw[Hid,Lc _ _ hlt,hm.o,hx]
   rw[←hx] at d0
   rw[←hy] at d1
   clear hx hy B
   by_cases hq:1≤x∧x≤64∧0≤y∧y≤6
   ·obtain⟨q1,q2,q3,q4⟩:=hq
    have HA:Hid ((l.take (k+1)).all DJ=true):=by rw[Hid,Aw _ _ _ hlt,ha.o,HW.o,decide_eq_true ⟨q1,q2,q3,q4⟩];rfl
    go_wp2_with fail
    go_roundw
    case rel=>exact⟨k+1,m+x,HA.o,HS.o,by omega,by omega,by omega,rfl,by go_num,HB.o _⟩
    case measure=>simp[intOf];omega
   ·have HF:Hid (R=false):=by rw[Hid,HR.o,Ee _ _ _ hlt (by rw[HW.o,decide_eq_false hq])];rfl
    have HQ:=AQ hq
    clear hq
    go_wp2_with fail
    all_goals first
     | (go_ret;exact⟨aJ HF.o.symm,HB.o _⟩)
     | (exfalso;have:=HQ.o;omega)
  ·have hk2:k=l.length:=by omega
   have HA:Hid (l.all DJ=true):=by have:=ha.o;rw[hk2,List.take_length] at this;exact this
   have HM:Hid (m=D5 l):=by rw[Hid,hm.o,hk2,List.take_length]
   have HK:=AQ hk2
   clear hk2
   go_wp2_with fail
   all_goals
    go_ret
    refine⟨aJ ?_,B⟩
    rw[HR.o,HA.o,←HM.o,Bool.true_and]
    try simp only[*]
open Go Go.RowKit Go.Cit
theorem SG:gW Tryz.prog 40 5:=⟨Tryz.underlying40,fun w=>AB,by kernel_rfl⟩
theorem vK (w:World) (a:Option Addr) (l:List UInt8) (c:Nat) (h:Row w a l c) (hl:l.length≤1000000000):
 Calls Tryz.prog 163 #[.slice a l.length c] w fun e w'=>∃a' c',e= .returned (.slice a' l.length c')∧Cit.Own 5 w.heap.size w' a' l c'∧Below w.heap.size w w':=by
 cases a with
 |
  none=>
  have h0:=h.nil rfl
  have h1:=h.le
  obtain rfl:l=[]:=List.eq_nil_of_length_eq_zero AL
  subst h0
  show Calls Tryz.prog 163 #[.slice none 0 0] w _
  have hq:=fun w:World=>Lib.run_eql_slice_nil (P:=Tryz.prog) w 40 5 none 0 0 0 0 Tryz.underlying40
  go_enter Tryz.func163,Tryz.ntmps163
  go_wp2_with fail
  go_ret
  exact⟨none,0,rfl,Cit.Own.nil _ _ _,Below.refl _ _⟩
 |
  some x=>
  have hq:=fun w:World=>Lib.run_eql_slice_nil (P:=Tryz.prog) w 40 5 (some x) l.length c 0 0 Tryz.underlying40
  have B0:Below w.heap.size w (w.alloc (.cells #[] 5)):=(Below.refl _ _).alloc (Nat.le_refl _) _
  have O0:=kZ w #[] 5 [] rfl AO
  have HO:=AQ O0
  have HR:=AQ (h.stay B0)
  have HB:=AQ B0
  clear O0 B0 h
  go_enter Tryz.func163,Tryz.ntmps163
  go_wp2_with (first
   | ((with_reducible refine sO (o:=⟨some 7, .call _,_,_,_,_⟩) SG (.tmp 5) (.tmp 6) AA AA HO.o HR.o (by simp;omega) HB.o.size AA AA ?_);intro a2 c2 w2 hO2 hg2;rw[List.nil_append] at hO2;have HO2:=AQ hO2;have HB2:=AQ (HB.o.trans (grown_below hg2 HB.o.size (fun k hk=>(HO.o.aK hk).1)));clear hO2 hg2))
  go_ret
  exact⟨a2,c2,rfl,HO2.o,HB2.o⟩
theorem La (W:World) (x:dL) (B:Nat) (id:Int) (hc:W.cell? ⟨B,0,none⟩=some (.int .i64 id)):
 Calls Tryz.prog 240 (#[.agg #[.int .i64 x.id.1, .int .i64 x.reg.base.1, .int .i64 x.reg.size.1, .bool x.keep, .slice x.a x.img.length x.c]]++ #[.pointer (some ⟨B,0,none⟩)]) W fun e w'=>e= .returned (.bool (decide (x.id.1=id)))∧Below W.heap.size W w':=by
 have hB:=World.block_lt_of_cell? W _ hc
 have hne:B≠W.heap.size:=by have:B<W.heap.size:=hB;omega
 show Calls Tryz.prog 240 #[.agg #[.int .i64 x.id.1, .int .i64 x.reg.base.1, .int .i64 x.reg.size.1, .bool x.keep, .slice x.a x.img.length x.c], .pointer (some ⟨B,0,none⟩)] W _
 obtain⟨R,HR⟩:=AU (decide (x.id.1=id))
 rw[←HR.o]
 have HBL:Hid (∀C,Below W.heap.size W (W.alloc (.cells C 46))):=fun C=>(Below.refl _ W).alloc (Nat.le_refl _) _
 have c1:=keepA (.cells #[.int .i64 x.id.1, .int .i64 x.reg.base.1, .int .i64 x.reg.size.1, .bool x.keep, .slice x.a x.img.length x.c] 46) hc
 clear hc
 go_enter Tryz.func240,Tryz.ntmps240
 go_wp2_with fail
 go_ret
 exact⟨aJ (by rw[HR.o];rfl),HBL.o _⟩
structure cu (V:aO):Prop where
 win:V.ws.length≤100
 pts:V.ps.length≤100
 kL:V.cs.length≤100
 img:∀x∈V.ps,x.img.length≤10000
def Ux:Pt:=⟨⟨0,by decide⟩,⟨⟨0,by decide⟩,⟨0,by decide⟩⟩,false,[]⟩
def jd (ps:List dL) (id:Int):Bool:=ps.any fun x=>decide (x.id.1=id)
def qQ (ps:List dL) (id:Int):Pt:=((ps.find? fun x=>decide (x.id.1=id)).map dL.pt).getD Ux
theorem MQ {ps:List dL} {id:Int} (h:jd ps id=false):qQ ps id=Ux:=by
 have:ps.find? (fun x=>decide (x.id.1=id))=none:=by
  rw[List.find?_eq_none]
  intro x hx
  have:=List.any_eq_false.1 h x hx
  simpa using this
 rw[qQ,this];rfl
theorem Lr {α:Type} (p:α→Bool) (l:List α) (i:Nat) (hi:i<l.length) (h:iQ p l=i):l.find? p=some l[i]:=by
 cases hf:l.findIdx? p with
 | none=>rw[iQ,hf] at h;simp at h
 |
  some j=>
  rw[iQ,hf] at h
  obtain rfl:j=i:=by simp at h;omega
  rw[List.findIdx?_eq_some_iff_getElem] at hf
  obtain⟨_,hp,hn⟩:=hf
  rw[List.find?_eq_some_iff_getElem]
  exact⟨hp,j,hi,rfl,fun k hk=>by simpa using hn k hk⟩
theorem ML {ps:List dL} {id:Int} (h:iQ (fun x:dL=>decide (x.id.1=id)) ps= -1):jd ps id=false:=by
 rw[jd,←oJ,h];rfl
theorem QB {ps:List dL} {id:Int} {i:Nat} (h:iQ (fun x:dL=>decide (x.id.1=id)) ps=i):jd ps id=true:=by
 rw[jd,←oJ,h];simp
theorem rowP:fO Tryz.prog 46 5:=⟨⟨_,Tryz.underlying46,rfl⟩,by kernel_rfl⟩
theorem iW:fO Tryz.prog 26 3:=⟨⟨_,Tryz.underlying26,rfl⟩,by kernel_rfl⟩
theorem Ut {w:World} {b:Nat} {x0 x1 x2 x3 x4:Value} (y0 y1 y2 y3 y4:Value) {T:TypeId} {fr:Nat×Nat} (h:w.heap[b]? =some (.cells #[x0,x1,x2,x3,x4] T fr)):
 (((((w.setCell ⟨b,0,none⟩ y0).setCell ⟨b,1,none⟩ y1).setCell ⟨b,2,none⟩ y2).setCell ⟨b,3,none⟩ y3).setCell ⟨b,4,none⟩ y4).heap[b]? =some (.cells #[y0,y1,y2,y3,y4] T fr):=by
 simp[World.setCell,Array.getElem?_modify,h]
theorem LH (w:World) (b:Nat) (y0 y1 y2 y3 y4:Value):Save (· ≠b) w (((((w.setCell ⟨b,0,none⟩ y0).setCell ⟨b,1,none⟩ y1).setCell ⟨b,2,none⟩ y2).setCell ⟨b,3,none⟩ y3).setCell ⟨b,4,none⟩ y4):=
 ((((Save.set.trans Save.set).trans Save.set).trans Save.set).trans Save.set)
theorem au {w:World} {b:Nat} {C:Array Value} {T:TypeId} {fr:Nat×Nat} (h:w.heap[b]? =some (.cells C T fr)) (i:Nat) {v:Value} (hv:C[i]? =some v):w.cell? ⟨b,i,none⟩=some v:=by rw[World.cell?,h];exact hv
theorem bD {w:World} {b:Nat} {C:Array Value} {T:TypeId} (h:w.heap[b]? =some (.cells C T (0,0))) (i:Nat):w.frozen? ⟨b,i,none⟩=false:=by rw[World.frozen?,h];simp
theorem PW (w:World) (x y z:Value) (T:TypeId):(w.alloc (.cells #[x,y,z] T)).cell? ⟨w.heap.size,0,none⟩=some x∧(w.alloc (.cells #[x,y,z] T)).cell? ⟨w.heap.size,1,none⟩=some y∧(w.alloc (.cells #[x,y,z] T)).cell? ⟨w.heap.size,2,none⟩=some z:=by
 refine⟨?_, ?_, ?_⟩<;>(rw[World.cell?,heap_alloc_new];rfl)
theorem yX (w:World) (V:aO) (h:V.At w) (hs:cu V) (id:Int):Calls Tryz.prog 212 #[.agg #[.slice V.wa V.ws.length V.wc, .slice V.pa V.ps.length V.pc, .slice V.ca V.cs.length V.cc], .int .i64 id] w fun e w'=>
 ∃x:dL,e= .returned (.tuple #[.agg #[.int .i64 x.id.1, .int .i64 x.reg.base.1, .int .i64 x.reg.size.1, .bool x.keep, .slice x.a x.img.length x.c], .bool (jd V.ps id)])∧x.pt=qQ V.ps id∧Cit.Own 5 w.heap.size w' x.a x.img x.c∧Below w.heap.size w w':=by
 obtain⟨w3,hw3⟩:=AV (((w.alloc (.cells #[.slice V.wa V.ws.length V.wc, .slice V.pa V.ps.length V.pc, .slice V.ca V.cs.length V.cc] 26)).alloc (.cells #[.int .i64 id] 3)).alloc (.cells #[.int .i64 0, .int .i64 0, .int .i64 0, .bool false, .slice none 0 0] 46))
 have HB3:Hid (Below w.heap.size w w3):=by rw[Hid,hw3];exact(((Below.refl _ w).alloc (Nat.le_refl _) _).alloc AO _).alloc (by simp;omega) _
 have hsz3:w3.heap.size=w.heap.size+3:=by rw[hw3];simp
 have d0:w3.cell? ⟨w.heap.size,0,none⟩=some (.slice V.wa V.ws.length V.wc)∧w3.cell? ⟨w.heap.size,1,none⟩=some (.slice V.pa V.ps.length V.pc)∧w3.cell? ⟨w.heap.size,2,none⟩=some (.slice V.ca V.cs.length V.cc):=by
  obtain⟨a1,a2,a3⟩:=PW w (.slice V.wa V.ws.length V.wc) (.slice V.pa V.ps.length V.pc) (.slice V.ca V.cs.length V.cc) 26
  rw[hw3]
  exact⟨keepA _ (keepA _ a1),keepA _ (keepA _ a2),keepA _ (keepA _ a3)⟩
 have d1:w3.cell? ⟨w.heap.size+1,0,none⟩=some (.int .i64 id):=by
  rw[hw3]
  refine keepA _ ?_
  rw[World.cell?,show w.heap.size+1=(w.alloc (.cells #[.slice V.wa V.ws.length V.wc, .slice V.pa V.ps.length V.pc, .slice V.ca V.cs.length V.cc] 26)).heap.size by simp,heap_alloc_new];rfl
 have d2:w3.heap[w.heap.size+1+1]? =some (.cells #[.int .i64 0, .int .i64 0, .int .i64 0, .bool false, .slice none 0 0] 46 (0,0)):=by
  rw[hw3,show w.heap.size+1+1=((w.alloc (.cells #[.slice V.wa V.ws.length V.wc, .slice V.pa V.ps.length V.pc, .slice V.ca V.cs.length V.cc] 26)).alloc (.cells #[.int .i64 id] 3)).heap.size by simp,heap_alloc_new]
 have hV:=h.stay HB3.o
 have HI:=AQ (Dt (p:=fun x=>decide (x.id.1=id)) 240 #[.pointer (some ⟨w.heap.size+1,0,none⟩)] (enters_of Tryz.func240 AB rfl) w3 V.pa V.ps V.pc hV.pts
  (fun W i hi hb=>(La W V.ps[i] (w.heap.size+1) id (keep hb d1)).mono fun e w' ⟨he,hb'⟩=>⟨he,hb.trans (hb'.mono hb.size)⟩))
 have HV:=AQ hV
 have HD1:=AQ d2
 clear h hV d1 d2
 rcases GR (fun x:dL=>decide (x.id.1=id)) V.ps with hf |⟨i,hi,hf,hp⟩
 ·have HH:=ML hf
  have HG:=AQ (MQ HH)
  rw[HH]
  rw[hf] at HI
  clear hf HH
  go_enter Tryz.func212,Tryz.ntmps212
  go_wp2_with fail
  rw[←hw3]
  clear hw3
  refine(HI.o).mono ?_
  rintro e w4 ⟨rfl,hb4⟩
  have d0:=And.intro (keep hb4 d0.1) (And.intro (keep hb4 d0.2.1) (keep hb4 d0.2.2))
  have e2:w4.heap[w.heap.size+1+1]? =some (.cells #[.int .i64 0, .int .i64 0, .int .i64 0, .bool false, .slice none 0 0] 46 (0,0)):=(hb4.block _ (by rw[hsz3];omega)).trans HD1.o
  have HV4:=AQ (HV.o.stay hb4)
  have HB4:=AQ (HB3.o.trans (hb4.mono HB3.o.size))
  have hsz4:w.heap.size+3≤w4.heap.size:=by rw[←hsz3];exact hb4.size
  clear hb4 HI
  obtain⟨d0,d0',d0''⟩:=d0
  have g0:=au e2 0 rfl
  have g1:=au e2 1 rfl
  have g2:=au e2 2 rfl
  have g3:=au e2 3 rfl
  have g4:=au e2 4 rfl
  have f0:∀i,w4.frozen? ⟨w.heap.size+1+1,i,none⟩=false:=bD e2
  go_wp2_with fail
  refine bodyPost_ret (jS rowP rfl (by rfl) (Ut _ _ _ _ _ e2) rfl) rfl ⟨⟨⟨0,by decide⟩,⟨⟨0,by decide⟩,⟨0,by decide⟩⟩,false,none,[],0⟩,rfl, ?_,Cit.Own.nil _ _ _, ?_⟩
  ·rw[HG.o];rfl
  ·exact HB4.o.trans ((LH _ _ _ _ _ _ _).below HB4.o.size (fun k hk=>by omega))
 ·have HH:=QB hf
  have HX:=HV.o.img V.ps[i] (List.getElem_mem hi)
  have HG:Hid (qQ V.ps id=V.ps[i].pt):=by rw[Hid,qQ,Lr _ V.ps i hi hf];rfl
  have HL:V.ps[i].img.length≤10000:=hs.img _ (List.getElem_mem hi)
  have HPL:=HV.o.pts.bK
  rw[HH]
  rw[hf] at HI
  clear hf HH hp
  go_enter Tryz.func212,Tryz.ntmps212
  go_wp2_with fail
  rw[←hw3]
  clear hw3
  refine(HI.o).mono ?_
  rintro e w4 ⟨rfl,hb4⟩
  have d0:=And.intro (keep hb4 d0.1) (And.intro (keep hb4 d0.2.1) (keep hb4 d0.2.2))
  have e2:w4.heap[w.heap.size+1+1]? =some (.cells #[.int .i64 0, .int .i64 0, .int .i64 0, .bool false, .slice none 0 0] 46 (0,0)):=(hb4.block _ (by rw[hsz3];omega)).trans HD1.o
  have HV4:=AQ (HV.o.stay hb4)
  have HB4:=AQ (HB3.o.trans (hb4.mono HB3.o.size))
  have hsz4:w.heap.size+3≤w4.heap.size:=by rw[←hsz3];exact hb4.size
  clear hb4 HI
  obtain⟨d0,d0',d0''⟩:=d0
  have HX:=AQ (HV4.o.img V.ps[i] (List.getElem_mem hi))
  have i0:=HV4.o.pts.index Di i hi
  obtain⟨u0,u1,u2,u3,u4⟩:=dh HV4.o.pts (Below.refl _ _) i hi
  obtain⟨x,hx⟩:∃x:dL,Hid (x=V.ps[i]):=⟨V.ps[i],rfl⟩
  rw[←hx.o] at u0 u1 u2 u3 u4 HX HL HG
  have HN:Hid ((w4.alloc (.cells #[.int .i64 0, .int .i64 0, .int .i64 0, .bool false, .slice none 0 0] 46)).heap[w4.heap.size]? =some (.cells #[.int .i64 0, .int .i64 0, .int .i64 0, .bool false, .slice none 0 0] 46 (0,0))):=heap_alloc_new _ _
  have HE2:=AQ e2
  clear e2
  go_wp2_with ((with_reducible refine ay (o:=⟨none, .store _ (.tmp 7) (.tmp 19),_,_,_,_⟩) rowP (.tmp 7) (.tmp 19) AA AA AA AA AA HN.o AA AA AA ?_);intro w5 hb5 hS5;have k4:=au hb5 4 rfl;have HB5:=AQ hb5;have HS5:=AQ hS5;clear hb5 hS5)
  have hsz5:w4.heap.size+1≤w5.heap.size:=by have:=HS5.o.size;rwa[World.size_alloc] at this
  have B45:Below w4.heap.size w4 w5:=((Below.refl _ w4).alloc (Nat.le_refl _) _).trans (HS5.o.below AO (fun k hk=>by omega))
  have HCL:=AQ (vK w5 x.a x.img x.c (HX.o.stay B45) AL)
  have HB45:=AQ B45
  clear B45
  go_wp2_with fail
  refine(HCL.o).mono ?_
  rintro e w6 ⟨a6,c6,rfl,hO6,hb6⟩
  have hsz6:=hb6.size
  have e6:w6.heap[w4.heap.size]? =_:=(hb6.block _ AL).trans HB5.o
  have r6:w6.heap[w.heap.size+1+1]? =some (.cells #[.int .i64 0, .int .i64 0, .int .i64 0, .bool false, .slice none 0 0] 46 (0,0)):=(hb6.block _ AL).trans ((HB45.o.block _ AL).trans HE2.o)
  have k0:=au e6 0 rfl
  have k1:=au e6 1 rfl
  have k2:=au e6 2 rfl
  have k3:=au e6 3 rfl
  have k4:=au e6 4 rfl
  have f6:=bD e6
  have HO6:=AQ hO6
  have HB6:=AQ (HB4.o.trans ((HB45.o.mono HB4.o.size).trans (hb6.mono (by have:=HB4.o.size;have:=HB45.o.size;omega))))
  have HR7:Hid ((w6.setCell ⟨w4.heap.size,4,none⟩ (.slice a6 x.img.length c6)).heap[w.heap.size+1+1]? =some (.cells #[.int .i64 0, .int .i64 0, .int .i64 0, .bool false, .slice none 0 0] 46 (0,0))):=(Below.heap_setCell _ _ _ _ (by show w.heap.size+1+1≠w4.heap.size;omega)).trans r6
  clear hO6 hb6 e6 r6 HCL
  go_wp2_with ((with_reducible refine ay (o:=⟨none, .store _ (.tmp 4) (.tmp 24),_,_,_,_⟩) rowP (.tmp 4) (.tmp 24) AA AA AA AA AA HR7.o AA AA AA ?_);intro w7 hb7 hS7;have HB7:=AQ hb7;have HS7:=AQ hS7;clear hb7 hS7)
  refine bodyPost_ret (jS rowP rfl (by rfl) HB7.o rfl) rfl ⟨⟨x.id,x.reg,x.keep,a6,x.img,c6⟩,rfl, ?_, ?_, ?_⟩
  ·rw[HG.o];rfl
  ·refine((HO6.o.save (S:=(· ≠w4.heap.size)) Save.set (fun g hg=> ?_)).save HS7.o (fun g hg=> ?_)).low (by have:=HB4.o.size;omega)
   ·have:=(HO6.o.aK hg).1;omega
   ·have:=(HO6.o.aK hg).1;omega
  ·exact(HB6.o.setCell (p:=⟨w4.heap.size,4,none⟩) (by have:=HB4.o.size;exact this) _).trans (HS7.o.below (by simp[World.setCell];exact HB6.o.size) (fun k hk=>by omega))
theorem wM (w:World) (V:aO) (h:V.At w) (hs:cu V) (id:Int):Calls Tryz.prog 249 #[.agg #[.slice V.wa V.ws.length V.wc, .slice V.pa V.ps.length V.pc, .slice V.ca V.cs.length V.cc], .int .i64 id] w fun e w'=>
 e= .returned (.bool (jd V.ps id))∧Below w.heap.size w w':=by
 have B0:Below w.heap.size w (w.alloc (.cells #[.slice V.wa V.ws.length V.wc, .slice V.pa V.ps.length V.pc, .slice V.ca V.cs.length V.cc] 26)):=(Below.refl _ w).alloc (Nat.le_refl _) _
 have HC:=AQ (yX _ V (h.stay B0) hs id)
 have HB0:=AQ B0
 obtain⟨R,HR⟩:=AU (jd V.ps id)
 rw[←HR.o] at HC ⊢
 clear h B0
 go_enter Tryz.func249,Tryz.ntmps249
 go_wp2_with fail
 refine(HC.o).mono ?_
 rintro e w2 ⟨x,rfl,hx,hO,hb2⟩
 have HB2:=AQ (HB0.o.trans (hb2.mono HB0.o.size))
 clear hx hO hb2 HC
 go_wp2_with fail
 go_ret
 exact⟨rfl,HB2.o.alloc HB2.o.size _⟩
end Go.Proofs.YtlholdllibghbaaGreat
