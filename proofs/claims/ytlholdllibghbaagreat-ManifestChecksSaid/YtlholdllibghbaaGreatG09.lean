/- Texts of the proof, one behind the other: Chan, Find, Sched, Part. No condition but those that each names. -/
import Derived.Test.YtlholdllibghbaaGreatG08
import Derived.Test.YtlholdllibghbaaGreatG07
import Derived.Lib.SliceRun
import Derived.WalkSpells
import Derived.Shelf.Abstract
import Derived.Test.YtlholdllibghbaaGreatKit
set_option maxRecDepth 100000
set_option maxHeartbeats 8000000
namespace Go.Proofs.YtlholdllibghbaaGreat
open Go Go.RowKit Go.Cit
def MP (n:Int):Bool:=decide (1≤n∧n≤6)
theorem L6 (w:World) (n:Int):Calls Tryz.prog 230 #[.int .i64 n] w fun e w'=>e= .returned (.bool (MP n))∧w'=w:=by
 obtain⟨R,HR⟩:=AU (MP n)
 rw[←HR.o]
 go_enter Tryz.func230,Tryz.ntmps230
 go_wp2_with fail
 all_goals
  go_ret
  refine⟨aJ ?_,rfl⟩
  rw[HR.o,MP]
  first |(refine(decide_eq_false ?_).symm;omega) |(refine(decide_eq_true ?_).symm;omega) |(refine decide_eq_decide.2 ?_;omega) |(rw[Bool.eq_iff_iff];simp only[Bool.and_eq_true,bne_iff_ne,ne_eq,decide_eq_true_eq];omega)
theorem Ri (w:World) (n a b:Int):Calls Tryz.prog 255 #[.int .i64 n, .int .i64 a, .int .i64 b] w fun e w'=>e= .returned (.bool (decide (a≤n∧n≤b)))∧w'=w:=by
 obtain⟨R,HR⟩:=AU (decide (a≤n∧n≤b))
 rw[←HR.o]
 go_enter Tryz.func255,Tryz.ntmps255
 go_wp2_with fail
 all_goals
  go_ret
  refine⟨aJ ?_,rfl⟩
  rw[HR.o]
  first |(refine(decide_eq_false ?_).symm;omega) |(refine(decide_eq_true ?_).symm;omega) |(refine decide_eq_decide.2 ?_;omega) |(rw[Bool.eq_iff_iff];simp only[Bool.and_eq_true,bne_iff_ne,ne_eq,decide_eq_true_eq];omega)
def wE (c:Ch):Bool:=decide (1≤c.id.1∧c.id.1≤8∧1≤c.src.1∧c.src.1≤6∧1≤c.dst.1∧c.dst.1≤6∧c.src.1≠c.dst.1∧1≤c.cap.1∧c.cap.1≤4∧1≤c.size.1∧c.size.1≤16)
theorem zY (w:World) (c:Ch):Calls Tryz.prog 182 #[.agg #[.int .i64 c.id.1, .int .i64 c.src.1, .int .i64 c.dst.1, .int .i64 c.cap.1, .int .i64 c.size.1]] w fun e w'=>e= .returned (.bool (wE c))∧Below w.heap.size w w':=by
 obtain⟨R,HR⟩:=AU (wE c)
 rw[←HR.o]
 obtain⟨⟨x1,_⟩,⟨x2,_⟩,⟨x3,_⟩,⟨x4,_⟩,⟨x5,_⟩⟩:=c
 have B:Hid (∀C,Below w.heap.size w (w.alloc (.cells C 48))):=fun C=>(Below.refl _ w).alloc (Nat.le_refl _) _
 go_enter Tryz.func182,Tryz.ntmps182
 go_wp2_with (go_at_call 230;refine(L6 _ _).mono ?_;rintro e w' ⟨rfl,rfl⟩)
 all_goals
  go_ret
  refine⟨aJ ?_,B.o _⟩
  rw[HR.o,wE]
  simp only[MP,decide_eq_true_eq,decide_eq_false_iff_not] at *
  first |(refine(decide_eq_false ?_).symm;omega) |(refine(decide_eq_true ?_).symm;omega) |(refine decide_eq_decide.2 ?_;omega) |(rw[Bool.eq_iff_iff];simp only[Bool.and_eq_true,bne_iff_ne,ne_eq,decide_eq_true_eq];omega)
theorem tC (w:World) (c:Ch):Calls Tryz.prog 242 #[.agg #[.int .i64 c.id.1, .int .i64 c.src.1, .int .i64 c.dst.1, .int .i64 c.cap.1, .int .i64 c.size.1]] w fun e w'=>e= .returned (.bool (wE c))∧Below w.heap.size w w':=by
 obtain⟨R,HR⟩:=AU (wE c)
 rw[←HR.o]
 obtain⟨⟨x1,_⟩,⟨x2,_⟩,⟨x3,_⟩,⟨x4,_⟩,⟨x5,_⟩⟩:=c
 have B:Hid (∀C,Below w.heap.size w (w.alloc (.cells C 48))):=fun C=>(Below.refl _ w).alloc (Nat.le_refl _) _
 go_enter Tryz.func242,Tryz.ntmps242
 go_wp2_with (go_at_call 255;refine(Ri _ _ _ _).mono ?_;rintro e w' ⟨rfl,rfl⟩)
 all_goals
  go_ret
  refine⟨aJ ?_,B.o _⟩
  rw[HR.o,wE]
  try simp only[decide_eq_true_eq,decide_eq_false_iff_not] at *
  first |(refine(decide_eq_false ?_).symm;omega) |(refine(decide_eq_true ?_).symm;omega) |(refine decide_eq_decide.2 ?_;omega) |(rw[Bool.eq_iff_iff];simp only[Bool.and_eq_true,bne_iff_ne,ne_eq,decide_eq_true_eq];omega)
theorem dR {w w':World} {a:Option Addr} {l:List Ch} {c:Nat} (h:Vec D7 5 w a l c) (hb:Below w.heap.size w w') (k:Nat) (hk:k<l.length):
 w'.cell? (ad a (k*5))=some (.int .i64 l[k].id.1)∧w'.cell? ⟨(ad a (k*5)).block,(ad a (k*5)).off+1,none⟩=some (.int .i64 l[k].src.1)∧w'.cell? ⟨(ad a (k*5)).block,(ad a (k*5)).off+2,none⟩=some (.int .i64 l[k].dst.1)∧
 w'.cell? ⟨(ad a (k*5)).block,(ad a (k*5)).off+3,none⟩=some (.int .i64 l[k].cap.1)∧w'.cell? ⟨(ad a (k*5)).block,(ad a (k*5)).off+4,none⟩=some (.int .i64 l[k].size.1):=by
 have h:=h.stay gI hb
 exact⟨h.xg k hk AP rfl,h.field k hk 1 AP rfl,h.field k hk 2 AP rfl,h.field k hk 3 AP rfl,h.field k hk 4 AP rfl⟩
def Ac (l:List Ch) (i:Nat):Int:=(l[i]?.map (·.id.1)).getD 0
def sK (l:List Ch) (k:Nat):Bool:=(List.range k).all fun i=>decide (Ac l i<Ac l (i+1))
theorem o8 (l:List Ch) (k:Nat):sK l (k+1)=(sK l k && decide (Ac l k<Ac l (k+1))):=by
 unfold sK;rw[List.range_succ,List.all_append];simp
theorem Bv (l:List Ch) (k n:Nat) (h:k≤n) (hk:sK l k=false):sK l n=false:=by
 obtain⟨d,rfl⟩:∃d,n=k+d:=⟨n-k,by omega⟩
 induction d with
 | zero=>exact hk
 | succ d ih=>rw[←Nat.add_assoc,o8,ih AL,Bool.false_and]
def mY (l:List Ch):Int:=if l.all wE then (if sK l (l.length-1) then 0 else 100) else 2
theorem tH {α:Type} (p:α→Bool) (l:List α) (k:Nat) (h:k<l.length):(l.take (k+1)).all p=((l.take k).all p && p l[k]):=by
 rw[List.take_succ_eq_append_getElem h,List.all_append];simp
theorem xE {α:Type} (p:α→Bool) (l:List α) (k:Nat) (h:k<l.length) (hp:p l[k]=false):l.all p=false:=by
 rw[List.all_eq_false];exact⟨l[k],List.getElem_mem h,by simp[hp]⟩
theorem Iy (w:World) (a:Option Addr) (l:List Ch) (c:Nat) (h:Vec D7 5 w a l c):Calls Tryz.prog 252 #[.slice a l.length c] w fun e w'=>e= .returned (.int .i64 (mY l))∧Below w.heap.size w w':=by
 obtain⟨R,HR⟩:=AU (mY l)
 rw[←HR.o]
 have hlen:=h.bU
 have HH:=AQ h
 clear h
 go_enter Tryz.func252,Tryz.ntmps252
 go_wp2_with fail
 go_loopw [8] (fun i wr=>∃(k:Nat),Hid ((l.take k).all wE=true)∧k≤l.length∧i= .int .i64 k∧Below w.heap.size w wr) (fun i _=>l.length-(intOf i).toNat)
 case atStart=>exact⟨0,rfl,by omega,rfl,Below.refl _ _⟩
 case round=>
  obtain⟨k,ha,hk,rfl,B⟩:=hrel
  by_cases hlt:k<l.length
  ·have i0:=HH.o.index Hz k hlt
   obtain⟨d0,d1,d2,d3,d4⟩:=dR HH.o B k hlt
   cases hq:wE l[k] with
   |
    true=>
    have HA:Hid ((l.take (k+1)).all wE=true):=by rw[Hid,tH _ _ _ hlt,ha.o,hq];rfl
    have HC:=AQ (fun w=>zY w l[k])
    rw[hq] at HC
    have HB:=AQ B
    clear hq B
    go_wp2_with (go_at_call 182;refine(HC.o _).mono ?_;rintro e w2 ⟨rfl,hb2⟩)
    go_roundw
    case rel=>exact⟨k+1,HA.o,by omega,by go_num,HB.o.trans (((Below.refl _ wr).alloc (Nat.le_refl _) _).trans (hb2.mono AO) |>.mono HB.o.size)⟩
    case measure=>simp[intOf];omega
   |
    false=>
    have HC:=AQ (fun w=>zY w l[k])
    rw[hq] at HC
    have HF:Hid (R=2):=by rw[Hid,HR.o,mY,xE _ _ _ hlt hq];rfl
    have HB:=AQ B
    clear hq B
    go_wp2_with (go_at_call 182;refine(HC.o _).mono ?_;rintro e w2 ⟨rfl,hb2⟩)
    go_ret
    exact⟨dB HF.o.symm,HB.o.trans (((Below.refl _ wr).alloc (Nat.le_refl _) _).trans (hb2.mono AO) |>.mono HB.o.size)⟩
  ·have hk2:k=l.length:=by omega
   have HA:Hid (l.all wE=true):=by have:=ha.o;rw[hk2,List.take_length] at this;exact this
   have hnl:¬(k:Int)<(l.length:Int):=by omega
   clear ha hk2
   go_wp2_with fail
   go_loopw [5] (fun i wx=>∃(m:Nat),Hid (sK l m=true)∧(m+1≤l.length∨m=0)∧i= .int .i64 ((m:Int)+1)∧Below w.heap.size w wx) (fun i _=>l.length-(intOf i).toNat)
   case atStart=>exact⟨0,rfl, .inr rfl,rfl,B⟩
   case round=>
    obtain⟨m,hm,hml,rfl,B2⟩:=hrel
    by_cases hlt2:m+1<l.length
    ·have i0:=HH.o.index Hz m AL
     have i1:=HH.o.index Hz (m+1) hlt2
     rw[show((m+1:Nat):Int)=(m:Int)+1 from rfl] at i1
     have c0:∀q:After wr,q.to.cell? (ad a (m*5))=some (.int .i64 l[m].id.1):=fun q=>(dR HH.o (B2.trans (q.bel.mono B2.size)) m AL).1
     have c1:∀q:After wr,q.to.cell? (ad a ((m+1)*5))=some (.int .i64 l[m+1].id.1):=fun q=>(dR HH.o (B2.trans (q.bel.mono B2.size)) (m+1) hlt2).1
     have hwm:IntKind.i64.wrap (m:Int)=(m:Int):=IntWalk.i64_in _ AL
     have HI:Hid (Ac l m=l[m].id.1∧Ac l (m+1)=l[m+1].id.1):=by
      constructor
      ·simp[Ac,show m<l.length by omega]
      ·simp[Ac,hlt2]
     by_cases hc:l[m].id.1<l[m+1].id.1
     ·have HS:Hid (sK l (m+1)=true):=by rw[Hid,o8,hm.o,HI.o.1,HI.o.2,decide_eq_true hc];rfl
      have hlti:(m:Int)+1<(l.length:Int):=by omega
      go_wp2_with fail
      refine bg AB AB ?_
      iterate 12
       refine gY (fun K hK=> ?_)
       go_simp
       refine hK _ ?_
       clear hK K
      refine iU ?_
      intro _ hw'
      obtain⟨⟨w3,hb3⟩,hw'⟩:=hw'
      subst hw'
      go_wp2_with fail
      go_roundw
      case rel=>exact⟨m+1,HS.o,by omega,by go_num,B2.trans (hb3.mono B2.size)⟩
      case measure=>simp[intOf];omega
     ·have HS:Hid (sK l (m+1)=false):=by rw[Hid,o8,hm.o,HI.o.1,HI.o.2,decide_eq_false hc];rfl
      have HF:Hid (R=100):=by rw[Hid,HR.o,mY,HA.o,Bv l (m+1) _ AL HS.o];rfl
      have hlti:(m:Int)+1<(l.length:Int):=by omega
      go_wp2_with fail
      refine bg AB AB ?_
      iterate 12
       refine gY (fun K hK=> ?_)
       go_simp
       refine hK _ ?_
       clear hK K
      refine iU ?_
      intro _ hw'
      obtain⟨⟨w3,hb3⟩,hw'⟩:=hw'
      subst hw'
      go_wp2_with fail
      go_ret
      exact⟨dB HF.o.symm,B2.trans (hb3.mono B2.size)⟩
    ·have HF:Hid (R=0):=by
      rw[Hid,HR.o,mY,HA.o,if_pos rfl]
      rcases hml with h1 |h1
      ·rw[show l.length-1=m by omega,hm.o];rfl
      ·subst h1;rw[show l.length-1=0 by omega];rfl
     have hlti:¬(m:Int)+1<(l.length:Int):=by omega
     go_wp2_with fail
     go_ret
     exact⟨dB HF.o.symm,B2⟩
theorem BN (w:World) (a:Option Addr) (l:List Ch) (c:Nat) (h:Vec D7 5 w a l c):Calls Tryz.prog 217 #[.slice a l.length c] w fun e w'=>e= .returned (.int .i64 (mY l))∧Below w.heap.size w w':=by
 obtain⟨R,HR⟩:=AU (mY l)
 rw[←HR.o]
 have hlen:=h.bU
 have HH:=AQ h
 clear h
 go_enter Tryz.func217,Tryz.ntmps217
 go_wp2_with fail
 go_loopw [3] (fun i wr=>∃(k:Nat),Hid ((l.take k).all wE=true)∧k≤l.length∧i= .int .i64 k∧Below w.heap.size w wr) (fun i _=>l.length-(intOf i).toNat)
 case atStart=>exact⟨0,rfl,by omega,rfl,Below.refl _ _⟩
 case round=>
  obtain⟨k,ha,hk,rfl,B⟩:=hrel
  by_cases hlt:k<l.length
  ·have i0:=HH.o.index Hz k hlt
   obtain⟨d0,d1,d2,d3,d4⟩:=dR HH.o B k hlt
   cases hq:wE l[k] with
   |
    true=>
    have HA:Hid ((l.take (k+1)).all wE=true):=by rw[Hid,tH _ _ _ hlt,ha.o,hq];rfl
    have HC:=AQ (fun w=>tC w l[k])
    rw[hq] at HC
    have HB:=AQ B
    clear hq B
    go_wp2_with (go_at_call 242;refine(HC.o _).mono ?_;rintro e w2 ⟨rfl,hb2⟩)
    go_roundw
    case rel=>exact⟨k+1,HA.o,by omega,by go_num,HB.o.trans (hb2.mono HB.o.size)⟩
    case measure=>simp[intOf];omega
   |
    false=>
    have HC:=AQ (fun w=>tC w l[k])
    rw[hq] at HC
    have HF:Hid (R=2):=by rw[Hid,HR.o,mY,xE _ _ _ hlt hq];rfl
    have HB:=AQ B
    clear hq B
    go_wp2_with (go_at_call 242;refine(HC.o _).mono ?_;rintro e w2 ⟨rfl,hb2⟩)
    go_ret
    exact⟨dB HF.o.symm,HB.o.trans (hb2.mono HB.o.size)⟩
  ·have hk2:k=l.length:=by omega
   have HA:Hid (l.all wE=true):=by have:=ha.o;rw[hk2,List.take_length] at this;exact this
   have hnl:¬(k:Int)<(l.length:Int):=by omega
   clear ha hk2
   go_wp2_with fail
   go_loopw [4] (fun i wx=>∃(m:Nat),Hid (sK l m=true)∧(m+1≤l.length∨m=0)∧i= .int .i64 ((m:Int)+1)∧Below w.heap.size w wx) (fun i _=>l.length-(intOf i).toNat)
   case atStart=>exact⟨0,rfl, .inr rfl,rfl,B⟩
   case round=>
    obtain⟨m,hm,hml,rfl,B2⟩:=hrel
    by_cases hlt2:m+1<l.length
    ·have i0:=HH.o.index Hz m AL
     have i1:=HH.o.index Hz (m+1) hlt2
     rw[show((m+1:Nat):Int)=(m:Int)+1 from rfl] at i1
     have c0:∀q:After wr,q.to.cell? (ad a (m*5))=some (.int .i64 l[m].id.1):=fun q=>(dR HH.o (B2.trans (q.bel.mono B2.size)) m AL).1
     have c1:∀q:After wr,q.to.cell? (ad a ((m+1)*5))=some (.int .i64 l[m+1].id.1):=fun q=>(dR HH.o (B2.trans (q.bel.mono B2.size)) (m+1) hlt2).1
     have hwm:IntKind.i64.wrap (m:Int)=(m:Int):=IntWalk.i64_in _ AL
     have HI:Hid (Ac l m=l[m].id.1∧Ac l (m+1)=l[m+1].id.1):=by
      constructor
      ·simp[Ac,show m<l.length by omega]
      ·simp[Ac,hlt2]
     by_cases hc:l[m].id.1<l[m+1].id.1
     ·have HS:Hid (sK l (m+1)=true):=by rw[Hid,o8,hm.o,HI.o.1,HI.o.2,decide_eq_true hc];rfl
      have hlti:(m:Int)+1<(l.length:Int):=by omega
      go_wp2_with fail
      refine bg AB AB ?_
      iterate 12
       refine gY (fun K hK=> ?_)
       go_simp
       refine hK _ ?_
       clear hK K
      refine iU ?_
      intro _ hw'
      obtain⟨⟨w3,hb3⟩,hw'⟩:=hw'
      subst hw'
      go_wp2_with fail
      go_roundw
      case rel=>exact⟨m+1,HS.o,by omega,by go_num,B2.trans (hb3.mono B2.size)⟩
      case measure=>simp[intOf];omega
     ·have HS:Hid (sK l (m+1)=false):=by rw[Hid,o8,hm.o,HI.o.1,HI.o.2,decide_eq_false hc];rfl
      have HF:Hid (R=100):=by rw[Hid,HR.o,mY,HA.o,Bv l (m+1) _ AL HS.o];rfl
      have hlti:(m:Int)+1<(l.length:Int):=by omega
      go_wp2_with fail
      refine bg AB AB ?_
      iterate 12
       refine gY (fun K hK=> ?_)
       go_simp
       refine hK _ ?_
       clear hK K
      refine iU ?_
      intro _ hw'
      obtain⟨⟨w3,hb3⟩,hw'⟩:=hw'
      subst hw'
      go_wp2_with fail
      go_ret
      exact⟨dB HF.o.symm,B2.trans (hb3.mono B2.size)⟩
    ·have HF:Hid (R=0):=by
      rw[Hid,HR.o,mY,HA.o,if_pos rfl]
      rcases hml with h1 |h1
      ·rw[show l.length-1=m by omega,hm.o];rfl
      ·subst h1;rw[show l.length-1=0 by omega];rfl
     have hlti:¬(m:Int)+1<(l.length:Int):=by omega
     go_wp2_with fail
     go_ret
     exact⟨dB HF.o.symm,B2⟩
open Go Go.RowKit Go.Cit
def iI {α:Type} (p:α→Bool) (l:List α):Int:=match l.findIdx? p with |some i=>(i:Int) |none=> -1
theorem uY {α:Type} (p:α→Bool) (l:List α) (k:Nat) (h:k<l.length) (hn:∀j (hj:j<l.length),j<k→p l[j]=false) (hp:p l[k]=true):iI p l=k:=by
 have:l.findIdx? p=some k:=by
  rw[List.findIdx?_eq_some_iff_getElem]
  exact⟨h,hp,fun j hj=>by rw[hn j AL hj];decide⟩
 rw[iI,this]
theorem rW {α:Type} (p:α→Bool) (l:List α) (hn:∀j (hj:j<l.length),p l[j]=false):iI p l= -1:=by
 have:l.findIdx? p=none:=by
  rw[List.findIdx?_eq_none_iff]
  intro x hx
  obtain⟨i,hi,rfl⟩:=List.mem_iff_getElem.1 hx
  exact hn i hi
 rw[iI,this]
theorem oK {α:Type} (p:α→Bool) (l:List α):decide (0≤iI p l)=l.any p:=by
 cases h:l.findIdx? p with
 |
  none=>
  simp only[iI,h]
  rw[List.findIdx?_eq_none_iff] at h
  have:l.any p=false:=by rw[List.any_eq_false];intro x hx;rw[h x hx];decide
  rw[this];rfl
 |
  some i=>
  rw[iI,h]
  rw[List.findIdx?_eq_some_iff_getElem] at h
  obtain⟨hi,hp,_⟩:=h
  have:l.any p=true:=List.any_eq_true.2 ⟨l[i],List.getElem_mem hi,hp⟩
  rw[this];simp
theorem mV {α:Type} (p:α→Bool) (l:List α):iI p l= -1∨∃i,∃h:i<l.length,iI p l=i∧p l[i]=true:=by
 cases h:l.findIdx? p with
 | none=>left;rw[iI,h]
 |
  some i=>
  right
  rw[iI,h]
  rw[List.findIdx?_eq_some_iff_getElem] at h
  obtain⟨hi,hp,_⟩:=h
  exact⟨i,hi,rfl,hp⟩
theorem jY {w w':World} {a:Option Addr} {l:List rJ} {c:Nat} (h:Vec nY 2 w a l c) (hb:Below w.heap.size w w') (k:Nat) (hk:k<l.length):
 w'.cell? (ad a (k*2))=some (.int .i64 l[k].len.1)∧w'.cell? ⟨(ad a (k*2)).block,(ad a (k*2)).off+1,none⟩=some (.int .i64 l[k].part.1):=by
 have h:=h.stay fF hb
 exact⟨h.xg k hk AP rfl,h.field k hk 1 AP rfl⟩
theorem OQ {p:rJ→Bool} (g:Nat) (lb:Array Value) (eg:∀args w,(callFunc g args).run Tryz.prog w= .ok (.enter g args) w) (w:World) (a:Option Addr) (l:List rJ) (c:Nat) (h:Vec nY 2 w a l c) (hp:∀(W:World) (i:Nat) (hi:i<l.length),Below w.heap.size w W→Calls Tryz.prog g (#[.agg #[.int .i64 l[i].len.1, .int .i64 l[i].part.1]]++lb) W fun e w'=>e= .returned (.bool (p l[i]))∧Below w.heap.size w w'):
 Calls Tryz.prog 257 #[.slice a l.length c, .func (.func g) #[] lb] w fun e w'=>e= .returned (.int .i64 (iI p l))∧Below w.heap.size w w':=by
 obtain⟨R,HR⟩:=AU (iI p l)
 rw[←HR.o]
 have hlen:=h.bU
 have HH:=AQ h
 have HP:=AQ hp
 clear h hp
 go_enter Tryz.func257,Tryz.ntmps257
 go_wp2_with fail
 go_loopw [8] (fun i wr=>∃(k:Nat),Hid (∀j (hj:j<l.length),j<k→p l[j]=false)∧k≤l.length∧i= .int .i64 k∧Below w.heap.size w wr) (fun i _=>l.length-(intOf i).toNat)
 case atStart=>exact⟨0,fun j hj h=>by omega,by omega,rfl,Below.refl _ _⟩
 case round=>
  obtain⟨k,ha,hk,rfl,B⟩:=hrel
  by_cases hlt:k<l.length
  ·have i0:=HH.o.index Kq k hlt
   obtain⟨d0,d1⟩:=jY HH.o B k hlt
   have hcall:=HP.o wr k hlt B
   cases hq:p l[k] with
   |
    true=>
    rw[hq] at hcall
    have HF:Hid (R=k):=by rw[Hid,HR.o,uY p l k hlt ha.o hq]
    clear hq
    go_wp2_with fail
    refine(hcall).mono ?_
    rintro e w2 ⟨rfl,hb2⟩
    go_wp2_with fail
    go_ret
    exact⟨dB HF.o.symm,hb2⟩
   |
    false=>
    rw[hq] at hcall
    have HN:Hid (∀j (hj:j<l.length),j<k+1→p l[j]=false):=fun j hj h=>by
     rcases Nat.lt_or_ge j k with h1 |h1
     ·exact ha.o j hj h1
     ·obtain rfl:j=k:=by omega
      exact hq
    clear hq
    go_wp2_with fail
    refine(hcall).mono ?_
    rintro e w2 ⟨rfl,hb2⟩
    go_wp2_with fail
    go_roundw
    case rel=>exact⟨k+1,HN.o,by omega,by go_num,hb2⟩
    case measure=>simp[intOf];omega
  ·have HF:Hid (R= -1):=by rw[Hid,HR.o,rW p l (fun j hj=>ha.o j hj AL)]
   go_wp2_with fail
   go_ret
   exact⟨dB HF.o.symm,B⟩
theorem FP {p:rJ→Bool} (g:Nat) (lb:Array Value) (eg:∀args w,(callFunc g args).run Tryz.prog w= .ok (.enter g args) w) (w:World) (a:Option Addr) (l:List rJ) (c:Nat) (h:Vec nY 2 w a l c) (hp:∀(W:World) (i:Nat) (hi:i<l.length),Below w.heap.size w W→Calls Tryz.prog g (#[.agg #[.int .i64 l[i].len.1, .int .i64 l[i].part.1]]++lb) W fun e w'=>e= .returned (.bool (p l[i]))∧Below w.heap.size w w'):
 Calls Tryz.prog 247 #[.slice a l.length c, .func (.func g) #[] lb] w fun e w'=>e= .returned (.bool (l.any p))∧Below w.heap.size w w':=by
 have HC:=AQ (OQ g lb eg w a l c h hp)
 obtain⟨R,HR⟩:=AU (iI p l)
 obtain⟨S,HS⟩:=AU (l.any p)
 rw[←HR.o] at HC
 rw[←HS.o]
 clear h hp
 go_enter Tryz.func247,Tryz.ntmps247
 go_wp2_with fail
 refine(HC.o).mono ?_
 rintro e w2 ⟨rfl,hb2⟩
 go_wp2_with fail
 go_ret
 exact⟨aJ (by rw[HS.o,←oK p l,←HR.o]),hb2⟩
theorem bK {w w':World} {a:Option Addr} {l:List dD} {c:Nat} (h:Vec BR 5 w a l c) (hb:Below w.heap.size w w') (k:Nat) (hk:k<l.length):
 w'.cell? (ad a (k*5))=some (.int .i64 l[k].id.1)∧w'.cell? ⟨(ad a (k*5)).block,(ad a (k*5)).off+1,none⟩=some (.int .i64 l[k].reg.base.1)∧w'.cell? ⟨(ad a (k*5)).block,(ad a (k*5)).off+2,none⟩=some (.int .i64 l[k].reg.size.1)∧w'.cell? ⟨(ad a (k*5)).block,(ad a (k*5)).off+3,none⟩=some (.bool l[k].keep)∧w'.cell? ⟨(ad a (k*5)).block,(ad a (k*5)).off+4,none⟩=some (.slice l[k].a l[k].img.length l[k].c):=by
 have h:=h.stay fJ hb
 exact⟨h.xg k hk AP rfl,h.field k hk 1 AP rfl,h.field k hk 2 AP rfl,h.field k hk 3 AP rfl,h.field k hk 4 AP rfl⟩
theorem Fg {p:dD→Bool} (g:Nat) (lb:Array Value) (eg:∀args w,(callFunc g args).run Tryz.prog w= .ok (.enter g args) w) (w:World) (a:Option Addr) (l:List dD) (c:Nat) (h:Vec BR 5 w a l c) (hp:∀(W:World) (i:Nat) (hi:i<l.length),Below w.heap.size w W→Calls Tryz.prog g (#[.agg #[.int .i64 l[i].id.1, .int .i64 l[i].reg.base.1, .int .i64 l[i].reg.size.1, .bool l[i].keep, .slice l[i].a l[i].img.length l[i].c]]++lb) W fun e w'=>e= .returned (.bool (p l[i]))∧Below w.heap.size w w'):
 Calls Tryz.prog 191 #[.slice a l.length c, .func (.func g) #[] lb] w fun e w'=>e= .returned (.int .i64 (iI p l))∧Below w.heap.size w w':=by
 obtain⟨R,HR⟩:=AU (iI p l)
 rw[←HR.o]
 have hlen:=h.bU
 have HH:=AQ h
 have HP:=AQ hp
 clear h hp
 go_enter Tryz.func191,Tryz.ntmps191
 go_wp2_with fail
 go_loopw [8] (fun i wr=>∃(k:Nat),Hid (∀j (hj:j<l.length),j<k→p l[j]=false)∧k≤l.length∧i= .int .i64 k∧Below w.heap.size w wr) (fun i _=>l.length-(intOf i).toNat)
 case atStart=>exact⟨0,fun j hj h=>by omega,by omega,rfl,Below.refl _ _⟩
 case round=>
  obtain⟨k,ha,hk,rfl,B⟩:=hrel
  by_cases hlt:k<l.length
  ·have i0:=HH.o.index yH k hlt
   obtain⟨d0,d1,d2,d3,d4⟩:=bK HH.o B k hlt
   have hcall:=HP.o wr k hlt B
   cases hq:p l[k] with
   |
    true=>
    rw[hq] at hcall
    have HF:Hid (R=k):=by rw[Hid,HR.o,uY p l k hlt ha.o hq]
    clear hq
    go_wp2_with fail
    refine(hcall).mono ?_
    rintro e w2 ⟨rfl,hb2⟩
    go_wp2_with fail
    go_ret
    exact⟨dB HF.o.symm,hb2⟩
   |
    false=>
    rw[hq] at hcall
    have HN:Hid (∀j (hj:j<l.length),j<k+1→p l[j]=false):=fun j hj h=>by
     rcases Nat.lt_or_ge j k with h1 |h1
     ·exact ha.o j hj h1
     ·obtain rfl:j=k:=by omega
      exact hq
    clear hq
    go_wp2_with fail
    refine(hcall).mono ?_
    rintro e w2 ⟨rfl,hb2⟩
    go_wp2_with fail
    go_roundw
    case rel=>exact⟨k+1,HN.o,by omega,by go_num,hb2⟩
    case measure=>simp[intOf];omega
  ·have HF:Hid (R= -1):=by rw[Hid,HR.o,rW p l (fun j hj=>ha.o j hj AL)]
   go_wp2_with fail
   go_ret
   exact⟨dB HF.o.symm,B⟩
theorem xG {p:dD→Bool} (g:Nat) (lb:Array Value) (eg:∀args w,(callFunc g args).run Tryz.prog w= .ok (.enter g args) w) (w:World) (a:Option Addr) (l:List dD) (c:Nat) (h:Vec BR 5 w a l c) (hp:∀(W:World) (i:Nat) (hi:i<l.length),Below w.heap.size w W→Calls Tryz.prog g (#[.agg #[.int .i64 l[i].id.1, .int .i64 l[i].reg.base.1, .int .i64 l[i].reg.size.1, .bool l[i].keep, .slice l[i].a l[i].img.length l[i].c]]++lb) W fun e w'=>e= .returned (.bool (p l[i]))∧Below w.heap.size w w'):
 Calls Tryz.prog 112 #[.slice a l.length c, .func (.func g) #[] lb] w fun e w'=>e= .returned (.bool (l.any p))∧Below w.heap.size w w':=by
 have HC:=AQ (Fg g lb eg w a l c h hp)
 obtain⟨R,HR⟩:=AU (iI p l)
 obtain⟨S,HS⟩:=AU (l.any p)
 rw[←HR.o] at HC
 rw[←HS.o]
 clear h hp
 go_enter Tryz.func112,Tryz.ntmps112
 go_wp2_with fail
 refine(HC.o).mono ?_
 rintro e w2 ⟨rfl,hb2⟩
 go_wp2_with fail
 go_ret
 exact⟨aJ (by rw[HS.o,←oK p l,←HR.o]),hb2⟩
theorem OO {p:Ch→Bool} (g:Nat) (lb:Array Value) (eg:∀args w,(callFunc g args).run Tryz.prog w= .ok (.enter g args) w) (w:World) (a:Option Addr) (l:List Ch) (c:Nat) (h:Vec D7 5 w a l c) (hp:∀(W:World) (i:Nat) (hi:i<l.length),Below w.heap.size w W→Calls Tryz.prog g (#[.agg #[.int .i64 l[i].id.1, .int .i64 l[i].src.1, .int .i64 l[i].dst.1, .int .i64 l[i].cap.1, .int .i64 l[i].size.1]]++lb) W fun e w'=>e= .returned (.bool (p l[i]))∧Below w.heap.size w w'):
 Calls Tryz.prog 260 #[.slice a l.length c, .func (.func g) #[] lb] w fun e w'=>e= .returned (.int .i64 (iI p l))∧Below w.heap.size w w':=by
 obtain⟨R,HR⟩:=AU (iI p l)
 rw[←HR.o]
 have hlen:=h.bU
 have HH:=AQ h
 have HP:=AQ hp
 clear h hp
 go_enter Tryz.func260,Tryz.ntmps260
 go_wp2_with fail
 go_loopw [8] (fun i wr=>∃(k:Nat),Hid (∀j (hj:j<l.length),j<k→p l[j]=false)∧k≤l.length∧i= .int .i64 k∧Below w.heap.size w wr) (fun i _=>l.length-(intOf i).toNat)
 case atStart=>exact⟨0,fun j hj h=>by omega,by omega,rfl,Below.refl _ _⟩
 case round=>
  obtain⟨k,ha,hk,rfl,B⟩:=hrel
  by_cases hlt:k<l.length
  ·have i0:=HH.o.index Hz k hlt
   obtain⟨d0,d1,d2,d3,d4⟩:=dR HH.o B k hlt
   have hcall:=HP.o wr k hlt B
   cases hq:p l[k] with
   |
    true=>
    rw[hq] at hcall
    have HF:Hid (R=k):=by rw[Hid,HR.o,uY p l k hlt ha.o hq]
    clear hq
    go_wp2_with fail
    refine(hcall).mono ?_
    rintro e w2 ⟨rfl,hb2⟩
    go_wp2_with fail
    go_ret
    exact⟨dB HF.o.symm,hb2⟩
   |
    false=>
    rw[hq] at hcall
    have HN:Hid (∀j (hj:j<l.length),j<k+1→p l[j]=false):=fun j hj h=>by
     rcases Nat.lt_or_ge j k with h1 |h1
     ·exact ha.o j hj h1
     ·obtain rfl:j=k:=by omega
      exact hq
    clear hq
    go_wp2_with fail
    refine(hcall).mono ?_
    rintro e w2 ⟨rfl,hb2⟩
    go_wp2_with fail
    go_roundw
    case rel=>exact⟨k+1,HN.o,by omega,by go_num,hb2⟩
    case measure=>simp[intOf];omega
  ·have HF:Hid (R= -1):=by rw[Hid,HR.o,rW p l (fun j hj=>ha.o j hj AL)]
   go_wp2_with fail
   go_ret
   exact⟨dB HF.o.symm,B⟩
theorem F8 {p:Ch→Bool} (g:Nat) (lb:Array Value) (eg:∀args w,(callFunc g args).run Tryz.prog w= .ok (.enter g args) w) (w:World) (a:Option Addr) (l:List Ch) (c:Nat) (h:Vec D7 5 w a l c) (hp:∀(W:World) (i:Nat) (hi:i<l.length),Below w.heap.size w W→Calls Tryz.prog g (#[.agg #[.int .i64 l[i].id.1, .int .i64 l[i].src.1, .int .i64 l[i].dst.1, .int .i64 l[i].cap.1, .int .i64 l[i].size.1]]++lb) W fun e w'=>e= .returned (.bool (p l[i]))∧Below w.heap.size w w'):
 Calls Tryz.prog 253 #[.slice a l.length c, .func (.func g) #[] lb] w fun e w'=>e= .returned (.bool (l.any p))∧Below w.heap.size w w':=by
 have HC:=AQ (OO g lb eg w a l c h hp)
 obtain⟨R,HR⟩:=AU (iI p l)
 obtain⟨S,HS⟩:=AU (l.any p)
 rw[←HR.o] at HC
 rw[←HS.o]
 clear h hp
 go_enter Tryz.func253,Tryz.ntmps253
 go_wp2_with fail
 refine(HC.o).mono ?_
 rintro e w2 ⟨rfl,hb2⟩
 go_wp2_with fail
 go_ret
 exact⟨aJ (by rw[HS.o,←oK p l,←HR.o]),hb2⟩
open Go Go.RowKit Go.Cit
def vM (x:rJ):Bool:=decide (1≤x.len.1∧x.len.1≤64∧0≤x.part.1∧x.part.1≤6)
def Ag (l:List rJ):Int:=(l.map (·.len.1)).sum
theorem EX (l:List rJ) (k:Nat) (h:k<l.length):Ag (l.take (k+1))=Ag (l.take k)+l[k].len.1:=by
 rw[Ag,Ag,List.take_succ_eq_append_getElem h,List.map_append,List.sum_append];simp
def wK (l:List rJ):Bool:=decide (1≤l.length∧l.length≤12) && (l.all vM && decide (Ag l≤64))
theorem LZ (w:World) (a:Option Addr) (l:List rJ) (c:Nat) (h:Vec nY 2 w a l c):Calls Tryz.prog 246 #[.slice a l.length c] w fun e w'=>e= .returned (.bool (wK l))∧Below w.heap.size w w':=by
 obtain⟨R,HR⟩:=AU (wK l)
 rw[←HR.o]
 have hlen:=h.bU
 have HH:=AQ h
 clear h
 by_cases h1:l.length<1
 ·have HF:Hid (R=false):=by rw[Hid,HR.o,wK,decide_eq_false AL];rfl
  go_enter Tryz.func246,Tryz.ntmps246
  go_wp2_with fail
  go_ret
  exact⟨aJ HF.o.symm,Below.refl _ _⟩
 by_cases h2:12<l.length
 ·have HF:Hid (R=false):=by rw[Hid,HR.o,wK,decide_eq_false AL];rfl
  go_enter Tryz.func246,Tryz.ntmps246
  go_wp2_with fail
  go_ret
  exact⟨aJ HF.o.symm,Below.refl _ _⟩
 have HR:Hid (R=(l.all vM && decide (Ag l≤64))):=by rw[Hid,HR.o,wK,decide_eq_true AL];rfl
 go_enter Tryz.func246,Tryz.ntmps246
 go_wp2_with fail
 go_loopw [3,16] (fun s i wr=>∃(k:Nat) (m:Int),Hid ((l.take k).all vM=true)∧Hid (m=Ag (l.take k))∧k≤l.length∧0≤m∧m≤64*k∧s= .int .i64 m∧i= .int .i64 k∧Below w.heap.size w wr) (fun _ i _=>l.length-(intOf i).toNat)
 case atStart=>exact⟨0,0,rfl,rfl,by omega,by omega,by omega,rfl,rfl,Below.refl _ _⟩
 case round=>
  obtain⟨k,m,ha,hm,hk,hm0,hm1,rfl,rfl,B⟩:=hrel
  by_cases hlt:k<l.length
  ·have i0:=HH.o.index Kq k hlt
   obtain⟨d0,d1⟩:=jY HH.o B k hlt
   have HB:Hid (∀C,Below w.heap.size w (wr.alloc (.cells C 77))):=fun C=>B.alloc B.size _
   obtain⟨x,hx⟩:=AV (l[k].len.1)
   obtain⟨y,hy⟩:=AV (l[k].part.1)
   have HW:Hid (vM l[k]=decide (1≤x∧x≤64∧0≤y∧y≤6)):=by rw[hx,hy];rfl
   have HS:Hid (m+x=Ag (l.take (k+1))):=by rw[Hid,EX _ _ hlt,hm.o,hx]
   rw[←hx] at d0
   rw[←hy] at d1
   clear hx hy B
   by_cases hq:1≤x∧x≤64∧0≤y∧y≤6
   ·obtain⟨q1,q2,q3,q4⟩:=hq
    have HA:Hid ((l.take (k+1)).all vM=true):=by rw[Hid,tH _ _ _ hlt,ha.o,HW.o,decide_eq_true ⟨q1,q2,q3,q4⟩];rfl
    go_wp2_with fail
    go_roundw
    case rel=>exact⟨k+1,m+x,HA.o,HS.o,by omega,by omega,by omega,rfl,by go_num,HB.o _⟩
    case measure=>simp[intOf];omega
   ·have HF:Hid (R=false):=by rw[Hid,HR.o,xE _ _ _ hlt (by rw[HW.o,decide_eq_false hq])];rfl
    have HQ:=AQ hq
    clear hq
    go_wp2_with fail
    all_goals first
     | (go_ret;exact⟨aJ HF.o.symm,HB.o _⟩)
     | (exfalso;have:=HQ.o;omega)
  ·have hk2:k=l.length:=by omega
   have HA:Hid (l.all vM=true):=by have:=ha.o;rw[hk2,List.take_length] at this;exact this
   have HM:Hid (m=Ag l):=by rw[Hid,hm.o,hk2,List.take_length]
   have HK:=AQ hk2
   clear hk2
   go_wp2_with fail
   all_goals
    go_ret
    refine⟨aJ ?_,B⟩
    rw[HR.o,HA.o,←HM.o,Bool.true_and]
    try simp only[*]
theorem Ew (w:World) (a:Option Addr) (l:List rJ) (c:Nat) (h:Vec nY 2 w a l c):Calls Tryz.prog 213 #[.slice a l.length c] w fun e w'=>e= .returned (.bool (wK l))∧Below w.heap.size w w':=by
 obtain⟨R,HR⟩:=AU (wK l)
 rw[←HR.o]
 have hlen:=h.bU
 have HH:=AQ h
 clear h
 go_enter Tryz.func213,Tryz.ntmps213
 go_wp2_with fail
 go_loopw [3,4] (fun s i wr=>∃(k:Nat) (m:Int),Hid ((l.take k).all vM=true)∧Hid (m=Ag (l.take k))∧k≤l.length∧k≤12∧k≤m∧m≤64*k∧s= .int .i64 m∧i= .int .i64 k∧wr=w) (fun _ i _=>l.length-(intOf i).toNat)
 case atStart=>exact⟨0,0,rfl,rfl,by omega,by omega,by omega,by omega,rfl,rfl,rfl⟩
 case round=>
  obtain⟨k,m,ha,hm,hk,hk12,hm0,hm1,rfl,rfl,hwr⟩:=hrel
  subst hwr
  by_cases hlt:k<l.length
  ·have i0:=HH.o.index Kq k hlt
   obtain⟨d0,d1⟩:=jY HH.o (Below.refl _ _) k hlt
   obtain⟨x,hx⟩:=AV (l[k].len.1)
   obtain⟨y,hy⟩:=AV (l[k].part.1)
   have HW:Hid (vM l[k]=decide (1≤x∧x≤64∧0≤y∧y≤6)):=by rw[hx,hy];rfl
   have HS:Hid (m+x=Ag (l.take (k+1))):=by rw[Hid,EX _ _ hlt,hm.o,hx]
   rw[←hx] at d0
   rw[←hy] at d1
   clear hx hy
   by_cases h12:12≤k
   ·have HF:Hid (R=false):=by rw[Hid,HR.o,wK,decide_eq_false AL];rfl
    go_wp2_with fail
    go_ret
    exact⟨aJ HF.o.symm,Below.refl _ _⟩
   by_cases hq:1≤x∧x≤64∧0≤y∧y≤6
   ·obtain⟨q1,q2,q3,q4⟩:=hq
    have HA:Hid ((l.take (k+1)).all vM=true):=by rw[Hid,tH _ _ _ hlt,ha.o,HW.o,decide_eq_true ⟨q1,q2,q3,q4⟩];rfl
    go_wp2_with fail
    go_roundw
    case rel=>exact⟨k+1,m+x,HA.o,HS.o,by omega,by omega,by omega,by omega,rfl,by go_num,trivial⟩
    case measure=>simp[intOf];omega
   ·have HF:Hid (R=false):=by rw[Hid,HR.o,wK,xE _ _ _ hlt (by rw[HW.o,decide_eq_false hq])];simp
    have HQ:=AQ hq
    clear hq
    go_wp2_with fail
    all_goals first
     | (go_ret;exact⟨aJ HF.o.symm,Below.refl _ _⟩)
     | (exfalso;have:=HQ.o;omega)
  ·have hk2:k=l.length:=by omega
   have HA:Hid (l.all vM=true):=by have:=ha.o;rw[hk2,List.take_length] at this;exact this
   have HM:Hid (m=Ag l):=by rw[Hid,hm.o,hk2,List.take_length]
   have HK:=AQ hk2
   clear hk2
   go_wp2_with fail
   all_goals
    go_ret
    refine⟨aJ ?_,Below.refl _ _⟩
    rw[HR.o,wK,HA.o,←HM.o,Bool.true_and]
    have:=HK.o
    first |(rw[Bool.eq_iff_iff];simp only[Bool.and_eq_true,decide_eq_true_eq];omega) |(rw[decide_eq_false AL];rfl)
open Go Go.RowKit Go.Cit
theorem UU:iD Tryz.prog 40 5:=⟨Tryz.underlying40,fun w=>AB,by kernel_rfl⟩
theorem xP (w:World) (a:Option Addr) (l:List UInt8) (c:Nat) (h:Row w a l c) (hl:l.length≤1000000000):
 Calls Tryz.prog 163 #[.slice a l.length c] w fun e w'=>∃a' c',e= .returned (.slice a' l.length c')∧Cit.Own 5 w.heap.size w' a' l c'∧Below w.heap.size w w':=by
 cases a with
 |
  none=>
  have h0:=h.nil rfl
  have h1:=h.le
  obtain rfl:l=[]:=List.eq_nil_of_length_eq_zero AL
  subst h0
  show Calls Tryz.prog 163 #[.slice none 0 0] w _
  have hq:=fun w:World=>Lib.run_eql_slice_nil (P:=Tryz.prog) w 40 5 none 0 0 0 0 Tryz.underlying40
  go_enter Tryz.func163,Tryz.ntmps163
  go_wp2_with fail
  go_ret
  exact⟨none,0,rfl,Cit.Own.nil _ _ _,Below.refl _ _⟩
 |
  some x=>
  have hq:=fun w:World=>Lib.run_eql_slice_nil (P:=Tryz.prog) w 40 5 (some x) l.length c 0 0 Tryz.underlying40
  have B0:Below w.heap.size w (w.alloc (.cells #[] 5)):=(Below.refl _ _).alloc (Nat.le_refl _) _
  have O0:=mJ w #[] 5 [] rfl AO
  have HO:=AQ O0
  have HR:=AQ (h.stay B0)
  have HB:=AQ B0
  clear O0 B0 h
  go_enter Tryz.func163,Tryz.ntmps163
  go_wp2_with (first
   | ((with_reducible refine vP (o:=⟨some 7, .call _,_,_,_,_⟩) UU (.tmp 5) (.tmp 6) AA AA HO.o HR.o (by simp;omega) HB.o.size AA AA ?_);intro a2 c2 w2 hO2 hg2;rw[List.nil_append] at hO2;have HO2:=AQ hO2;have HB2:=AQ (HB.o.trans (grown_below hg2 HB.o.size (fun k hk=>(HO.o.aU hk).1)));clear hO2 hg2))
  go_ret
  exact⟨a2,c2,rfl,HO2.o,HB2.o⟩
theorem Oi (W:World) (x:dD) (B:Nat) (id:Int) (hc:W.cell? ⟨B,0,none⟩=some (.int .i64 id)):
 Calls Tryz.prog 240 (#[.agg #[.int .i64 x.id.1, .int .i64 x.reg.base.1, .int .i64 x.reg.size.1, .bool x.keep, .slice x.a x.img.length x.c]]++ #[.pointer (some ⟨B,0,none⟩)]) W fun e w'=>e= .returned (.bool (decide (x.id.1=id)))∧Below W.heap.size W w':=by
 have hB:=World.block_lt_of_cell? W _ hc
 have hne:B≠W.heap.size:=by have:B<W.heap.size:=hB;omega
 show Calls Tryz.prog 240 #[.agg #[.int .i64 x.id.1, .int .i64 x.reg.base.1, .int .i64 x.reg.size.1, .bool x.keep, .slice x.a x.img.length x.c], .pointer (some ⟨B,0,none⟩)] W _
 obtain⟨R,HR⟩:=AU (decide (x.id.1=id))
 rw[←HR.o]
 have HBL:Hid (∀C,Below W.heap.size W (W.alloc (.cells C 46))):=fun C=>(Below.refl _ W).alloc (Nat.le_refl _) _
 have c1:=keepA (.cells #[.int .i64 x.id.1, .int .i64 x.reg.base.1, .int .i64 x.reg.size.1, .bool x.keep, .slice x.a x.img.length x.c] 46) hc
 clear hc
 go_enter Tryz.func240,Tryz.ntmps240
 go_wp2_with fail
 go_ret
 exact⟨aJ (by rw[HR.o];rfl),HBL.o _⟩
structure bV (V:aS):Prop where
 win:V.ws.length≤100
 pts:V.ps.length≤100
 kX:V.cs.length≤100
 img:∀x∈V.ps,x.img.length≤10000
def WH:Pt:=⟨⟨0,by decide⟩,⟨⟨0,by decide⟩,⟨0,by decide⟩⟩,false,[]⟩
def iH (ps:List dD) (id:Int):Bool:=ps.any fun x=>decide (x.id.1=id)
def nD (ps:List dD) (id:Int):Pt:=((ps.find? fun x=>decide (x.id.1=id)).map dD.pt).getD WH
theorem NY {ps:List dD} {id:Int} (h:iH ps id=false):nD ps id=WH:=by
 have:ps.find? (fun x=>decide (x.id.1=id))=none:=by
  rw[List.find?_eq_none]
  intro x hx
  have:=List.any_eq_false.1 h x hx
  simpa using this
 rw[nD,this];rfl
theorem yV {α:Type} (p:α→Bool) (l:List α) (i:Nat) (hi:i<l.length) (h:iI p l=i):l.find? p=some l[i]:=by
 cases hf:l.findIdx? p with
 | none=>rw[iI,hf] at h;simp at h
 |
  some j=>
  rw[iI,hf] at h
  obtain rfl:j=i:=by simp at h;omega
  rw[List.findIdx?_eq_some_iff_getElem] at hf
  obtain⟨_,hp,hn⟩:=hf
  rw[List.find?_eq_some_iff_getElem]
  exact⟨hp,j,hi,rfl,fun k hk=>by simpa using hn k hk⟩
theorem yI {ps:List dD} {id:Int} (h:iI (fun x:dD=>decide (x.id.1=id)) ps= -1):iH ps id=false:=by
 rw[iH,←oK,h];rfl
theorem Gy {ps:List dD} {id:Int} {i:Nat} (h:iI (fun x:dD=>decide (x.id.1=id)) ps=i):iH ps id=true:=by
 rw[iH,←oK,h];simp
theorem rowP:gK Tryz.prog 46 5:=⟨⟨_,Tryz.underlying46,rfl⟩,by kernel_rfl⟩
theorem jH:gK Tryz.prog 26 3:=⟨⟨_,Tryz.underlying26,rfl⟩,by kernel_rfl⟩
theorem UJ {w:World} {b:Nat} {x0 x1 x2 x3 x4:Value} (y0 y1 y2 y3 y4:Value) {T:TypeId} {fr:Nat×Nat} (h:w.heap[b]? =some (.cells #[x0,x1,x2,x3,x4] T fr)):
 (((((w.setCell ⟨b,0,none⟩ y0).setCell ⟨b,1,none⟩ y1).setCell ⟨b,2,none⟩ y2).setCell ⟨b,3,none⟩ y3).setCell ⟨b,4,none⟩ y4).heap[b]? =some (.cells #[y0,y1,y2,y3,y4] T fr):=by
 simp[World.setCell,Array.getElem?_modify,h]
theorem qK (w:World) (b:Nat) (y0 y1 y2 y3 y4:Value):Save (· ≠b) w (((((w.setCell ⟨b,0,none⟩ y0).setCell ⟨b,1,none⟩ y1).setCell ⟨b,2,none⟩ y2).setCell ⟨b,3,none⟩ y3).setCell ⟨b,4,none⟩ y4):=
 ((((Save.set.trans Save.set).trans Save.set).trans Save.set).trans Save.set)
theorem ay {w:World} {b:Nat} {C:Array Value} {T:TypeId} {fr:Nat×Nat} (h:w.heap[b]? =some (.cells C T fr)) (i:Nat) {v:Value} (hv:C[i]? =some v):w.cell? ⟨b,i,none⟩=some v:=by rw[World.cell?,h];exact hv
theorem bH {w:World} {b:Nat} {C:Array Value} {T:TypeId} (h:w.heap[b]? =some (.cells C T (0,0))) (i:Nat):w.frozen? ⟨b,i,none⟩=false:=by rw[World.frozen?,h];simp
theorem Qd (w:World) (x y z:Value) (T:TypeId):(w.alloc (.cells #[x,y,z] T)).cell? ⟨w.heap.size,0,none⟩=some x∧(w.alloc (.cells #[x,y,z] T)).cell? ⟨w.heap.size,1,none⟩=some y∧(w.alloc (.cells #[x,y,z] T)).cell? ⟨w.heap.size,2,none⟩=some z:=by
 refine⟨?_, ?_, ?_⟩<;>(rw[World.cell?,heap_alloc_new];rfl)
theorem Dz (w:World) (V:aS) (h:V.At w) (hs:bV V) (id:Int):Calls Tryz.prog 212 #[.agg #[.slice V.wa V.ws.length V.wc, .slice V.pa V.ps.length V.pc, .slice V.ca V.cs.length V.cc], .int .i64 id] w fun e w'=>
 ∃x:dD,e= .returned (.tuple #[.agg #[.int .i64 x.id.1, .int .i64 x.reg.base.1, .int .i64 x.reg.size.1, .bool x.keep, .slice x.a x.img.length x.c], .bool (iH V.ps id)])∧x.pt=nD V.ps id∧Cit.Own 5 w.heap.size w' x.a x.img x.c∧Below w.heap.size w w':=by
 obtain⟨w3,hw3⟩:=AV (((w.alloc (.cells #[.slice V.wa V.ws.length V.wc, .slice V.pa V.ps.length V.pc, .slice V.ca V.cs.length V.cc] 26)).alloc (.cells #[.int .i64 id] 3)).alloc (.cells #[.int .i64 0, .int .i64 0, .int .i64 0, .bool false, .slice none 0 0] 46))
 have HB3:Hid (Below w.heap.size w w3):=by rw[Hid,hw3];exact(((Below.refl _ w).alloc (Nat.le_refl _) _).alloc AO _).alloc (by simp;omega) _
 have hsz3:w3.heap.size=w.heap.size+3:=by rw[hw3];simp
 have d0:w3.cell? ⟨w.heap.size,0,none⟩=some (.slice V.wa V.ws.length V.wc)∧w3.cell? ⟨w.heap.size,1,none⟩=some (.slice V.pa V.ps.length V.pc)∧w3.cell? ⟨w.heap.size,2,none⟩=some (.slice V.ca V.cs.length V.cc):=by
  obtain⟨a1,a2,a3⟩:=Qd w (.slice V.wa V.ws.length V.wc) (.slice V.pa V.ps.length V.pc) (.slice V.ca V.cs.length V.cc) 26
  rw[hw3]
  exact⟨keepA _ (keepA _ a1),keepA _ (keepA _ a2),keepA _ (keepA _ a3)⟩
 have d1:w3.cell? ⟨w.heap.size+1,0,none⟩=some (.int .i64 id):=by
  rw[hw3]
  refine keepA _ ?_
  rw[World.cell?,show w.heap.size+1=(w.alloc (.cells #[.slice V.wa V.ws.length V.wc, .slice V.pa V.ps.length V.pc, .slice V.ca V.cs.length V.cc] 26)).heap.size by simp,heap_alloc_new];rfl
 have d2:w3.heap[w.heap.size+1+1]? =some (.cells #[.int .i64 0, .int .i64 0, .int .i64 0, .bool false, .slice none 0 0] 46 (0,0)):=by
  rw[hw3,show w.heap.size+1+1=((w.alloc (.cells #[.slice V.wa V.ws.length V.wc, .slice V.pa V.ps.length V.pc, .slice V.ca V.cs.length V.cc] 26)).alloc (.cells #[.int .i64 id] 3)).heap.size by simp,heap_alloc_new]
 have hV:=h.stay HB3.o
 have HI:=AQ (Fg (p:=fun x=>decide (x.id.1=id)) 240 #[.pointer (some ⟨w.heap.size+1,0,none⟩)] (enters_of Tryz.func240 AB rfl) w3 V.pa V.ps V.pc hV.pts
  (fun W i hi hb=>(Oi W V.ps[i] (w.heap.size+1) id (keep hb d1)).mono fun e w' ⟨he,hb'⟩=>⟨he,hb.trans (hb'.mono hb.size)⟩))
 have HV:=AQ hV
 have HD1:=AQ d2
 clear h hV d1 d2
 rcases mV (fun x:dD=>decide (x.id.1=id)) V.ps with hf |⟨i,hi,hf,hp⟩
 ·have HH:=yI hf
  have HG:=AQ (NY HH)
  rw[HH]
  rw[hf] at HI
  clear hf HH
  go_enter Tryz.func212,Tryz.ntmps212
  go_wp2_with fail
  rw[←hw3]
  clear hw3
  refine(HI.o).mono ?_
  rintro e w4 ⟨rfl,hb4⟩
  have d0:=And.intro (keep hb4 d0.1) (And.intro (keep hb4 d0.2.1) (keep hb4 d0.2.2))
  have e2:w4.heap[w.heap.size+1+1]? =some (.cells #[.int .i64 0, .int .i64 0, .int .i64 0, .bool false, .slice none 0 0] 46 (0,0)):=(hb4.block _ (by rw[hsz3];omega)).trans HD1.o
  have HV4:=AQ (HV.o.stay hb4)
  have HB4:=AQ (HB3.o.trans (hb4.mono HB3.o.size))
  have hsz4:w.heap.size+3≤w4.heap.size:=by rw[←hsz3];exact hb4.size
  clear hb4 HI
  obtain⟨d0,d0',d0''⟩:=d0
  have g0:=ay e2 0 rfl
  have g1:=ay e2 1 rfl
  have g2:=ay e2 2 rfl
  have g3:=ay e2 3 rfl
  have g4:=ay e2 4 rfl
  have f0:∀i,w4.frozen? ⟨w.heap.size+1+1,i,none⟩=false:=bH e2
  go_wp2_with fail
  refine bodyPost_ret (iY rowP rfl (by rfl) (UJ _ _ _ _ _ e2) rfl) rfl ⟨⟨⟨0,by decide⟩,⟨⟨0,by decide⟩,⟨0,by decide⟩⟩,false,none,[],0⟩,rfl, ?_,Cit.Own.nil _ _ _, ?_⟩
  ·rw[HG.o];rfl
  ·exact HB4.o.trans ((qK _ _ _ _ _ _ _).below HB4.o.size (fun k hk=>by omega))
 ·have HH:=Gy hf
  have HX:=HV.o.img V.ps[i] (List.getElem_mem hi)
  have HG:Hid (nD V.ps id=V.ps[i].pt):=by rw[Hid,nD,yV _ V.ps i hi hf];rfl
  have HL:V.ps[i].img.length≤10000:=hs.img _ (List.getElem_mem hi)
  have HPL:=HV.o.pts.bU
  rw[HH]
  rw[hf] at HI
  clear hf HH hp
  go_enter Tryz.func212,Tryz.ntmps212
  go_wp2_with fail
  rw[←hw3]
  clear hw3
  refine(HI.o).mono ?_
  rintro e w4 ⟨rfl,hb4⟩
  have d0:=And.intro (keep hb4 d0.1) (And.intro (keep hb4 d0.2.1) (keep hb4 d0.2.2))
  have e2:w4.heap[w.heap.size+1+1]? =some (.cells #[.int .i64 0, .int .i64 0, .int .i64 0, .bool false, .slice none 0 0] 46 (0,0)):=(hb4.block _ (by rw[hsz3];omega)).trans HD1.o
  have HV4:=AQ (HV.o.stay hb4)
  have HB4:=AQ (HB3.o.trans (hb4.mono HB3.o.size))
  have hsz4:w.heap.size+3≤w4.heap.size:=by rw[←hsz3];exact hb4.size
  clear hb4 HI
  obtain⟨d0,d0',d0''⟩:=d0
  have HX:=AQ (HV4.o.img V.ps[i] (List.getElem_mem hi))
  have i0:=HV4.o.pts.index yH i hi
  obtain⟨u0,u1,u2,u3,u4⟩:=bK HV4.o.pts (Below.refl _ _) i hi
  obtain⟨x,hx⟩:∃x:dD,Hid (x=V.ps[i]):=⟨V.ps[i],rfl⟩
  rw[←hx.o] at u0 u1 u2 u3 u4 HX HL HG
  have HN:Hid ((w4.alloc (.cells #[.int .i64 0, .int .i64 0, .int .i64 0, .bool false, .slice none 0 0] 46)).heap[w4.heap.size]? =some (.cells #[.int .i64 0, .int .i64 0, .int .i64 0, .bool false, .slice none 0 0] 46 (0,0))):=heap_alloc_new _ _
  have HE2:=AQ e2
  clear e2
  go_wp2_with ((with_reducible refine au (o:=⟨none, .store _ (.tmp 7) (.tmp 19),_,_,_,_⟩) rowP (.tmp 7) (.tmp 19) AA AA AA AA AA HN.o AA AA AA ?_);intro w5 hb5 hS5;have k4:=ay hb5 4 rfl;have HB5:=AQ hb5;have HS5:=AQ hS5;clear hb5 hS5)
  have hsz5:w4.heap.size+1≤w5.heap.size:=by have:=HS5.o.size;rwa[World.size_alloc] at this
  have B45:Below w4.heap.size w4 w5:=((Below.refl _ w4).alloc (Nat.le_refl _) _).trans (HS5.o.below AO (fun k hk=>by omega))
  have HCL:=AQ (xP w5 x.a x.img x.c (HX.o.stay B45) AL)
  have HB45:=AQ B45
  clear B45
  go_wp2_with fail
  refine(HCL.o).mono ?_
  rintro e w6 ⟨a6,c6,rfl,hO6,hb6⟩
  have hsz6:=hb6.size
  have e6:w6.heap[w4.heap.size]? =_:=(hb6.block _ AL).trans HB5.o
  have r6:w6.heap[w.heap.size+1+1]? =some (.cells #[.int .i64 0, .int .i64 0, .int .i64 0, .bool false, .slice none 0 0] 46 (0,0)):=(hb6.block _ AL).trans ((HB45.o.block _ AL).trans HE2.o)
  have k0:=ay e6 0 rfl
  have k1:=ay e6 1 rfl
  have k2:=ay e6 2 rfl
  have k3:=ay e6 3 rfl
  have k4:=ay e6 4 rfl
  have f6:=bH e6
  have HO6:=AQ hO6
  have HB6:=AQ (HB4.o.trans ((HB45.o.mono HB4.o.size).trans (hb6.mono (by have:=HB4.o.size;have:=HB45.o.size;omega))))
  have HR7:Hid ((w6.setCell ⟨w4.heap.size,4,none⟩ (.slice a6 x.img.length c6)).heap[w.heap.size+1+1]? =some (.cells #[.int .i64 0, .int .i64 0, .int .i64 0, .bool false, .slice none 0 0] 46 (0,0))):=(Below.heap_setCell _ _ _ _ (by show w.heap.size+1+1≠w4.heap.size;omega)).trans r6
  clear hO6 hb6 e6 r6 HCL
  go_wp2_with ((with_reducible refine au (o:=⟨none, .store _ (.tmp 4) (.tmp 24),_,_,_,_⟩) rowP (.tmp 4) (.tmp 24) AA AA AA AA AA HR7.o AA AA AA ?_);intro w7 hb7 hS7;have HB7:=AQ hb7;have HS7:=AQ hS7;clear hb7 hS7)
  refine bodyPost_ret (iY rowP rfl (by rfl) HB7.o rfl) rfl ⟨⟨x.id,x.reg,x.keep,a6,x.img,c6⟩,rfl, ?_, ?_, ?_⟩
  ·rw[HG.o];rfl
  ·refine((HO6.o.save (S:=(· ≠w4.heap.size)) Save.set (fun g hg=> ?_)).save HS7.o (fun g hg=> ?_)).low (by have:=HB4.o.size;omega)
   ·have:=(HO6.o.aU hg).1;omega
   ·have:=(HO6.o.aU hg).1;omega
  ·exact(HB6.o.setCell (p:=⟨w4.heap.size,4,none⟩) (by have:=HB4.o.size;exact this) _).trans (HS7.o.below (by simp[World.setCell];exact HB6.o.size) (fun k hk=>by omega))
theorem zl (w:World) (V:aS) (h:V.At w) (hs:bV V) (id:Int):Calls Tryz.prog 249 #[.agg #[.slice V.wa V.ws.length V.wc, .slice V.pa V.ps.length V.pc, .slice V.ca V.cs.length V.cc], .int .i64 id] w fun e w'=>
 e= .returned (.bool (iH V.ps id))∧Below w.heap.size w w':=by
 have B0:Below w.heap.size w (w.alloc (.cells #[.slice V.wa V.ws.length V.wc, .slice V.pa V.ps.length V.pc, .slice V.ca V.cs.length V.cc] 26)):=(Below.refl _ w).alloc (Nat.le_refl _) _
 have HC:=AQ (Dz _ V (h.stay B0) hs id)
 have HB0:=AQ B0
 obtain⟨R,HR⟩:=AU (iH V.ps id)
 rw[←HR.o] at HC ⊢
 clear h B0
 go_enter Tryz.func249,Tryz.ntmps249
 go_wp2_with fail
 refine(HC.o).mono ?_
 rintro e w2 ⟨x,rfl,hx,hO,hb2⟩
 have HB2:=AQ (HB0.o.trans (hb2.mono HB0.o.size))
 clear hx hO hb2 HC
 go_wp2_with fail
 go_ret
 exact⟨rfl,HB2.o.alloc HB2.o.size _⟩
theorem qm (w:World) (V:aS) (h:V.At w) (id:Int):Calls Tryz.prog 218 #[.agg #[.slice V.wa V.ws.length V.wc, .slice V.pa V.ps.length V.pc, .slice V.ca V.cs.length V.cc], .int .i64 id] w fun e w'=>
 e= .returned (.int .i64 (iI (fun x:dD=>decide (x.id.1=id)) V.ps))∧Below w.heap.size w w':=by
 obtain⟨R,HR⟩:=AU (iI (fun x:dD=>decide (x.id.1=id)) V.ps)
 rw[←HR.o]
 obtain⟨w0,hw0⟩:=AV (w.alloc (.cells #[.slice V.wa V.ws.length V.wc, .slice V.pa V.ps.length V.pc, .slice V.ca V.cs.length V.cc] 26))
 have B0:Below w.heap.size w w0:=by rw[hw0];exact(Below.refl _ w).alloc (Nat.le_refl _) _
 obtain⟨d0,d1,d2⟩:=Qd w (.slice V.wa V.ws.length V.wc) (.slice V.pa V.ps.length V.pc) (.slice V.ca V.cs.length V.cc) 26
 rw[←hw0] at d0 d1 d2
 have HB0:=AQ B0
 have HV:=AQ (h.stay B0)
 have hlen:=h.pts.bU
 clear h B0
 go_enter Tryz.func218,Tryz.ntmps218
 go_wp2_with fail
 rw[←hw0]
 clear hw0
 go_loopw [5] (fun i wr=>∃(k:Nat),Hid (∀j (hj:j<V.ps.length),j<k→decide (V.ps[j].id.1=id)=false)∧k≤V.ps.length∧i= .int .i64 k∧Below w0.heap.size w0 wr) (fun i _=>V.ps.length-(intOf i).toNat)
 case atStart=>exact⟨0,fun j hj h=>by omega,by omega,rfl,Below.refl _ _⟩
 case round=>
  obtain⟨k,ha,hk,rfl,B⟩:=hrel
  have d0:=keep B d0
  have d1:=keep B d1
  have d2:=keep B d2
  by_cases hlt:k<V.ps.length
  ·have i0:=HV.o.pts.index yH k hlt
   obtain⟨u0,u1,u2,u3,u4⟩:=bK HV.o.pts B k hlt
   have HB:=AQ B
   clear B
   by_cases hq:V.ps[k].id.1=id
   ·have HF:Hid (R=k):=by rw[Hid,HR.o];exact uY _ _ k hlt ha.o (by simpa using hq)
    go_wp2_with fail
    all_goals
     go_ret
     exact⟨dB HF.o.symm,HB0.o.trans (HB.o.mono HB0.o.size)⟩
   ·have HN:Hid (∀j (hj:j<V.ps.length),j<k+1→decide (V.ps[j].id.1=id)=false):=fun j hj h=>by
     rcases Nat.lt_or_ge j k with h1 |h1
     ·exact ha.o j hj h1
     ·obtain rfl:j=k:=by omega
      simpa using hq
    go_wp2_with fail
    go_roundw
    case rel=>exact⟨k+1,HN.o,by omega,by go_num,HB.o⟩
    case measure=>simp[intOf];omega
  ·have HF:Hid (R= -1):=by rw[Hid,HR.o];exact rW _ _ (fun j hj=>ha.o j hj AL)
   go_wp2_with fail
   go_ret
   exact⟨dB HF.o.symm,HB0.o.trans (B.mono HB0.o.size)⟩
theorem qX (w:World) (V:aS) (h:V.At w) (id:Int):Calls Tryz.prog 214 #[.agg #[.slice V.wa V.ws.length V.wc, .slice V.pa V.ps.length V.pc, .slice V.ca V.cs.length V.cc], .int .i64 id] w fun e w'=>
 e= .returned (.bool (iH V.ps id))∧Below w.heap.size w w':=by
 have B0:Below w.heap.size w (w.alloc (.cells #[.slice V.wa V.ws.length V.wc, .slice V.pa V.ps.length V.pc, .slice V.ca V.cs.length V.cc] 26)):=(Below.refl _ w).alloc (Nat.le_refl _) _
 have HC:=AQ (qm _ V (h.stay B0) id)
 have HB0:=AQ B0
 obtain⟨S,HS⟩:=AU (iH V.ps id)
 obtain⟨R,HR⟩:=AU (iI (fun x:dD=>decide (x.id.1=id)) V.ps)
 rw[←HR.o] at HC
 rw[←HS.o]
 clear h B0
 go_enter Tryz.func214,Tryz.ntmps214
 go_wp2_with fail
 refine(HC.o).mono ?_
 rintro e w2 ⟨rfl,hb2⟩
 go_wp2_with fail
 go_ret
 exact⟨aJ (by rw[HS.o,iH,←oK,←HR.o]),HB0.o.trans (hb2.mono HB0.o.size)⟩
end Go.Proofs.YtlholdllibghbaaGreat
