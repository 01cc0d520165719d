/- Texts of the proof, one behind the other: ManCan, Line, LineX, WrLine. No condition but those that each names. -/
import Derived.Test.YtlholdllibghbaaGreatMan
import Derived.Test.YtlholdllibghbaaGreatG15
import Derived.Test.YtlholdllibghbaaGreatG12
import Derived.Test.YtlholdllibghbaaGreatG16
import Derived.Test.YtlholdllibghbaaGreatKit
set_option maxRecDepth 100000
set_option maxHeartbeats 8000000
namespace Go.Proofs.YtlholdllibghbaaGreat
open Go Go.RowKit Go.Cit
def jK (M:aV):Bool:=(((decide (1≤M.ver.1) && decide (M.ver.1≤1099511627776)) && decide (1≤M.trial.1)) && decide (M.trial.1≤8)) && nJ M.cfg
theorem eY.d0 {w:World} {g:Nat} {M:aV} (h:eY w g M):w.cell? ⟨g,34,none⟩=some (.slice M.cfg.wa M.cfg.ws.length M.cfg.wc):=h.cfgs 0 AP
theorem eY.d1 {w:World} {g:Nat} {M:aV} (h:eY w g M):w.cell? ⟨g,35,none⟩=some (.slice M.cfg.pa M.cfg.ps.length M.cfg.pc):=h.cfgs 1 AP
theorem eY.d2 {w:World} {g:Nat} {M:aV} (h:eY w g M):w.cell? ⟨g,36,none⟩=some (.slice M.cfg.ca M.cfg.cs.length M.cfg.cc):=h.cfgs 2 AP
theorem jM (w:World) (M:aV) (h:M.At w):Calls Tryz.prog 17 #[.agg (cM M)] w fun e w'=>e= .returned (.bool (jK M))∧Below w.heap.size w w':=by
 obtain⟨C,hC⟩:=AU (cM M)
 obtain⟨w0,hw0⟩:=AV (w.alloc (.cells C 55))
 have B0:Below w.heap.size w w0:=by rw[hw0];exact(Below.refl _ w).alloc (Nat.le_refl _) _
 have hI:eY w0 w.heap.size M:=by rw[hw0,hC.o];exact eY.new w h
 have c0:=hI.ver
 have c1:=hI.trial
 have d0:=hI.d0
 have d1:=hI.d1
 have d2:=hI.d2
 obtain⟨R,hR⟩:=AU (jK M)
 obtain⟨k,hk⟩:=AU (nJ M.cfg)
 have hRK:Hid (R=((((decide (1≤M.ver.1) && decide (M.ver.1≤1099511627776)) && decide (1≤M.trial.1)) && decide (M.trial.1≤8)) && k)):=by rw[Hid,hR.o,hk.o];rfl
 have hc:=xA w0 M.cfg (h.cfg.stay B0)
 rw[←hk.o] at hc
 have HC:=AQ hc
 have HB0:=AQ B0
 rw[←hR.o,←hC.o]
 have f0:=SI w.heap.size
 have f2:=mf2 w.heap.size
 have f3:=OQ w.heap.size
 clear hc hI h B0
 go_enter Tryz.func17,Tryz.ntmps17
 go_upto_region 1 with fail
 rw[←hw0]
 clear hw0
 go_wp2_with fail
 all_goals first
  | (
   go_ret
   refine⟨aJ ?_,HB0.o⟩
   rw[hRK.o]
   clear HC HB0 hRK hR hC hk
   first
    | (simp only[*,decide_true,decide_false,Bool.and_true,Bool.true_and,Bool.and_false,Bool.false_and];done)
    | (simp;intros;omega))
  | (
   refine HC.o.mono ?_
   rintro e w1 ⟨rfl,hb1⟩
   go_wp2_with fail
   go_ret
   refine⟨aJ ?_,HB0.o.trans (hb1.mono HB0.o.size)⟩
   rw[hRK.o]
   simp only[*,decide_true,Bool.true_and])
end Go.Proofs.YtlholdllibghbaaGreat
namespace Go.Cit
open Go Go.RowKit
section
variable {P:Program} {ops:Array Oper} {Q:Exit→Act→World→Prop}
def EI (ops:Array Oper) (idx:List Nat) (j d:Nat):Bool:=match idx[j]? with |some i=>(match ops[i]? with |some o=>decide (o.dst=some d) |none=>false) |none=>false
def Kq (ops:Array Oper) (idx:List Nat) (d:Nat):Bool:=(List.range idx.length).any fun j=>EI ops idx j d
theorem Fq {idx:List Nat} {j i d:Nat} {o:Oper} (hj:idx[j]? =some i) (ho:ops[i]? =some o) (hd:o.dst=some d):Kq ops idx d=true:=
 List.any_eq_true.2 ⟨j,List.mem_range.2 (List.getElem?_eq_some_iff.1 hj).1,by unfold EI;rw[hj];dsimp only;rw[ho];simp[hd]⟩
theorem sH {idx:List Nat} {j d:Nat} (h:EI ops idx j d=true):∃i o,idx[j]? =some i∧ops[i]? =some o∧o.dst=some d:=by
 unfold EI at h
 split at h
 ·rename_i i hi
  split at h
  ·rename_i o ho
   exact⟨i,o,hi,ho,by simpa using h⟩
  ·exact absurd h AP
 ·exact absurd h AP
end
end Go.Cit
namespace Go.Cit
open Go Go.RowKit
section
variable {P:Program} {ops:Array Oper} {Q:Exit→Act→World→Prop}
def oq (vs:List Value) (j:Nat):Value:=vs.getD j undef
theorem Qb {vs:List Value} {v:Value} {j:Nat} (h:j<vs.length):oq (vs++ [v]) j=oq vs j:=by
 unfold oq;rw[List.getD_eq_getElem?_getD,List.getD_eq_getElem?_getD,List.getElem?_append_left h]
def QV (ops:Array Oper) (idx:List Nat) (m:Nat→Nat):Bool:=(List.range ops.size).all fun n=>decide (n∈idx) || match ops[n]? with
 | some o=>(match o.dst with |some d=>decide (m d=0) || (match idx[m d-1]? with |some i=>iq ops ops.size n i |none=>false) |none=>true)
 | none=>true
theorem KY {idx:List Nat} {m:Nat→Nat} (h:QV ops idx m=true) {n d:Nat} {o:Oper} (ho:ops[n]? =some o) (hn:n ∉ idx) (hd:o.dst=some d):m d=0∨∃i,idx[m d-1]? =some i∧iq ops ops.size n i=true:=by
 have h1:=List.all_eq_true.1 h n (List.mem_range.2 (Array.getElem?_eq_some_iff.1 ho).1)
 rw[ho] at h1
 dsimp only at h1
 rw[hd] at h1
 simp only[Bool.or_eq_true,decide_eq_true_eq] at h1
 rcases h1 with h1 |h1 |h1
 ·exact absurd h1 hn
 ·exact .inl h1
 ·split at h1
  ·rename_i i hi;exact .inr ⟨i,hi,h1⟩
  ·exact absurd h1 AP
structure uo (ops:Array Oper) (X:(Nat→Value)→Nat→Value) (Y:Nat→Value) (olds idx:List Nat) (o:Oper) (a:Act) (vs:List Value):Prop where
 slot:∀d,iC ops o d=true→Kq ops idx d=false→a.eval (.tmp d)=X (oq vs) d
 old:∀d,(jc ops d && olds.contains d)=true→a.eval (.tmp d)=Y d
 line:∀(j d:Nat),iC ops o d=true→EI ops idx j d=true→j<vs.length∧a.eval (.tmp d)=oq vs j
 lit:∀v,a.eval (.const v)=v
 fn:∀f,a.eval (.func f)= .func (.func f) #[] #[]
theorem uo.s {ops:Array Oper} {X:(Nat→Value)→Nat→Value} {Y:Nat→Value} {olds idx:List Nat} {o:Oper} {a:Act} {vs:List Value} (h:uo ops X Y olds idx o a vs) (d:Nat) (e:iC ops o d=true:=by kernel_rfl) (e2:Kq ops idx d=false:=by kernel_rfl):a.eval (.tmp d)=X (oq vs) d:=h.slot d e e2
theorem uo.o {ops:Array Oper} {X:(Nat→Value)→Nat→Value} {Y:Nat→Value} {olds idx:List Nat} {o:Oper} {a:Act} {vs:List Value} (h:uo ops X Y olds idx o a vs) (d:Nat) (e:(jc ops d && olds.contains d)=true:=by kernel_rfl):a.eval (.tmp d)=Y d:=h.old d e
def JL (P:Program) (ops:Array Oper) (X:(Nat→Value)→Nat→Value) (idx:List Nat) (St:List Value→World→Prop) (n:Nat) (o:Oper) (a:Act) (vs:List Value):Prop:=
 Wanted ops o a∧
 (
  (∃j,idx[j]? =some n∧(vs.length=j→∀wx,St vs wx→bQ P (fun v w'=>St (vs++ [v]) w') ((execOp a.eval o).run P wx)))∨
  (n ∉ idx∧((∀j i,idx[j]? =some i→iq ops ops.size n i=true→j<vs.length)→(∀j i,idx[j]? =some i→iq ops ops.size i n=true→vs.length≤j)→vs.length≤idx.length→∀wx,St vs wx→bQ P (fun v w'=>St vs w'∧Ih (X (oq vs)) o v) ((execOp a.eval o).run P wx))))
def JD (ops:Array Oper) (X:(Nat→Value)→Nat→Value) (m:Nat→Nat) (idx:List Nat) (St:List Value→World→Prop) (δ:Nat→Bool) (a:Act) (wx:World):Prop:=
 ∃vs:List Value,vs.length≤idx.length∧(∀j i,idx[j]? =some i→(δ i=true↔j<vs.length))∧(∀(j d:Nat) (v:Value),vs[j]? =some v→EI ops idx j d=true→a.eval (.tmp d)=v)∧St vs wx∧
  ∀(n d:Nat) (o:Oper),ops[n]? =some o→δ n=true→n ∉ idx→o.dst=some d→a.eval (.tmp d)=X (oq vs) d∧m d≤vs.length
theorem qo {id:Nat} {a0:Act} {w:World} (X:(Nat→Value)→Nat→Value) (m:Nat→Nat) (Y:Nat→Value) (olds:List Nat) (idx:List Nat) (St:List Value→World→Prop)
 (hm:P.follows .mixedOrders=true) (hs:jg ops a0.tmps.size=true) (hc:chainB ops idx=true) (hh:QV ops idx m=true) (hY:zf a0 Y olds)
 (hX:∀d (f g:Nat→Value),(∀j,j<m d→f j=g j)→X f d=X g d)
 (h0:∀w',Alike w w'→St [] w')
 (hop:dB (fun n o=>∀a vs,uo ops X Y olds idx o a vs→JL P ops X idx St n o a vs) ops.toList 0)
 (hend:∀a vs wx,vs.length=idx.length→St vs wx→fF ops a0 a→(∀d,jc ops d=false→Kq ops idx d=false→a.eval (.tmp d)=X (oq vs) d)→(∀(j d:Nat),EI ops idx j d=true→a.eval (.tmp d)=oq vs j)→Q .normal a wx):
 (Code.region id ops true).wp P Q a0 w:=by
 have hput:∀ {a:Act} {i:Nat} {o:Oper} {v:Value} {vs:List Value},ops[i]? =some o→(∀j,idx[j]? =some i→vs.length≤j)→
  (∀(j d:Nat) (u:Value),vs[j]? =some u→EI ops idx j d=true→a.eval (.tmp d)=u)→∀(j d:Nat) (u:Value),vs[j]? =some u→EI ops idx j d=true→(a.put o.dst v).eval (.tmp d)=u:=by
  intro a i o v vs ho hi h j d u hu hd
  obtain⟨i',o',hj,ho',hd'⟩:=sH hd
  have hne:i≠i':=fun e=>by
   subst e
   have:=hi j hj
   have:=(List.getElem?_eq_some_iff.1 hu).1
   omega
  refine Eq.trans (bH a o.dst d v (fun e=> ?_)) (h j d u hu hd)
  rcases Nat.lt_or_gt_of_ne hne with hlt |hlt
  ·exact(bG hs ho').2.2 i o d ho hlt hd' e
  ·exact(bG hs ho).2.2 i' o' d ho' hlt e hd'
 have hput2:∀ {a:Act} {i n d:Nat} {o o2:Oper} {v:Value},ops[i]? =some o→ops[n]? =some o2→i≠n→o2.dst=some d→(a.put o.dst v).eval (.tmp d)=a.eval (.tmp d):=by
  intro a i n d o o2 v ho ho2 hne hd
  refine bH a o.dst d v (fun e=> ?_)
  rcases Nat.lt_or_gt_of_ne hne with hlt |hlt
  ·exact(bG hs ho2).2.2 i o d ho hlt hd e
  ·exact(bG hs ho).2.2 n o2 d ho2 hlt e hd
 refine mJ (JD ops X m idx St) (fun _ _ _=>True) (fun _ _ _=>True) hm hs (fun w' hb hh=>⟨[],Nat.zero_le _,fun j i _=>⟨fun h=>absurd h AO,fun h=>absurd h (Nat.not_lt_zero _)⟩,fun j d v hv=>by simp at hv,h0 w' ⟨hb,hh⟩,fun n d o _ h=>absurd h AO⟩) ?_ ?_ ?_
 ·intro δ i j o v a w1 w2 _ _ _ _ _ _ _ _
  rcases hd:o.dst with _ |d
  ·exact eU hd _ _
  ·rw[fZ hd];trivial
 ·have hn:∀(os:List Oper) (n:Nat),(∀j,os[j]? =ops[n+j]?)→dB (fun n o=>∀a vs,uo ops X Y olds idx o a vs→JL P ops X idx St n o a vs) os n→
   dB (fun n o=>∀δ a wx,oQ ops (JD ops X m idx St) (fun _ _ _=>True) a0 n o δ a wx→Wanted ops o a∧bQ P (fun v w'=>True∧JD ops X m idx St (upd δ n) (a.put o.dst v) w'∧tyP (fun _ _ _=>True) o v w') ((execOp a.eval o).run P wx)) os n:=by
   intro os
   induction os with
   | nil=>intro n _ _;exact trivial
   |
    cons o os ih=>
    intro n hos hall
    refine⟨?_,ih (n+1) (fun j=>by have:=hos (j+1);simpa[Nat.add_assoc,Nat.add_comm 1 j] using this) hall.2⟩
    have ho:ops[n]? =some o:=by simpa using (hos 0).symm
    intro δ a wx hk
    have htriv:∀(v:Value) (w':World),tyP (fun _ _ _=>True) o v w':=fun v w'=>by
     rcases hd:o.dst with _ |d
     ·exact eU hd _ _
     ·rw[fZ hd];trivial
    obtain⟨vs,hk1,hk2,hk3,hk4,hk5⟩:=hk.inv
    have hwait:∀d,iC ops o d=true→∃i p,ops[i]? =some p∧p.dst=some d∧δ i=true:=by
     intro d hd
     unfold iC at hd
     rw[Array.any_eq_true] at hd
     obtain⟨k,hkk,he⟩:=hd
     rw[Bool.and_eq_true] at he
     obtain⟨hb,hp⟩:=he
     split at hp
     ·rename_i p hpp
      simp only[decide_eq_true_eq] at hp
      have h1:=hk.next n o ho (upd_same _ _) _ (Array.getElem_mem hkk) hb
      have h2:=(bG hs ho).1 _ (Array.getElem_mem hkk) hb
      rw[aA _ AL] at h1
      exact⟨_,p,hpp,hp,h1⟩
     ·exact absurd hp AP
    have hkt:uo ops X Y olds idx o a vs:=⟨fun d hd hl=>by
     obtain⟨i,p,hp,hpd,hi⟩:=hwait d hd
     refine(hk5 i d p hp hi (fun hmem=> ?_) hpd).1
     obtain⟨j,hj,hjj⟩:=List.mem_iff_getElem.1 hmem
     rw[Fq (j:=j) (i:=i) (by rw[List.getElem?_eq_getElem hj,hjj]) hp hpd] at hl
     exact absurd hl AP,
     fun d hd=>by
      rw[Bool.and_eq_true] at hd
      exact(hk.old d hd.1).trans (hY.get d hd.2),
     fun j d hd hj=>by
      obtain⟨i,p,hp,hpd,hi⟩:=hwait d hd
      obtain⟨i',o',hj',ho',hd'⟩:=sH hj
      have e:i=i':=by
       rcases Nat.lt_trichotomy i i' with hlt |he |hlt
       ·exact absurd hpd ((bG hs ho').2.2 i p d hp hlt hd')
       ·exact he
       ·exact absurd hd' ((bG hs hp).2.2 i' o' d ho' hlt hpd)
      subst e
      have hlt:=(hk2 j i hj').1 hi
      refine⟨hlt, ?_⟩
      rw[hk3 j d vs[j] (List.getElem?_eq_getElem hlt) hj]
      unfold oq
      rw[List.getD_eq_getElem?_getD,List.getElem?_eq_getElem hlt];rfl,hk.lit,hk.fn⟩
    obtain⟨hw,h⟩:=hall.1 a vs hkt
    refine⟨hw, ?_⟩
    rcases h with⟨j,hj,h⟩ |⟨hnn,h⟩
    ·have hkj:vs.length=j:=by
      have h1:¬j<vs.length:=fun hlt=>by
       have:=(hk2 j n hj).2 hlt
       rw[hk.yet] at this;exact absurd this AP
      have h2:j≤vs.length:=by
       rcases j with _ |j'
       ·exact Nat.zero_le _
       ·have hlt:=(List.getElem?_eq_some_iff.1 hj).1
        have hj':idx[j']? =some idx[j']:=List.getElem?_eq_getElem AL
        have hneed:=(kJ hc hj).2 j' _ rfl hj'
        have hdone:=hk.next.needs ops.size n _ hneed (upd_same _ _)
        have hne:=mX hs _ _ _ hneed
        rw[aA _ AL] at hdone
        exact(hk2 j' _ hj').1 hdone
      omega
     refine rM (fun v w' hv=>⟨trivial,⟨vs++ [v], ?_,fun j2 i2 hj2=> ?_, ?_,hv, ?_⟩,htriv _ _⟩) (h hkj wx hk4)
     ·have:=(List.getElem?_eq_some_iff.1 hj).1
      rw[List.length_append,List.length_singleton];omega
     ·rw[List.length_append,List.length_singleton]
      by_cases he:n=i2
      ·subst he
       rw[upd_same]
       have:=xw hs hc hj hj2
       exact⟨fun _=>by omega,fun _=>rfl⟩
      ·rw[aA _ he,hk2 j2 i2 hj2]
       have:j2≠j:=fun e=>he (by rw[e,hj] at hj2;exact Option.some.inj hj2)
       omega
     ·intro j2 d u hu hd
      rw[List.getElem?_append] at hu
      split at hu
      ·exact hput ho (fun j3 hj3=>by have:=xw hs hc hj hj3;omega) hk3 j2 d u hu hd
      ·obtain⟨i2,o2,hj2,ho2,hd2⟩:=sH hd
       have e0:j2-vs.length=0:=by
        have:=(List.getElem?_eq_some_iff.1 hu).1
        simp at this;omega
       have ej:j2=j:=by omega
       rw[e0] at hu
       obtain rfl:v=u:=by simpa using hu
       subst ej
       rw[hj] at hj2
       obtain rfl:n=i2:=Option.some.inj hj2
       rw[ho] at ho2
       obtain rfl:o=o2:=Option.some.inj ho2
       rw[hd2]
       exact dM _ _ _ (by rw[hk.same.2.1];exact(bG hs ho).2.1 d hd2)
     ·intro n2 d o2 ho2 hδ hn2 hd2
      have hne:n≠n2:=fun e=>hn2 (by rw[←e];exact List.mem_of_getElem? hj)
      rw[aA _ hne] at hδ
      obtain⟨h1,h2⟩:=hk5 n2 d o2 ho2 hδ hn2 hd2
      refine⟨?_,by rw[List.length_append,List.length_singleton];omega⟩
      rw[hput2 ho ho2 hne hd2,h1]
      exact hX d _ _ fun j3 hj3=>(Qb AL).symm
    ·have hneeds:∀j i,idx[j]? =some i→iq ops ops.size n i=true→j<vs.length:=fun j i hj hn=>(hk2 j i hj).1 (by
      have hdone:=hk.next.needs ops.size n i hn (upd_same _ _)
      have hne:=mX hs _ _ _ hn
      rwa[aA _ AL] at hdone)
     refine rM (fun v w' hv=> ?_) (h hneeds (fun j i hj hn=> ?_) hk1 wx hk4)
     ·obtain⟨hst,hv⟩:=hv
      refine⟨trivial,⟨vs,hk1,fun j2 i2 hj2=>by
       rw[aA _ (show n≠i2 from fun e=>hnn (by rw[e];exact List.mem_of_getElem? hj2))];exact hk2 j2 i2 hj2,hput ho (fun j3 hj3=>absurd (List.mem_of_getElem? hj3) hnn) hk3,hst, ?_⟩,htriv _ _⟩
      intro n2 d o2 ho2 hδ hn2 hd2
      by_cases hne:n=n2
      ·subst hne
       rw[ho] at ho2
       obtain rfl:o=o2:=Option.some.inj ho2
       refine⟨?_, ?_⟩
       ·rw[hd2]
        refine(dM _ _ _ (by rw[hk.same.2.1];exact(bG hs ho).2.1 d hd2)).trans ?_
        unfold Ih at hv
        rw[hd2] at hv
        exact hv
       ·rcases KY hh ho hnn hd2 with h1 |⟨i,h1,h2⟩
        ·omega
        ·have:=hneeds _ i h1 h2;omega
      ·rw[aA _ hne] at hδ
       rw[hput2 ho ho2 hne hd2]
       exact hk5 n2 d o2 ho2 hδ hn2 hd2
     ·have hy:=hk.closed.yet _ _ _ hn hk.yet
      rcases Nat.lt_or_ge j vs.length with hlt |hge
      ·rw[(hk2 j i hj).2 hlt] at hy;exact absurd hy AP
      ·exact hge
  exact hn ops.toList 0 (fun j=>by simp) hop
 ·intro δ a wx hall hc' hsame _
  obtain⟨vs,hk1,hk2,hk3,hk4,hk5⟩:=hc'
  have hlen:vs.length=idx.length:=by
   rcases Nat.lt_or_ge vs.length idx.length with hlt |hge
   ·have hj:idx[vs.length]? =some idx[vs.length]:=List.getElem?_eq_getElem hlt
    have:=(hk2 _ _ hj).1 (hall _ (kJ hc hj).1)
    omega
   ·omega
  refine hend a vs wx hlen hk4 hsame (fun d hd hl=> ?_) (fun j d hd=> ?_)
  ·unfold jc at hd
   rw[Array.all_eq_false] at hd
   obtain⟨i,hi,hd⟩:=hd
   have hd:ops[i].dst=some d:=by simpa using hd
   have ho:ops[i]? =some ops[i]:=Array.getElem?_eq_getElem hi
   refine(hk5 i d _ ho (hall i hi) (fun hmem=> ?_) hd).1
   obtain⟨j,hj,hjj⟩:=List.mem_iff_getElem.1 hmem
   rw[Fq (j:=j) (i:=i) (by rw[List.getElem?_eq_getElem hj,hjj]) ho hd] at hl
   exact absurd hl AP
  ·obtain⟨i',o',hj',ho',hd'⟩:=sH hd
   have hlt:j<vs.length:=by have:=(List.getElem?_eq_some_iff.1 hj').1;omega
   rw[hk3 j d vs[j] (List.getElem?_eq_getElem hlt) hd]
   unfold oq
   rw[List.getD_eq_getElem?_getD,List.getElem?_eq_getElem hlt];rfl
end
end Go.Cit
namespace Go.Proofs.YtlholdllibghbaaGreat
end Go.Proofs.YtlholdllibghbaaGreat
namespace Go.Cit
open Go Go.RowKit
def Gq (k:Nat) (v:Value):Value:=match v with | .tuple a=>a.getD k undef |_=>undef
theorem xE {P:Program} {w:World} {o:Oper} {ρ:Operand→Value} {post:Value→World→Prop} {x:Operand} {k:Nat} {v:Value} (h:o.op= .extract x k) (hx:ρ x=v) (hk:k<2) (hv:∃A B,v= .tuple #[A,B]) (hp:post (Gq k v) w):bQ P post ((execOp ρ o).run P w):=by
 obtain⟨A,B,rfl⟩:=hv
 refine fA (v:=Gq k (.tuple #[A,B])) (w':=w) ?_ hp
 unfold execOp;rw[h];dsimp only;rw[hx]
 match k,hk with
 | 0,_=>rfl
 | 1,_=>rfl
end Go.Cit
namespace Go.Proofs.YtlholdllibghbaaGreat
open Go Go.RowKit Go.Cit
theorem Wr.low {base N:Nat} {w b a l c e} (h:Wr base w b a l c e) (hN:N≤base):Wr N w b a l c e:=⟨h.blk,h.own.low hN,Nat.le_trans hN h.ge,h.len⟩
def JQ (w:World) (F:List UInt8) (e:Ending) (w':World):Prop:=∃b a X c,Hid (X=F)∧e= .returned (.pointer (some ⟨b,0,none⟩))∧Wr w.heap.size w' b a X c 0∧Below w.heap.size w w'
theorem KX (w:World):Calls Tryz.prog 83 #[] w (JQ w []):=(qx w).mono fun _ _ ⟨he,hw,hb⟩=>⟨_,none,[],0,rfl,he,hw,hb⟩
inductive kF (w:World) (F:List UInt8) (fs:List (List UInt8)):List Value→World→Prop where
 | nil {w':World}:Below w.heap.size w w'→kF w F fs [] w'
 | made {w':World} {vs:List Value} {b:Nat} {a:Option Addr} {X:List UInt8} {c:Nat} (k:Nat):k≤fs.length→vs=List.replicate (k+1) (.pointer (some ⟨b,0,none⟩))→Hid (X=F++(fs.take k).flatten)→Wr w.heap.size w' b a X c 0→Below w.heap.size w w'→kF w F fs vs w'
 | done {w':World} {vs:List Value} {b:Nat} {a:Option Addr} {X:List UInt8} {c:Nat}:vs=List.replicate (fs.length+1) (.pointer (some ⟨b,0,none⟩))++ [.tuple #[.slice a X.length c, .int .i64 0]]→Hid (X=F++fs.flatten)→Mine w.heap.size w' a X c→Below w.heap.size w w'→kF w F fs vs w'
section
variable {w wx:World} {F:List UInt8} {fs:List (List UInt8)} {vs:List Value}
theorem kF.bel (h:kF w F fs vs wx):Below w.heap.size w wx:=by cases h<;>assumption
theorem kF.start (w:World) (F:List UInt8) (fs:List (List UInt8)):∀w',Go.Cit.Alike w w'→kF w F fs [] w':=fun _ h=> .nil h.1
theorem kF.keep {w':World} (h:kF w F fs vs wx) (hb:Below wx.heap.size wx w'):kF w F fs vs w':=by
 have hb':=h.bel.trans (hb.mono h.bel.size)
 cases h with
 | nil _=>exact .nil hb'
 | made k h0 h1 h2 h3 _=>exact .made k h0 h1 h2 (h3.stay hb) hb'
 | done h1 h2 h3 _=>exact .done h1 h2 (h3.save (Save.of (S:=fun _=>True) hb) (fun _ _=>trivial)) hb'
theorem kF.begins (h:kF w F fs vs wx) (hl:vs.length=0) {f:FuncId} {args:Array Value} (hc:Calls Tryz.prog f args wx (JQ wx F)):Calls Tryz.prog f args wx fun e w'=>∃v,e= .returned v∧kF w F fs (vs++ [v]) w':=by
 refine hc.mono ?_
 rintro e w' ⟨b,a,X,c,hX,he,hw,hb⟩
 obtain rfl:vs=[]:=List.length_eq_zero_iff.1 hl
 exact⟨_,he, .made 0 (Nat.zero_le _) rfl (by rw[Hid,hX.o];simp) (hw.low h.bel.size) (h.bel.trans (hb.mono h.bel.size))⟩
theorem kF.step (h:kF w F fs vs wx) {k:Nat} (hl:vs.length=k+1) {m:List UInt8} (hm:fs[k]? =some m) (hroom:F.length+fs.flatten.length≤65536) {f:FuncId} (A:Value→Array Value)
 (hc:∀b a X c,Wr w.heap.size wx b a X c 0→w.heap.size≤wx.heap.size→X.length+m.length≤65536→Calls Tryz.prog f (A (.pointer (some ⟨b,0,none⟩))) wx (Added w.heap.size wx b a (X++m))):Calls Tryz.prog f (A (oq vs k)) wx fun e w'=>∃v,e= .returned v∧kF w F fs (vs++ [v]) w':=by
 have hkl:=(List.getElem?_eq_some_iff.1 hm).1
 cases h with
 | nil _=>simp at hl
 |
  done h1 _ _ _=>
  rw[h1] at hl
  simp at hl;omega
 |
  @made _ _ b a X c k' h0 h1 h2 h3 h4=>
  obtain rfl:k'=k:=by rw[h1,List.length_replicate] at hl;omega
  have hv:oq vs k'= .pointer (some ⟨b,0,none⟩):=by
   unfold oq;rw[List.getD_eq_getElem?_getD,h1,List.getElem?_replicate,if_pos AL];rfl
  rw[hv]
  have hfl:(fs.take k').flatten.length+m.length≤fs.flatten.length:=by
   have e:fs=fs.take k'++m::fs.drop (k'+1):=by
    conv=>lhs;rw[←List.take_append_drop k' fs,List.drop_eq_getElem_cons hkl]
    rw[(List.getElem?_eq_some_iff.1 hm).2]
   have:=congrArg (fun l:List (List UInt8)=>l.flatten.length) e
   simp only[List.flatten_append,List.flatten_cons,List.length_append] at this
   omega
  refine(hc b a X c h3 h4.size (by rw[h2.o,List.length_append];omega)).mono ?_
  rintro e w' ⟨a',X',c',hX',rfl,hw,hs,_⟩
  refine⟨_,rfl, .made (k'+1) hkl (by rw[h1,←List.replicate_succ']) ?_ hw (h4.trans (hs.below h4.size (h3.old (Nat.le_refl _))))⟩
  rw[Hid,hX'.o,h2.o,List.take_add_one,hm]
  simp
theorem kF.finish (h:kF w F fs vs wx) {k:Nat} (hk:k=fs.length) (hl:vs.length=k+1):Calls Tryz.prog 49 #[oq vs k] wx fun e w'=>∃v,e= .returned v∧kF w F fs (vs++ [v]) w':=by
 subst hk
 cases h with
 | nil _=>simp at hl
 |
  done h1 _ _ _=>
  rw[h1] at hl
  simp at hl
 |
  @made _ _ b a X c k' h0 h1 h2 h3 h4=>
  obtain rfl:k'=fs.length:=by rw[h1,List.length_replicate] at hl;omega
  have hv:oq vs fs.length= .pointer (some ⟨b,0,none⟩):=by
   unfold oq;rw[List.getD_eq_getElem?_getD,h1,List.getElem?_replicate,if_pos AL];rfl
  rw[hv]
  refine(uf h3).mono ?_
  rintro e w' ⟨a',X',cp,hX,rfl,hm,hb⟩
  exact⟨_,rfl, .done (by rw[h1]) (by rw[Hid,hX.o,h2.o,List.take_length]) (hm.low h4.size) (h4.trans (hb.mono h4.size))⟩
theorem kF.ended (h:kF w F fs vs wx) (hl:vs.length=fs.length+1):∃b a X c,oq vs fs.length= .pointer (some ⟨b,0,none⟩)∧Hid (X=F++fs.flatten)∧Wr w.heap.size wx b a X c 0∧Below w.heap.size w wx:=by
 cases h with
 | nil _=>simp at hl
 |
  done h1 _ _ _=>
  rw[h1] at hl
  simp at hl
 |
  @made _ _ b a X c k' h0 h1 h2 h3 h4=>
  obtain rfl:k'=fs.length:=by rw[h1,List.length_replicate] at hl;omega
  refine⟨b,a,X,c, ?_,by rw[Hid,h2.o,List.take_length],h3,h4⟩
  unfold oq;rw[List.getD_eq_getElem?_getD,h1,List.getElem?_replicate,if_pos AL];rfl
theorem kF.told (h:kF w F fs vs wx) {k:Nat} (hk:k=fs.length+1) (hl:k<vs.length):∃a X c,oq vs k= .tuple #[.slice a X.length c, .int .i64 0]∧Hid (X=F++fs.flatten)∧Mine w.heap.size wx a X c∧Below w.heap.size w wx:=by
 subst hk
 cases h with
 | nil _=>simp at hl
 |
  @made _ _ b a X c k' h0 h1 h2 h3 h4=>
  exfalso
  rw[h1,List.length_replicate] at hl
  omega
 |
  @done _ _ b a X c h1 h2 h3 h4=>
  refine⟨a,X,c, ?_,h2,h3,h4⟩
  unfold oq;rw[List.getD_eq_getElem?_getD,h1,List.getElem?_append_right AO];simp
end
end Go.Proofs.YtlholdllibghbaaGreat
