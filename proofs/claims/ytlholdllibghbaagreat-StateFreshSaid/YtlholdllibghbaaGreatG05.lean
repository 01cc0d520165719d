/- Texts of the proof, one behind the other: After, Region, Chan, Find. No condition but those that each names. -/
import Derived.Test.YtlholdllibghbaaGreatG00
import Derived.Test.YtlholdllibghbaaGreatG02
import Derived.Test.YtlholdllibghbaaGreatKit
set_option maxRecDepth 100000
set_option maxHeartbeats 8000000
namespace Go.Cit
open Go Go.RowKit
structure After (w:World) where
 to:World
 bel:Below w.heap.size w to
instance (w:World):Inhabited (After w):=⟨⟨w,Below.refl _ _⟩⟩
structure Wq (P:Program) (ops:Array Oper) (C:World→Prop) (Q:Act→Prop) (l:List Oper) (a:Act):Prop where
 o:wpQuiet P ops C Q l a
theorem iH {P:Program} {ops:Array Oper} {C:World→Prop} {Q:Act→Prop} {a:Act} {o:Oper} {rest:List Oper}
 (h:∀K:Act→Prop,(∀a,Wq P ops C Q rest a→K a)→if Region.wanted o (yielded ops a.tmps) then o.quiet P a C K else K (a.put o.dst undef)):Wq P ops C Q (o::rest) a:=
 ⟨wpQuiet_step fun K hK=>h K fun a ha=>hK a ha.o⟩
theorem jM {P:Program} {ops:Array Oper} {C:World→Prop} {Q:Act→Prop} {a:Act} (h:Q a):Wq P ops C Q [] a:=⟨wpQuiet_nil h⟩
theorem bD {P:Program} {id:Nat} {Q:Exit→Act→World→Prop} {a:Act} {w:World} {l:List Oper} (hm:P.follows .mixedOrders=true) (hB:Region.lexB .any l.toArray=true)
 (h:Wq P l.toArray (fun w'=>∃q:After w,w'=q.to) (fun a'=>∀w',(∃q:After w,w'=q.to)→Q .normal a' w') l a):(Code.region id l.toArray true).wp P Q a w:=
 wp_region_quiet (C:=fun w'=>∃q:After w,w'=q.to) hm hB ⟨⟨_,(Below.refl _ w).drew⟩,rfl⟩ (by simpa using h.o)
theorem aJ {P:Program} {f:FuncId} {args:Array Value} {w:World} {q:After w} {v:Value}
 (h:Calls P f args q.to fun e w'=>e= .returned v∧Below q.to.heap.size q.to w'):Calls P f args q.to fun e w''=>e= .returned v∧∃p:After w,w''=p.to:=
 h.mono fun _ _ ⟨he,hb⟩=>⟨he,⟨_,q.bel.trans (hb.mono q.bel.size)⟩,rfl⟩
theorem After.cell {w:World} {p:Addr} {v:Value} (h:w.cell? p=some v) (q:After w):q.to.cell? p=some v:=(q.bel.cell (World.block_lt_of_cell? w _ h)).trans h
theorem keep {w w':World} {p:Addr} {v:Value} (hb:Below w.heap.size w w') (h:w.cell? p=some v):w'.cell? p=some v:=(hb.cell (World.block_lt_of_cell? w _ h)).trans h
theorem keepA {w:World} {p:Addr} {v:Value} (o:Obj) (h:w.cell? p=some v):(w.alloc o).cell? p=some v:=keep ((Below.refl _ w).alloc (Nat.le_refl _) o) h
end Go.Cit
namespace Go.Proofs.YtlholdllibghbaaGreat
open Go Go.RowKit Go.Cit
def dY (r:Reg):Bool:=decide (0≤r.base.1∧r.base.1%4=0∧r.size.1%4=0∧16≤r.size.1∧r.size.1≤512∧r.base.1+r.size.1≤4096)
theorem IY (z:Int):(z.tmod 4=0)=(z%4=0):=by
 apply propext
 exact⟨fun h=>Int.emod_eq_zero_of_dvd (Int.dvd_of_tmod_eq_zero h),fun h=>Int.tmod_eq_zero_of_dvd (Int.dvd_of_emod_eq_zero h)⟩
theorem eu (w:World) (r:Reg):Calls Tryz.prog 180 #[.agg #[.int .i64 r.base.1, .int .i64 r.size.1]] w fun e w'=>e= .returned (.bool (dY r))∧Below w.heap.size w w':=by
 obtain⟨R,HR⟩:=AU (dY r)
 rw[←HR.o]
 obtain⟨⟨x,hx⟩,⟨y,hy⟩⟩:=r
 have B:=AQ ((Below.refl _ w).alloc (Nat.le_refl _) (.cells #[.int .i64 x, .int .i64 y] 44))
 go_enter Tryz.func180,Tryz.ntmps180
 go_wp2_with fail
 all_goals
  go_ret
  refine⟨au ?_,B.o⟩
  rw[HR.o,dY]
  try simp only[IY] at *
  first |(refine(decide_eq_false ?_).symm;omega) |(refine(decide_eq_true ?_).symm;omega) |(refine decide_eq_decide.2 ?_;omega)
def vI (r:Reg):Int:=if dY r then r.base.1+r.size.1 else 0
theorem BF {r:Reg} (h:dY r=true):0≤r.base.1∧r.base.1%4=0∧r.size.1%4=0∧16≤r.size.1∧r.size.1≤512∧r.base.1+r.size.1≤4096:=by
 unfold dY at h
 simpa using h
theorem ES (w:World) (x y:Value) (T:TypeId):(w.alloc (.cells #[x,y] T)).cell? ⟨w.heap.size,0,none⟩=some x∧(w.alloc (.cells #[x,y] T)).cell? ⟨w.heap.size,1,none⟩=some y:=by
 constructor<;>(rw[World.cell?,heap_alloc_new];rfl)
theorem o8 (w:World) (r:Reg):Calls Tryz.prog 263 #[.agg #[.int .i64 r.base.1, .int .i64 r.size.1]] w fun e w'=>e= .returned (.int .i64 (vI r))∧Below w.heap.size w w':=by
 obtain⟨R,HR⟩:=AU (vI r)
 obtain⟨m,hm⟩:=AV (dY r)
 have HC:=AQ (eu (w.alloc (.cells #[.int .i64 r.base.1, .int .i64 r.size.1] 44)) r)
 have HB:=AQ (ES w (.int .i64 r.base.1) (.int .i64 r.size.1) 44)
 have B:=AQ ((Below.refl _ w).alloc (Nat.le_refl _) (.cells #[.int .i64 r.base.1, .int .i64 r.size.1] 44))
 have HS:=AQ (fun h=>BF (r:=r) h)
 rw[←HR.o]
 rw[←hm] at HC HS
 have HM:=AQ hm
 clear hm
 go_enter Tryz.func263,Tryz.ntmps263
 go_wp2_with fail
 refine HC.o.mono ?_
 rintro e w' ⟨rfl,hb⟩
 have c0:=keep hb HB.o.1
 have c1:=keep hb HB.o.2
 have B2:=AQ (B.o.trans (hb.mono B.o.size))
 clear hb
 cases m with
 |
  false=>
  go_wp2_with fail
  go_ret
  exact⟨bM (by rw[HR.o,vI,←HM.o];rfl),B2.o⟩
 |
  true=>
  have hs:=HS.o rfl
  go_wp2_with fail
  go_ret
  exact⟨bM (by rw[HR.o,vI,←HM.o];rfl),B2.o⟩
def jW (a b:Reg):Bool:=dY a && dY b && (decide (vI a≤b.base.1) || decide (vI b≤a.base.1))
theorem uq (w:World) (r s:Reg):Calls Tryz.prog 259 #[.agg #[.int .i64 r.base.1, .int .i64 r.size.1], .agg #[.int .i64 s.base.1, .int .i64 s.size.1]] w fun e w'=>e= .returned (.bool (jW r s))∧Below w.heap.size w w':=by
 obtain⟨R,HR⟩:=AU (jW r s)
 obtain⟨m,hm⟩:=AU (dY r)
 obtain⟨n,hn⟩:=AU (dY s)
 obtain⟨x,hx⟩:=AU (vI r)
 obtain⟨y,hy⟩:=AU (vI s)
 have HC1:=AQ (fun w=>eu w r)
 have HC2:=AQ (fun w=>eu w s)
 have HE1:=AQ (fun w=>o8 w r)
 have HE2:=AQ (fun w=>o8 w s)
 rw[←hm.o] at HC1
 rw[←hn.o] at HC2
 rw[←hx.o] at HE1
 rw[←hy.o] at HE2
 rw[←HR.o]
 have hr:∃w0,w0=(w.alloc (.cells #[.int .i64 r.base.1, .int .i64 r.size.1] 44)).alloc (.cells #[.int .i64 s.base.1, .int .i64 s.size.1] 44):=⟨_,rfl⟩
 obtain⟨w0,hw0⟩:=hr
 have B:Below w.heap.size w w0:=by rw[hw0];exact((Below.refl _ w).alloc (Nat.le_refl _) _).alloc AO _
 have c1:=ES w (.int .i64 r.base.1) (.int .i64 r.size.1) 44
 have c2:=ES (w.alloc (.cells #[.int .i64 r.base.1, .int .i64 r.size.1] 44)) (.int .i64 s.base.1) (.int .i64 s.size.1) 44
 rw[←hw0] at c2
 simp only[World.size_alloc] at c2
 have c1a:∀q:After w0,q.to.cell? ⟨w.heap.size,0,none⟩=some (.int .i64 r.base.1):=fun q=>q.cell (by rw[hw0];exact keepA _ c1.1)
 have c1b:∀q:After w0,q.to.cell? ⟨w.heap.size,1,none⟩=some (.int .i64 r.size.1):=fun q=>q.cell (by rw[hw0];exact keepA _ c1.2)
 have c2a:∀q:After w0,q.to.cell? ⟨w.heap.size+1,0,none⟩=some (.int .i64 s.base.1):=fun q=>q.cell c2.1
 have c2b:∀q:After w0,q.to.cell? ⟨w.heap.size+1,1,none⟩=some (.int .i64 s.size.1):=fun q=>q.cell c2.2
 clear c1 c2
 go_enter Tryz.func259,Tryz.ntmps259
 go_wp2_with fail
 rw[←hw0]
 clear hw0
 have HF:Hid (R=(m && n && (decide (x≤s.base.1) || decide (y≤r.base.1)))):=by rw[Hid,HR.o,hm.o,hn.o,hx.o,hy.o];rfl
 cases m with
 |
  false=>
  refine bD AB AB ?_
  iterate 21
   refine iH (fun K hK=> ?_)
   go_simp
   first
    | (refine hK _ ?_;clear hK K)
    | (
     apply Exists.intro
     refine⟨fun _=> ?_,hK _ ?_⟩
     first |with_reducible exact aJ (HC1.o _) |with_reducible exact aJ (HC2.o _) |with_reducible exact aJ (HE1.o _) |with_reducible exact aJ (HE2.o _)
     clear hK K)
  refine jM ?_
  intro _ hw'
  obtain⟨⟨w1,hb1⟩,hw'⟩:=hw'
  subst hw'
  go_wp2_with fail
  go_ret
  exact⟨au (by rw[HF.o];rfl),B.trans (hb1.mono B.size)⟩
 |
  true=>
  cases n with
  |
   false=>
   refine bD AB AB ?_
   iterate 21
    refine iH (fun K hK=> ?_)
    go_simp
    first
     | (refine hK _ ?_;clear hK K)
     | (
      apply Exists.intro
      refine⟨fun _=> ?_,hK _ ?_⟩
      first |with_reducible exact aJ (HC1.o _) |with_reducible exact aJ (HC2.o _) |with_reducible exact aJ (HE1.o _) |with_reducible exact aJ (HE2.o _)
      clear hK K)
   refine jM ?_
   intro _ hw'
   obtain⟨⟨w1,hb1⟩,hw'⟩:=hw'
   subst hw'
   go_wp2_with fail
   go_ret
   exact⟨au (by rw[HF.o];rfl),B.trans (hb1.mono B.size)⟩
  |
   true=>
   by_cases h1:x≤s.base.1
   ·refine bD AB AB ?_
    iterate 21
     refine iH (fun K hK=> ?_)
     go_simp
     first
      | (refine hK _ ?_;clear hK K)
      | (
       apply Exists.intro
       refine⟨fun _=> ?_,hK _ ?_⟩
       first |with_reducible exact aJ (HC1.o _) |with_reducible exact aJ (HC2.o _) |with_reducible exact aJ (HE1.o _) |with_reducible exact aJ (HE2.o _)
       clear hK K)
    refine jM ?_
    intro _ hw'
    obtain⟨⟨w1,hb1⟩,hw'⟩:=hw'
    subst hw'
    go_wp2_with fail
    go_ret
    exact⟨au (by rw[HF.o];simp;omega),B.trans (hb1.mono B.size)⟩
   ·by_cases h2:y≤r.base.1
    ·refine bD AB AB ?_
     iterate 21
      refine iH (fun K hK=> ?_)
      go_simp
      first
       | (refine hK _ ?_;clear hK K)
       | (
        apply Exists.intro
        refine⟨fun _=> ?_,hK _ ?_⟩
        first |with_reducible exact aJ (HC1.o _) |with_reducible exact aJ (HC2.o _) |with_reducible exact aJ (HE1.o _) |with_reducible exact aJ (HE2.o _)
        clear hK K)
     refine jM ?_
     intro _ hw'
     obtain⟨⟨w1,hb1⟩,hw'⟩:=hw'
     subst hw'
     go_wp2_with fail
     go_ret
     exact⟨au (by rw[HF.o];simp;omega),B.trans (hb1.mono B.size)⟩
    ·refine bD AB AB ?_
     iterate 21
      refine iH (fun K hK=> ?_)
      go_simp
      first
       | (refine hK _ ?_;clear hK K)
       | (
        apply Exists.intro
        refine⟨fun _=> ?_,hK _ ?_⟩
        first |with_reducible exact aJ (HC1.o _) |with_reducible exact aJ (HC2.o _) |with_reducible exact aJ (HE1.o _) |with_reducible exact aJ (HE2.o _)
        clear hK K)
     refine jM ?_
     intro _ hw'
     obtain⟨⟨w1,hb1⟩,hw'⟩:=hw'
     subst hw'
     go_wp2_with fail
     go_ret
     exact⟨au (by rw[HF.o];simp;omega),B.trans (hb1.mono B.size)⟩
open Go Go.RowKit Go.Cit
def zD (n:Int):Bool:=decide (1≤n∧n≤6)
theorem xY (w:World) (n:Int):Calls Tryz.prog 230 #[.int .i64 n] w fun e w'=>e= .returned (.bool (zD n))∧w'=w:=by
 obtain⟨R,HR⟩:=AU (zD n)
 rw[←HR.o]
 go_enter Tryz.func230,Tryz.ntmps230
 go_wp2_with fail
 all_goals
  go_ret
  refine⟨au ?_,rfl⟩
  rw[HR.o,zD]
  first |(refine(decide_eq_false ?_).symm;omega) |(refine(decide_eq_true ?_).symm;omega) |(refine decide_eq_decide.2 ?_;omega) |(rw[Bool.eq_iff_iff];simp only[Bool.and_eq_true,bne_iff_ne,ne_eq,decide_eq_true_eq];omega)
def oD (c:Ch):Bool:=decide (1≤c.id.1∧c.id.1≤8∧1≤c.src.1∧c.src.1≤6∧1≤c.dst.1∧c.dst.1≤6∧c.src.1≠c.dst.1∧1≤c.cap.1∧c.cap.1≤4∧1≤c.size.1∧c.size.1≤16)
theorem jE (w:World) (c:Ch):Calls Tryz.prog 182 #[.agg #[.int .i64 c.id.1, .int .i64 c.src.1, .int .i64 c.dst.1, .int .i64 c.cap.1, .int .i64 c.size.1]] w fun e w'=>e= .returned (.bool (oD c))∧Below w.heap.size w w':=by
 obtain⟨R,HR⟩:=AU (oD c)
 rw[←HR.o]
 obtain⟨⟨x1,_⟩,⟨x2,_⟩,⟨x3,_⟩,⟨x4,_⟩,⟨x5,_⟩⟩:=c
 have B:Hid (∀C,Below w.heap.size w (w.alloc (.cells C 48))):=fun C=>(Below.refl _ w).alloc (Nat.le_refl _) _
 go_enter Tryz.func182,Tryz.ntmps182
 go_wp2_with (go_at_call 230;refine(xY _ _).mono ?_;rintro e w' ⟨rfl,rfl⟩)
 all_goals
  go_ret
  refine⟨au ?_,B.o _⟩
  rw[HR.o,oD]
  simp only[zD,decide_eq_true_eq,decide_eq_false_iff_not] at *
  first |(refine(decide_eq_false ?_).symm;omega) |(refine(decide_eq_true ?_).symm;omega) |(refine decide_eq_decide.2 ?_;omega) |(rw[Bool.eq_iff_iff];simp only[Bool.and_eq_true,bne_iff_ne,ne_eq,decide_eq_true_eq];omega)
theorem iQ {w w':World} {a:Option Addr} {l:List Ch} {c:Nat} (h:Vec xk 5 w a l c) (hb:Below w.heap.size w w') (k:Nat) (hk:k<l.length):
 w'.cell? (ad a (k*5))=some (.int .i64 l[k].id.1)∧w'.cell? ⟨(ad a (k*5)).block,(ad a (k*5)).off+1,none⟩=some (.int .i64 l[k].src.1)∧w'.cell? ⟨(ad a (k*5)).block,(ad a (k*5)).off+2,none⟩=some (.int .i64 l[k].dst.1)∧
 w'.cell? ⟨(ad a (k*5)).block,(ad a (k*5)).off+3,none⟩=some (.int .i64 l[k].cap.1)∧w'.cell? ⟨(ad a (k*5)).block,(ad a (k*5)).off+4,none⟩=some (.int .i64 l[k].size.1):=by
 have h:=h.stay oK hb
 exact⟨h.pW k hk AP rfl,h.field k hk 1 AP rfl,h.field k hk 2 AP rfl,h.field k hk 3 AP rfl,h.field k hk 4 AP rfl⟩
def qR (l:List Ch) (i:Nat):Int:=(l[i]?.map (·.id.1)).getD 0
def jq (l:List Ch) (k:Nat):Bool:=(List.range k).all fun i=>decide (qR l i<qR l (i+1))
theorem kX (l:List Ch) (k:Nat):jq l (k+1)=(jq l k && decide (qR l k<qR l (k+1))):=by
 unfold jq;rw[List.range_succ,List.all_append];simp
theorem yj (l:List Ch) (k n:Nat) (h:k≤n) (hk:jq l k=false):jq l n=false:=by
 obtain⟨d,rfl⟩:∃d,n=k+d:=⟨n-k,by omega⟩
 induction d with
 | zero=>exact hk
 | succ d ih=>rw[←Nat.add_assoc,kX,ih AL,Bool.false_and]
def kQ (l:List Ch):Int:=if l.all oD then (if jq l (l.length-1) then 0 else 100) else 2
theorem pG {α:Type} (p:α→Bool) (l:List α) (k:Nat) (h:k<l.length):(l.take (k+1)).all p=((l.take k).all p && p l[k]):=by
 rw[List.take_succ_eq_append_getElem h,List.all_append];simp
theorem uy {α:Type} (p:α→Bool) (l:List α) (k:Nat) (h:k<l.length) (hp:p l[k]=false):l.all p=false:=by
 rw[List.all_eq_false];exact⟨l[k],List.getElem_mem h,by simp[hp]⟩
theorem wS (w:World) (a:Option Addr) (l:List Ch) (c:Nat) (h:Vec xk 5 w a l c):Calls Tryz.prog 252 #[.slice a l.length c] w fun e w'=>e= .returned (.int .i64 (kQ l))∧Below w.heap.size w w':=by
 obtain⟨R,HR⟩:=AU (kQ l)
 rw[←HR.o]
 have hlen:=h.aI
 have HH:=AQ h
 clear h
 go_enter Tryz.func252,Tryz.ntmps252
 go_wp2_with fail
 go_loopw [8] (fun i wr=>∃(k:Nat),Hid ((l.take k).all oD=true)∧k≤l.length∧i= .int .i64 k∧Below w.heap.size w wr) (fun i _=>l.length-(intOf i).toNat)
 case atStart=>exact⟨0,rfl,by omega,rfl,Below.refl _ _⟩
 case round=>
  obtain⟨k,ha,hk,rfl,B⟩:=hrel
  by_cases hlt:k<l.length
  ·have i0:=HH.o.index Gq k hlt
   obtain⟨d0,d1,d2,d3,d4⟩:=iQ HH.o B k hlt
   cases hq:oD l[k] with
   |
    true=>
    have HA:Hid ((l.take (k+1)).all oD=true):=by rw[Hid,pG _ _ _ hlt,ha.o,hq];rfl
    have HC:=AQ (fun w=>jE w l[k])
    rw[hq] at HC
    have HB:=AQ B
    clear hq B
    go_wp2_with (go_at_call 182;refine(HC.o _).mono ?_;rintro e w2 ⟨rfl,hb2⟩)
    go_roundw
    case rel=>exact⟨k+1,HA.o,by omega,by go_num,HB.o.trans (((Below.refl _ wr).alloc (Nat.le_refl _) _).trans (hb2.mono AO) |>.mono HB.o.size)⟩
    case measure=>simp[intOf];omega
   |
    false=>
    have HC:=AQ (fun w=>jE w l[k])
    rw[hq] at HC
    have HF:Hid (R=2):=by rw[Hid,HR.o,kQ,uy _ _ _ hlt hq];rfl
    have HB:=AQ B
    clear hq B
    go_wp2_with (go_at_call 182;refine(HC.o _).mono ?_;rintro e w2 ⟨rfl,hb2⟩)
    go_ret
    exact⟨bM HF.o.symm,HB.o.trans (((Below.refl _ wr).alloc (Nat.le_refl _) _).trans (hb2.mono AO) |>.mono HB.o.size)⟩
  ·have hk2:k=l.length:=by omega
   have HA:Hid (l.all oD=true):=by have:=ha.o;rw[hk2,List.take_length] at this;exact this
   have hnl:¬(k:Int)<(l.length:Int):=by omega
   clear ha hk2
   go_wp2_with fail
   go_loopw [5] (fun i wx=>∃(m:Nat),Hid (jq l m=true)∧(m+1≤l.length∨m=0)∧i= .int .i64 ((m:Int)+1)∧Below w.heap.size w wx) (fun i _=>l.length-(intOf i).toNat)
   case atStart=>exact⟨0,rfl, .inr rfl,rfl,B⟩
   case round=>
    obtain⟨m,hm,hml,rfl,B2⟩:=hrel
    by_cases hlt2:m+1<l.length
    ·have i0:=HH.o.index Gq m AL
     have i1:=HH.o.index Gq (m+1) hlt2
     rw[show((m+1:Nat):Int)=(m:Int)+1 from rfl] at i1
     have c0:∀q:After wr,q.to.cell? (ad a (m*5))=some (.int .i64 l[m].id.1):=fun q=>(iQ HH.o (B2.trans (q.bel.mono B2.size)) m AL).1
     have c1:∀q:After wr,q.to.cell? (ad a ((m+1)*5))=some (.int .i64 l[m+1].id.1):=fun q=>(iQ HH.o (B2.trans (q.bel.mono B2.size)) (m+1) hlt2).1
     have hwm:IntKind.i64.wrap (m:Int)=(m:Int):=IntWalk.i64_in _ AL
     have HI:Hid (qR l m=l[m].id.1∧qR l (m+1)=l[m+1].id.1):=by
      constructor
      ·simp[qR,show m<l.length by omega]
      ·simp[qR,hlt2]
     by_cases hc:l[m].id.1<l[m+1].id.1
     ·have HS:Hid (jq l (m+1)=true):=by rw[Hid,kX,hm.o,HI.o.1,HI.o.2,decide_eq_true hc];rfl
      have hlti:(m:Int)+1<(l.length:Int):=by omega
      go_wp2_with fail
      refine bD AB AB ?_
      iterate 12
       refine iH (fun K hK=> ?_)
       go_simp
       refine hK _ ?_
       clear hK K
      refine jM ?_
      intro _ hw'
      obtain⟨⟨w3,hb3⟩,hw'⟩:=hw'
      subst hw'
      go_wp2_with fail
      go_roundw
      case rel=>exact⟨m+1,HS.o,by omega,by go_num,B2.trans (hb3.mono B2.size)⟩
      case measure=>simp[intOf];omega
     ·have HS:Hid (jq l (m+1)=false):=by rw[Hid,kX,hm.o,HI.o.1,HI.o.2,decide_eq_false hc];rfl
      have HF:Hid (R=100):=by rw[Hid,HR.o,kQ,HA.o,yj l (m+1) _ AL HS.o];rfl
      have hlti:(m:Int)+1<(l.length:Int):=by omega
      go_wp2_with fail
      refine bD AB AB ?_
      iterate 12
       refine iH (fun K hK=> ?_)
       go_simp
       refine hK _ ?_
       clear hK K
      refine jM ?_
      intro _ hw'
      obtain⟨⟨w3,hb3⟩,hw'⟩:=hw'
      subst hw'
      go_wp2_with fail
      go_ret
      exact⟨bM HF.o.symm,B2.trans (hb3.mono B2.size)⟩
    ·have HF:Hid (R=0):=by
      rw[Hid,HR.o,kQ,HA.o,if_pos rfl]
      rcases hml with h1 |h1
      ·rw[show l.length-1=m by omega,hm.o];rfl
      ·subst h1;rw[show l.length-1=0 by omega];rfl
     have hlti:¬(m:Int)+1<(l.length:Int):=by omega
     go_wp2_with fail
     go_ret
     exact⟨bM HF.o.symm,B2⟩
open Go Go.RowKit Go.Cit
def bQ {α:Type} (p:α→Bool) (l:List α):Int:=match l.findIdx? p with |some i=>(i:Int) |none=> -1
theorem gY {α:Type} (p:α→Bool) (l:List α) (k:Nat) (h:k<l.length) (hn:∀j (hj:j<l.length),j<k→p l[j]=false) (hp:p l[k]=true):bQ p l=k:=by
 have:l.findIdx? p=some k:=by
  rw[List.findIdx?_eq_some_iff_getElem]
  exact⟨h,hp,fun j hj=>by rw[hn j AL hj];decide⟩
 rw[bQ,this]
theorem gZ {α:Type} (p:α→Bool) (l:List α) (hn:∀j (hj:j<l.length),p l[j]=false):bQ p l= -1:=by
 have:l.findIdx? p=none:=by
  rw[List.findIdx?_eq_none_iff]
  intro x hx
  obtain⟨i,hi,rfl⟩:=List.mem_iff_getElem.1 hx
  exact hn i hi
 rw[bQ,this]
theorem gX {α:Type} (p:α→Bool) (l:List α):decide (0≤bQ p l)=l.any p:=by
 cases h:l.findIdx? p with
 |
  none=>
  simp only[bQ,h]
  rw[List.findIdx?_eq_none_iff] at h
  have:l.any p=false:=by rw[List.any_eq_false];intro x hx;rw[h x hx];decide
  rw[this];rfl
 |
  some i=>
  rw[bQ,h]
  rw[List.findIdx?_eq_some_iff_getElem] at h
  obtain⟨hi,hp,_⟩:=h
  have:l.any p=true:=List.any_eq_true.2 ⟨l[i],List.getElem_mem hi,hp⟩
  rw[this];simp
theorem wC {α:Type} (p:α→Bool) (l:List α):bQ p l= -1∨∃i,∃h:i<l.length,bQ p l=i∧p l[i]=true:=by
 cases h:l.findIdx? p with
 | none=>left;rw[bQ,h]
 |
  some i=>
  right
  rw[bQ,h]
  rw[List.findIdx?_eq_some_iff_getElem] at h
  obtain⟨hi,hp,_⟩:=h
  exact⟨i,hi,rfl,hp⟩
theorem rP {w w':World} {a:Option Addr} {l:List uO} {c:Nat} (h:Vec xM 2 w a l c) (hb:Below w.heap.size w w') (k:Nat) (hk:k<l.length):
 w'.cell? (ad a (k*2))=some (.int .i64 l[k].len.1)∧w'.cell? ⟨(ad a (k*2)).block,(ad a (k*2)).off+1,none⟩=some (.int .i64 l[k].part.1):=by
 have h:=h.stay lI hb
 exact⟨h.pW k hk AP rfl,h.field k hk 1 AP rfl⟩
theorem AY {p:uO→Bool} (g:Nat) (lb:Array Value) (eg:∀args w,(callFunc g args).run Tryz.prog w= .ok (.enter g args) w) (w:World) (a:Option Addr) (l:List uO) (c:Nat) (h:Vec xM 2 w a l c) (hp:∀(W:World) (i:Nat) (hi:i<l.length),Below w.heap.size w W→Calls Tryz.prog g (#[.agg #[.int .i64 l[i].len.1, .int .i64 l[i].part.1]]++lb) W fun e w'=>e= .returned (.bool (p l[i]))∧Below w.heap.size w w'):
 Calls Tryz.prog 257 #[.slice a l.length c, .func (.func g) #[] lb] w fun e w'=>e= .returned (.int .i64 (bQ p l))∧Below w.heap.size w w':=by
 obtain⟨R,HR⟩:=AU (bQ p l)
 rw[←HR.o]
 have hlen:=h.aI
 have HH:=AQ h
 have HP:=AQ hp
 clear h hp
 go_enter Tryz.func257,Tryz.ntmps257
 go_wp2_with fail
 go_loopw [8] (fun i wr=>∃(k:Nat),Hid (∀j (hj:j<l.length),j<k→p l[j]=false)∧k≤l.length∧i= .int .i64 k∧Below w.heap.size w wr) (fun i _=>l.length-(intOf i).toNat)
 case atStart=>exact⟨0,fun j hj h=>by omega,by omega,rfl,Below.refl _ _⟩
 case round=>
  obtain⟨k,ha,hk,rfl,B⟩:=hrel
  by_cases hlt:k<l.length
  ·have i0:=HH.o.index II k hlt
   obtain⟨d0,d1⟩:=rP HH.o B k hlt
   have hcall:=HP.o wr k hlt B
   cases hq:p l[k] with
   |
    true=>
    rw[hq] at hcall
    have HF:Hid (R=k):=by rw[Hid,HR.o,gY p l k hlt ha.o hq]
    clear hq
    go_wp2_with fail
    refine(hcall).mono ?_
    rintro e w2 ⟨rfl,hb2⟩
    go_wp2_with fail
    go_ret
    exact⟨bM HF.o.symm,hb2⟩
   |
    false=>
    rw[hq] at hcall
    have HN:Hid (∀j (hj:j<l.length),j<k+1→p l[j]=false):=fun j hj h=>by
     rcases Nat.lt_or_ge j k with h1 |h1
     ·exact ha.o j hj h1
     ·obtain rfl:j=k:=by omega
      exact hq
    clear hq
    go_wp2_with fail
    refine(hcall).mono ?_
    rintro e w2 ⟨rfl,hb2⟩
    go_wp2_with fail
    go_roundw
    case rel=>exact⟨k+1,HN.o,by omega,by go_num,hb2⟩
    case measure=>simp[intOf];omega
  ·have HF:Hid (R= -1):=by rw[Hid,HR.o,gZ p l (fun j hj=>ha.o j hj AL)]
   go_wp2_with fail
   go_ret
   exact⟨bM HF.o.symm,B⟩
theorem tN {p:uO→Bool} (g:Nat) (lb:Array Value) (eg:∀args w,(callFunc g args).run Tryz.prog w= .ok (.enter g args) w) (w:World) (a:Option Addr) (l:List uO) (c:Nat) (h:Vec xM 2 w a l c) (hp:∀(W:World) (i:Nat) (hi:i<l.length),Below w.heap.size w W→Calls Tryz.prog g (#[.agg #[.int .i64 l[i].len.1, .int .i64 l[i].part.1]]++lb) W fun e w'=>e= .returned (.bool (p l[i]))∧Below w.heap.size w w'):
 Calls Tryz.prog 247 #[.slice a l.length c, .func (.func g) #[] lb] w fun e w'=>e= .returned (.bool (l.any p))∧Below w.heap.size w w':=by
 have HC:=AQ (AY g lb eg w a l c h hp)
 obtain⟨R,HR⟩:=AU (bQ p l)
 obtain⟨S,HS⟩:=AU (l.any p)
 rw[←HR.o] at HC
 rw[←HS.o]
 clear h hp
 go_enter Tryz.func247,Tryz.ntmps247
 go_wp2_with fail
 refine(HC.o).mono ?_
 rintro e w2 ⟨rfl,hb2⟩
 go_wp2_with fail
 go_ret
 exact⟨au (by rw[HS.o,←gX p l,←HR.o]),hb2⟩
theorem eU {w w':World} {a:Option Addr} {l:List fV} {c:Nat} (h:Vec xg 5 w a l c) (hb:Below w.heap.size w w') (k:Nat) (hk:k<l.length):
 w'.cell? (ad a (k*5))=some (.int .i64 l[k].id.1)∧w'.cell? ⟨(ad a (k*5)).block,(ad a (k*5)).off+1,none⟩=some (.int .i64 l[k].reg.base.1)∧w'.cell? ⟨(ad a (k*5)).block,(ad a (k*5)).off+2,none⟩=some (.int .i64 l[k].reg.size.1)∧w'.cell? ⟨(ad a (k*5)).block,(ad a (k*5)).off+3,none⟩=some (.bool l[k].keep)∧w'.cell? ⟨(ad a (k*5)).block,(ad a (k*5)).off+4,none⟩=some (.slice l[k].a l[k].img.length l[k].c):=by
 have h:=h.stay jZ hb
 exact⟨h.pW k hk AP rfl,h.field k hk 1 AP rfl,h.field k hk 2 AP rfl,h.field k hk 3 AP rfl,h.field k hk 4 AP rfl⟩
theorem ru {p:fV→Bool} (g:Nat) (lb:Array Value) (eg:∀args w,(callFunc g args).run Tryz.prog w= .ok (.enter g args) w) (w:World) (a:Option Addr) (l:List fV) (c:Nat) (h:Vec xg 5 w a l c) (hp:∀(W:World) (i:Nat) (hi:i<l.length),Below w.heap.size w W→Calls Tryz.prog g (#[.agg #[.int .i64 l[i].id.1, .int .i64 l[i].reg.base.1, .int .i64 l[i].reg.size.1, .bool l[i].keep, .slice l[i].a l[i].img.length l[i].c]]++lb) W fun e w'=>e= .returned (.bool (p l[i]))∧Below w.heap.size w w'):
 Calls Tryz.prog 191 #[.slice a l.length c, .func (.func g) #[] lb] w fun e w'=>e= .returned (.int .i64 (bQ p l))∧Below w.heap.size w w':=by
 obtain⟨R,HR⟩:=AU (bQ p l)
 rw[←HR.o]
 have hlen:=h.aI
 have HH:=AQ h
 have HP:=AQ hp
 clear h hp
 go_enter Tryz.func191,Tryz.ntmps191
 go_wp2_with fail
 go_loopw [8] (fun i wr=>∃(k:Nat),Hid (∀j (hj:j<l.length),j<k→p l[j]=false)∧k≤l.length∧i= .int .i64 k∧Below w.heap.size w wr) (fun i _=>l.length-(intOf i).toNat)
 case atStart=>exact⟨0,fun j hj h=>by omega,by omega,rfl,Below.refl _ _⟩
 case round=>
  obtain⟨k,ha,hk,rfl,B⟩:=hrel
  by_cases hlt:k<l.length
  ·have i0:=HH.o.index Eh k hlt
   obtain⟨d0,d1,d2,d3,d4⟩:=eU HH.o B k hlt
   have hcall:=HP.o wr k hlt B
   cases hq:p l[k] with
   |
    true=>
    rw[hq] at hcall
    have HF:Hid (R=k):=by rw[Hid,HR.o,gY p l k hlt ha.o hq]
    clear hq
    go_wp2_with fail
    refine(hcall).mono ?_
    rintro e w2 ⟨rfl,hb2⟩
    go_wp2_with fail
    go_ret
    exact⟨bM HF.o.symm,hb2⟩
   |
    false=>
    rw[hq] at hcall
    have HN:Hid (∀j (hj:j<l.length),j<k+1→p l[j]=false):=fun j hj h=>by
     rcases Nat.lt_or_ge j k with h1 |h1
     ·exact ha.o j hj h1
     ·obtain rfl:j=k:=by omega
      exact hq
    clear hq
    go_wp2_with fail
    refine(hcall).mono ?_
    rintro e w2 ⟨rfl,hb2⟩
    go_wp2_with fail
    go_roundw
    case rel=>exact⟨k+1,HN.o,by omega,by go_num,hb2⟩
    case measure=>simp[intOf];omega
  ·have HF:Hid (R= -1):=by rw[Hid,HR.o,gZ p l (fun j hj=>ha.o j hj AL)]
   go_wp2_with fail
   go_ret
   exact⟨bM HF.o.symm,B⟩
theorem uj {p:fV→Bool} (g:Nat) (lb:Array Value) (eg:∀args w,(callFunc g args).run Tryz.prog w= .ok (.enter g args) w) (w:World) (a:Option Addr) (l:List fV) (c:Nat) (h:Vec xg 5 w a l c) (hp:∀(W:World) (i:Nat) (hi:i<l.length),Below w.heap.size w W→Calls Tryz.prog g (#[.agg #[.int .i64 l[i].id.1, .int .i64 l[i].reg.base.1, .int .i64 l[i].reg.size.1, .bool l[i].keep, .slice l[i].a l[i].img.length l[i].c]]++lb) W fun e w'=>e= .returned (.bool (p l[i]))∧Below w.heap.size w w'):
 Calls Tryz.prog 112 #[.slice a l.length c, .func (.func g) #[] lb] w fun e w'=>e= .returned (.bool (l.any p))∧Below w.heap.size w w':=by
 have HC:=AQ (ru g lb eg w a l c h hp)
 obtain⟨R,HR⟩:=AU (bQ p l)
 obtain⟨S,HS⟩:=AU (l.any p)
 rw[←HR.o] at HC
 rw[←HS.o]
 clear h hp
 go_enter Tryz.func112,Tryz.ntmps112
 go_wp2_with fail
 refine(HC.o).mono ?_
 rintro e w2 ⟨rfl,hb2⟩
 go_wp2_with fail
 go_ret
 exact⟨au (by rw[HS.o,←gX p l,←HR.o]),hb2⟩
theorem Ap {p:Ch→Bool} (g:Nat) (lb:Array Value) (eg:∀args w,(callFunc g args).run Tryz.prog w= .ok (.enter g args) w) (w:World) (a:Option Addr) (l:List Ch) (c:Nat) (h:Vec xk 5 w a l c) (hp:∀(W:World) (i:Nat) (hi:i<l.length),Below w.heap.size w W→Calls Tryz.prog g (#[.agg #[.int .i64 l[i].id.1, .int .i64 l[i].src.1, .int .i64 l[i].dst.1, .int .i64 l[i].cap.1, .int .i64 l[i].size.1]]++lb) W fun e w'=>e= .returned (.bool (p l[i]))∧Below w.heap.size w w'):
 Calls Tryz.prog 260 #[.slice a l.length c, .func (.func g) #[] lb] w fun e w'=>e= .returned (.int .i64 (bQ p l))∧Below w.heap.size w w':=by
 obtain⟨R,HR⟩:=AU (bQ p l)
 rw[←HR.o]
 have hlen:=h.aI
 have HH:=AQ h
 have HP:=AQ hp
 clear h hp
 go_enter Tryz.func260,Tryz.ntmps260
 go_wp2_with fail
 go_loopw [8] (fun i wr=>∃(k:Nat),Hid (∀j (hj:j<l.length),j<k→p l[j]=false)∧k≤l.length∧i= .int .i64 k∧Below w.heap.size w wr) (fun i _=>l.length-(intOf i).toNat)
 case atStart=>exact⟨0,fun j hj h=>by omega,by omega,rfl,Below.refl _ _⟩
 case round=>
  obtain⟨k,ha,hk,rfl,B⟩:=hrel
  by_cases hlt:k<l.length
  ·have i0:=HH.o.index Gq k hlt
   obtain⟨d0,d1,d2,d3,d4⟩:=iQ HH.o B k hlt
   have hcall:=HP.o wr k hlt B
   cases hq:p l[k] with
   |
    true=>
    rw[hq] at hcall
    have HF:Hid (R=k):=by rw[Hid,HR.o,gY p l k hlt ha.o hq]
    clear hq
    go_wp2_with fail
    refine(hcall).mono ?_
    rintro e w2 ⟨rfl,hb2⟩
    go_wp2_with fail
    go_ret
    exact⟨bM HF.o.symm,hb2⟩
   |
    false=>
    rw[hq] at hcall
    have HN:Hid (∀j (hj:j<l.length),j<k+1→p l[j]=false):=fun j hj h=>by
     rcases Nat.lt_or_ge j k with h1 |h1
     ·exact ha.o j hj h1
     ·obtain rfl:j=k:=by omega
      exact hq
    clear hq
    go_wp2_with fail
    refine(hcall).mono ?_
    rintro e w2 ⟨rfl,hb2⟩
    go_wp2_with fail
    go_roundw
    case rel=>exact⟨k+1,HN.o,by omega,by go_num,hb2⟩
    case measure=>simp[intOf];omega
  ·have HF:Hid (R= -1):=by rw[Hid,HR.o,gZ p l (fun j hj=>ha.o j hj AL)]
   go_wp2_with fail
   go_ret
   exact⟨bM HF.o.symm,B⟩
theorem uF {p:Ch→Bool} (g:Nat) (lb:Array Value) (eg:∀args w,(callFunc g args).run Tryz.prog w= .ok (.enter g args) w) (w:World) (a:Option Addr) (l:List Ch) (c:Nat) (h:Vec xk 5 w a l c) (hp:∀(W:World) (i:Nat) (hi:i<l.length),Below w.heap.size w W→Calls Tryz.prog g (#[.agg #[.int .i64 l[i].id.1, .int .i64 l[i].src.1, .int .i64 l[i].dst.1, .int .i64 l[i].cap.1, .int .i64 l[i].size.1]]++lb) W fun e w'=>e= .returned (.bool (p l[i]))∧Below w.heap.size w w'):
 Calls Tryz.prog 253 #[.slice a l.length c, .func (.func g) #[] lb] w fun e w'=>e= .returned (.bool (l.any p))∧Below w.heap.size w w':=by
 have HC:=AQ (Ap g lb eg w a l c h hp)
 obtain⟨R,HR⟩:=AU (bQ p l)
 obtain⟨S,HS⟩:=AU (l.any p)
 rw[←HR.o] at HC
 rw[←HS.o]
 clear h hp
 go_enter Tryz.func253,Tryz.ntmps253
 go_wp2_with fail
 refine(HC.o).mono ?_
 rintro e w2 ⟨rfl,hb2⟩
 go_wp2_with fail
 go_ret
 exact⟨au (by rw[HS.o,←gX p l,←HR.o]),hb2⟩
end Go.Proofs.YtlholdllibghbaaGreat
