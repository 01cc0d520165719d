/- Texts of the proof, one behind the other: StaC, StaD. No condition but those that each names. -/
import Derived.Test.YtlholdllibghbaaGreatG15
import Derived.Test.YtlholdllibghbaaGreatG05
import Derived.Test.YtlholdllibghbaaGreatKit
set_option maxRecDepth 100000
set_option maxHeartbeats 8000000
namespace Go.Proofs.YtlholdllibghbaaGreat
open Go Go.RowKit Go.Cit
theorem Am {p:Sl UInt8→Bool} (g:Nat) (lb:Array Value) (eg:∀args w,(callFunc g args).run Tryz.prog w= .ok (.enter g args) w) (w:World) (a:Option Addr) (l:List (Sl UInt8)) (c:Nat) (h:Rows w a l c) (hp:∀(W:World),Below w.heap.size w W→∀x∈l,Calls Tryz.prog g (#[.slice x.a x.l.length x.c]++lb) W fun e w'=>e= .returned (.bool (p x))∧Below w.heap.size w w'):
 Calls Tryz.prog 231 #[.slice a l.length c, .func (.func g) #[] lb] w fun e w'=>e= .returned (.int .i64 (bQ p l))∧Below w.heap.size w w':=by
 obtain⟨R,HR⟩:=AU (bQ p l)
 rw[←HR.o]
 have hlen:=h.aI
 have HH:=AQ h
 have HP:=AQ hp
 clear h hp
 go_enter Tryz.func231,Tryz.ntmps231
 go_wp2_with fail
 go_loopw [8] (fun i wr=>∃(k:Nat),Hid (∀j (hj:j<l.length),j<k→p l[j]=false)∧k≤l.length∧i= .int .i64 k∧Below w.heap.size w wr) (fun i _=>l.length-(intOf i).toNat)
 case atStart=>exact⟨0,fun j hj h=>by omega,by omega,rfl,Below.refl _ _⟩
 case round=>
  obtain⟨k,ha,hk,rfl,B⟩:=hrel
  by_cases hlt:k<l.length
  ·have i0:=HH.o.vec.index rZ k hlt
   rw[Nat.mul_one] at i0
   have e0:=(gJ (HH.o.vec.stay jh B) fun d hd=>(HH.o.row d hd).stay B).cell k hlt
   obtain⟨x,hx⟩:∃x:Sl UInt8,Hid (x=l[k]):=⟨l[k],rfl⟩
   have hcall:=HP.o wr B l[k] (List.getElem_mem hlt)
   rw[←hx.o] at hcall e0
   have HC:=AQ hcall
   skip
   obtain⟨e,he⟩:=AU (p x)
   rw[←he.o] at HC
   clear hcall
   go_wp2_with fail
   refine(HC.o).mono ?_
   rintro e1 w2 ⟨rfl,hb2⟩
   cases e with
   |
    true=>
    have HF:Hid (R=k):=by rw[Hid,HR.o,gY p l k hlt ha.o (by rw[←hx.o,←he.o])]
    go_wp2_with fail
    go_ret
    exact⟨bM HF.o.symm,hb2⟩
   |
    false=>
    have HN:Hid (∀j (hj:j<l.length),j<k+1→p l[j]=false):=fun j hj h=>by
     rcases Nat.lt_or_ge j k with h1 |h1
     ·exact ha.o j hj h1
     ·obtain rfl:j=k:=by omega
      rw[←hx.o,←he.o]
    go_wp2_with fail
    go_roundw
    case rel=>exact⟨k+1,HN.o,by omega,by go_num,hb2⟩
    case measure=>simp[intOf];omega
  ·have HF:Hid (R= -1):=by rw[Hid,HR.o,gZ p l (fun j hj=>ha.o j hj AL)]
   go_wp2_with fail
   go_ret
   exact⟨bM HF.o.symm,B⟩
theorem sH {p:Sl UInt8→Bool} (g:Nat) (lb:Array Value) (eg:∀args w,(callFunc g args).run Tryz.prog w= .ok (.enter g args) w) (w:World) (a:Option Addr) (l:List (Sl UInt8)) (c:Nat) (h:Rows w a l c) (hp:∀(W:World),Below w.heap.size w W→∀x∈l,Calls Tryz.prog g (#[.slice x.a x.l.length x.c]++lb) W fun e w'=>e= .returned (.bool (p x))∧Below w.heap.size w w'):
 Calls Tryz.prog 183 #[.slice a l.length c, .func (.func g) #[] lb] w fun e w'=>e= .returned (.bool (l.any p))∧Below w.heap.size w w':=by
 have HC:=AQ (Am g lb eg w a l c h hp)
 obtain⟨R,HR⟩:=AU (bQ p l)
 obtain⟨S,HS⟩:=AU (l.any p)
 rw[←HR.o] at HC
 rw[←HS.o]
 clear h hp
 go_enter Tryz.func183,Tryz.ntmps183
 go_wp2_with fail
 refine(HC.o).mono ?_
 rintro e w2 ⟨rfl,hb2⟩
 go_wp2_with fail
 go_ret
 exact⟨au (by rw[HS.o,←gX p l,←HR.o]),hb2⟩
theorem BK {p:aK→Bool} (g:Nat) (lb:Array Value) (eg:∀args w,(callFunc g args).run Tryz.prog w= .ok (.enter g args) w) (w:World) (a:Option Addr) (l:List (aK)) (c:Nat) (h:Vec bG 14 w a l c) (hp:∀(W:World),Below w.heap.size w W→∀x∈l,Calls Tryz.prog g (#[.agg (bG x).toArray]++lb) W fun e w'=>e= .returned (.bool (p x))∧Below w.heap.size w w'):
 Calls Tryz.prog 99 #[.slice a l.length c, .func (.func g) #[] lb] w fun e w'=>e= .returned (.int .i64 (bQ p l))∧Below w.heap.size w w':=by
 obtain⟨R,HR⟩:=AU (bQ p l)
 rw[←HR.o]
 have hlen:=h.aI
 have HH:=AQ h
 have HP:=AQ hp
 clear h hp
 go_enter Tryz.func99,Tryz.ntmps99
 go_wp2_with fail
 go_loopw [8] (fun i wr=>∃(k:Nat),Hid (∀j (hj:j<l.length),j<k→p l[j]=false)∧k≤l.length∧i= .int .i64 k∧Below w.heap.size w wr) (fun i _=>l.length-(intOf i).toNat)
 case atStart=>exact⟨0,fun j hj h=>by omega,by omega,rfl,Below.refl _ _⟩
 case round=>
  obtain⟨k,ha,hk,rfl,B⟩:=hrel
  by_cases hlt:k<l.length
  ·have i0:=HH.o.index dD k hlt
   have e0:=HH.o.gV dD jo aH B k hlt
   obtain⟨x,hx⟩:∃x:aK,Hid (x=l[k]):=⟨l[k],rfl⟩
   have hcall:=HP.o wr B l[k] (List.getElem_mem hlt)
   rw[←hx.o] at hcall e0
   have HC:=AQ hcall
   have L1:=AQ e0
   clear e0
   obtain⟨e,he⟩:=AU (p x)
   rw[←he.o] at HC
   clear hcall
   go_wp2_with (with_reducible refine ku (o:=⟨some 15, .load _ (.tmp 14),_,_,_,_⟩) L1.o ?_)
   refine(HC.o).mono ?_
   rintro e1 w2 ⟨rfl,hb2⟩
   cases e with
   |
    true=>
    have HF:Hid (R=k):=by rw[Hid,HR.o,gY p l k hlt ha.o (by rw[←hx.o,←he.o])]
    go_wp2_with fail
    go_ret
    exact⟨bM HF.o.symm,hb2⟩
   |
    false=>
    have HN:Hid (∀j (hj:j<l.length),j<k+1→p l[j]=false):=fun j hj h=>by
     rcases Nat.lt_or_ge j k with h1 |h1
     ·exact ha.o j hj h1
     ·obtain rfl:j=k:=by omega
      rw[←hx.o,←he.o]
    go_wp2_with fail
    go_roundw
    case rel=>exact⟨k+1,HN.o,by omega,by go_num,hb2⟩
    case measure=>simp[intOf];omega
  ·have HF:Hid (R= -1):=by rw[Hid,HR.o,gZ p l (fun j hj=>ha.o j hj AL)]
   go_wp2_with fail
   go_ret
   exact⟨bM HF.o.symm,B⟩
theorem yM (w:World) (q:bF) (h:q.At w):Calls Tryz.prog 106 #[.agg (bZ q).toArray] w fun e w'=>e= .returned (.bool (mO q.kC))∧Below w.heap.size w w':=by
 obtain⟨m,hm⟩:=AU (oD q.ch)
 obtain⟨s,hs⟩:=AU (q.ms.any fun d=>zA q.ch.size.1 d.l)
 obtain⟨R,HR⟩:=AU ((m && (decide ((q.ms.length:Int)≤q.ch.cap.1) && !s)))
 rw[show mO q.kC=R by rw[HR.o,hm.o,hs.o];unfold mO bF.kC;rw[List.any_map,List.length_map];rfl]
 obtain⟨w0,hw0⟩:=AV (w.alloc (.cells (bZ q).toArray 51))
 have B0:Below w.heap.size w w0:=by rw[hw0];exact(Below.refl _ w).alloc (Nat.le_refl _) _
 have cx:∀(k:Nat) (v:Value),(bZ q)[k]? =some v→w0.cell? ⟨w.heap.size,k,none⟩=some v:=fun k v h=>by rw[hw0];exact oq w _ _ k h
 have c0:=cx 0 _ rfl
 have c1:=cx 1 _ rfl
 have c2:=cx 2 _ rfl
 have c3:=cx 3 _ rfl
 have c4:=cx 4 _ rfl
 have c5:=cx 5 _ rfl
 have HC:=AQ (jE w0 q.ch)
 rw[←hm.o] at HC
 have HD:Hid (∀w1,Below w0.heap.size w0 w1→Calls Tryz.prog 183 #[.slice q.a q.ms.length q.c, .func (.func 181) #[] #[.pointer (some ⟨w.heap.size,0,none⟩)]] w1 fun e w'=>e= .returned (.bool s)∧Below w1.heap.size w1 w'):=fun w1 hb=>by
  rw[hs.o]
  exact sH 181 #[.pointer (some ⟨w.heap.size,0,none⟩)] (enters_of Tryz.func181 AB rfl) w1 q.a q.ms q.c ((h.stay B0).stay hb).rows fun W hW x _=>(uU W w.heap.size q.ch.size (keep (hb.trans (hW.mono hb.size)) c4) x).mono fun e w' ⟨he,hw⟩=>⟨he,by rw[hw];exact hW⟩
 have HB0:=AQ B0
 clear B0 cx h
 go_enter Tryz.func106,Tryz.ntmps106
 go_upto_region 1 with fail
 rw[←hw0]
 clear hw0
 go_wp2_with fail
 refine HC.o.mono ?_
 rintro e w1 ⟨rfl,hb1⟩
 have HB1:=AQ (HB0.o.trans (hb1.mono HB0.o.size))
 have HD:=AQ (HD.o w1 hb1)
 have c0:=keep hb1 c0
 have c3:=keep hb1 c3
 have c5:=keep hb1 c5
 clear hb1 HC
 cases m with
 |
  false=>
  go_wp2_with fail
  go_ret
  exact⟨au (by rw[HR.o];rfl),HB1.o⟩
 |
  true=>
  go_wp2_with fail
  ·refine HD.o.mono ?_
   rintro e w2 ⟨rfl,hb2⟩
   have HB2:=AQ (HB1.o.trans (hb2.mono HB1.o.size))
   clear hb2
   go_wp2_with fail
   go_ret
   exact⟨au (by rw[HR.o];simp[*]),HB2.o⟩
  ·go_ret
   exact⟨au (by rw[HR.o];simp[*];omega),HB1.o⟩
open Go Go.RowKit Go.Cit
theorem fQ {α:Type} (id:α→Int) (ok:α→Bool):∀l:List α,fC id ok l=true↔∀j (h:j<l.length),ok l[j]=true∧∀h0:0<j,id l[j-1]<id l[j]
 | []=>by simp[fC]
 |
  [x]=>by
  simp only[fC,List.length_singleton]
  exact⟨fun h j hj=>⟨by
   obtain rfl:j=0:=by omega
   simpa using h,fun h0=>by omega⟩,fun h=>(h 0 AL).1⟩
 |
  x::y::l=>by
  rw[fC,Bool.and_eq_true,Bool.and_eq_true,decide_eq_true_eq,fQ id ok (y::l)]
  constructor
  ·rintro⟨h1,h2,h3⟩ j hj
   rcases j with _ |_ |j
   ·exact⟨h1,fun h0=>absurd h0 AP⟩
   ·exact⟨(h3 0 AO).1,fun _=>h2⟩
   ·have:=h3 (j+1) (by simpa using hj)
    exact⟨this.1,fun _=>this.2 AL⟩
  ·intro h
   refine⟨(h 0 AO).1,(h 1 AO).2 AP,fun j hj=> ?_⟩
   have:=h (j+1) (by simpa using hj)
   refine⟨this.1,fun h0=> ?_⟩
   have h2:=this.2 AL
   rcases j with _ |j
   ·omega
   ·exact h2
theorem wB {α:Type} (id:α→Int) (ok:α→Bool) (l:List α) (k:Nat) (h:k<l.length) (hn:ok l[k]=false∨∃h0:0<k,¬id l[k-1]<id l[k]):fC id ok l=false:=by
 cases hq:fC id ok l with
 | false=>rfl
 |
  true=>
  have:=(fQ id ok l).1 hq k h
  rcases hn with h1 |⟨h0,h1⟩
  ·rw[this.1] at h1;exact absurd h1 AP
  ·exact absurd (this.2 h0) h1
theorem nD {α β:Type} (f:α→β) (id:β→Int) (ok:β→Bool):∀l:List α,fC id ok (l.map f)=fC (fun x=>id (f x)) (fun x=>ok (f x)) l
 | []=>rfl
 | [_]=>rfl
 |
  x::y::l=>by
  have:=nD f id ok (y::l)
  rw[List.map_cons] at this
  rw[List.map_cons,List.map_cons,fC,this];rfl
def Jb (s:bU) (B b k:Nat) (y z:Int) (X:Array Value) (e g d:Bool):Nat→Value
 | 35=>(.agg X)
 | 36=>(.bool e)
 | 37=>(.bool (!e))
 | 38=>(.bool (!e))
 | 39=>(bif (!(!e)) then (.int .i64 (k:Int)) else undef)
 | 40=>(bif (!(!e)) then (.bool g) else undef)
 | 41=>(bif (!(!e)) then (.bool g) else undef)
 | 42=>(bif ((!(!e)) && g) then (.pointer (some ⟨B,1,none⟩)) else undef)
 | 43=>(bif ((!(!e)) && g) then (.slice s.pa s.ps.length s.pc) else undef)
 | 44=>(bif ((!(!e)) && g) then (.int .i64 (k:Int)) else undef)
 | 45=>(bif ((!(!e)) && g) then (.int .i64 ((k-1:Nat):Int)) else undef)
 | 46=>(bif ((!(!e)) && g) then (.pointer (some (ad s.pa ((k-1)*14)))) else undef)
 | 47=>(bif ((!(!e)) && g) then (.pointer (some (ad s.pa ((k-1)*14)))) else undef)
 | 48=>(bif ((!(!e)) && g) then (.int .i64 y) else undef)
 | 49=>(bif ((!(!e)) && g) then (.pointer (some ⟨b,0,none⟩)) else undef)
 | 50=>(bif ((!(!e)) && g) then (.int .i64 z) else undef)
 | 51=>(bif ((!(!e)) && g) then (.bool d) else undef)
 | 52=>(bif (!(!e)) then (.bool (g && d)) else undef)
 | 53=>(.bool ((!e) || (g && d)))
 | _=>undef
def IC (_:bU) (B b k:Nat) (_ _:Int) (_:Array Value) (_ _ _:Bool):Nat→Value
 | 1=>(.pointer (some ⟨B,0,none⟩))
 | 3=>(.int .i64 (k:Int))
 | 4=>(.pointer (some ⟨b,0,none⟩))
 | _=>undef
def sd2 (s:bU) (B b k:Nat) (y z:Int) (X:Array Value) (e g d:Bool):Nat→Value
 | 63=>(.agg X)
 | 64=>(.bool e)
 | 65=>(.bool (!e))
 | 66=>(.bool (!e))
 | 67=>(bif (!(!e)) then (.int .i64 (k:Int)) else undef)
 | 68=>(bif (!(!e)) then (.bool g) else undef)
 | 69=>(bif (!(!e)) then (.bool g) else undef)
 | 70=>(bif ((!(!e)) && g) then (.pointer (some ⟨B,2,none⟩)) else undef)
 | 71=>(bif ((!(!e)) && g) then (.slice s.qa s.qs.length s.qc) else undef)
 | 72=>(bif ((!(!e)) && g) then (.int .i64 (k:Int)) else undef)
 | 73=>(bif ((!(!e)) && g) then (.int .i64 ((k-1:Nat):Int)) else undef)
 | 74=>(bif ((!(!e)) && g) then (.pointer (some (ad s.qa ((k-1)*6)))) else undef)
 | 75=>(bif ((!(!e)) && g) then (.pointer (some (ad s.qa ((k-1)*6)))) else undef)
 | 76=>(bif ((!(!e)) && g) then (.pointer (some (ad s.qa ((k-1)*6)))) else undef)
 | 77=>(bif ((!(!e)) && g) then (.int .i64 y) else undef)
 | 78=>(bif ((!(!e)) && g) then (.pointer (some ⟨b,0,none⟩)) else undef)
 | 79=>(bif ((!(!e)) && g) then (.pointer (some ⟨b,0,none⟩)) else undef)
 | 80=>(bif ((!(!e)) && g) then (.int .i64 z) else undef)
 | 81=>(bif ((!(!e)) && g) then (.bool d) else undef)
 | 82=>(bif (!(!e)) then (.bool (g && d)) else undef)
 | 83=>(.bool ((!e) || (g && d)))
 | _=>undef
def Ik (_:bU) (B b k:Nat) (_ _:Int) (_:Array Value) (_ _ _:Bool):Nat→Value
 | 1=>(.pointer (some ⟨B,0,none⟩))
 | 5=>(.int .i64 (k:Int))
 | 6=>(.pointer (some ⟨b,0,none⟩))
 | _=>undef
theorem jF (w:World) (s:bU) (h:s.At w):Calls Tryz.prog 45 #[.agg (dO s).toArray] w fun e w'=>e= .returned (.bool (jR s.fG))∧Below w.heap.size w w':=by
 obtain⟨R1,HR1⟩:=AU (fC (fun p:aK=>p.id.1) (fun p=>mF p.prt) s.ps)
 obtain⟨R2,HR2⟩:=AU (fC (fun p:bF=>p.ch.id.1) (fun p=>mO p.kC) s.qs)
 obtain⟨R,HR⟩:=AU ((decide (0≤s.fr.1∧s.fr.1≤1099511627776) && (decide (s.ps.length≤6) && (decide (s.qs.length≤8) && (R1 && R2)))))
 rw[show jR s.fG=R by
  have e1:=nD aK.prt (fun p:qg=>p.id.1) mF s.ps
  have e2:=nD bF.kC (fun q:yP=>q.ch.id.1) mO s.qs
  rw[HR.o,HR1.o,HR2.o];unfold jR bU.fG
  simp only[List.length_map]
  rw[e1,e2];rfl]
 obtain⟨w0,hw0⟩:=AV (w.alloc (.cells (dO s).toArray 32))
 have B0:Below w.heap.size w w0:=by rw[hw0];exact(Below.refl _ w).alloc (Nat.le_refl _) _
 have cx:∀(k:Nat) (v:Value),(dO s)[k]? =some v→w0.cell? ⟨w.heap.size,k,none⟩=some v:=fun k v h=>by rw[hw0];exact oq w _ _ k h
 have c0:=cx 0 _ rfl
 have c1:=cx 1 _ rfl
 have c2:=cx 2 _ rfl
 have hl1:=h.pts.aI
 have hl2:=h.wJ.aI
 have HB0:=AQ B0
 have HS:=AQ (h.stay B0)
 clear B0 cx h
 go_enter Tryz.func45,Tryz.ntmps45
 go_upto_region 1 with fail
 rw[←hw0]
 clear hw0
 go_upto_region 4 with fail
 all_goals first
  | (go_ret;refine⟨au ?_,HB0.o⟩;rw[HR.o];simp[*];done)
  | (go_ret;refine⟨au ?_,HB0.o⟩;rw[HR.o];simp;omega)
  | skip
 have HG:Hid (R=(R1 && R2)):=by rw[Hid,HR.o,decide_eq_true AL,decide_eq_true AL,decide_eq_true AL];rfl
 clear HR
 have C1:=AQ c1
 have C2:=AQ c2
 clear c0
 go_loopw [30] (fun i wr=>∃(k:Nat),Hid (∀j (hj:j<s.ps.length),j<k→mF s.ps[j].prt=true∧∀h0:0<j,s.ps[j-1].id.1<s.ps[j].id.1)∧k≤s.ps.length∧i= .int .i64 k∧Below w0.heap.size w0 wr) (fun i _=>s.ps.length-(intOf i).toNat)
 case atStart=>exact⟨0,fun j hj h=>by omega,by omega,rfl,Below.refl _ _⟩
 case round=>
  obtain⟨k,ha,hk,rfl,B⟩:=hrel
  by_cases hlt:k<s.ps.length
  ·have i0:=HS.o.pts.index dD k hlt
   obtain⟨X,hX⟩:∃X,Hid (X=(bG s.ps[k]).toArray):=⟨(bG s.ps[k]).toArray,rfl⟩
   have L1:=AQ (HS.o.pts.gV dD jo aH B k hlt)
   rw[←hX.o] at L1
   have HX:=AQ (And.intro (show X.size=14 by rw[hX.o,List.size_toArray,aH]) (show X.all (·.oneCell')=true by rw[hX.o];exact Array.all_eq_true_iff_forall_mem.2 fun v hv=>gu _ v (by simpa using hv)))
   obtain⟨wb,hwb⟩:=AV (wr.alloc (.cells X 42))
   have hbb:Below wr.heap.size wr wb:=by rw[hwb];exact(Below.refl _ _).alloc (Nat.le_refl _) _
   have bX:wb.heap[wr.heap.size]? =some (.cells X 42 (0,0)):=by rw[hwb];exact heap_alloc_new _ _
   obtain⟨e,he⟩:∃e,Hid (e=mF s.ps[k].prt):=⟨mF s.ps[k].prt,rfl⟩
   have HBB:=AQ (B.trans (hbb.mono B.size))
   have HK:Hid (∀q:After wb,Calls Tryz.prog 105 #[.agg X] q.to fun r w'=>r= .returned (.bool e)∧Below q.to.heap.size q.to w'):=fun q=>by rw[hX.o,he.o];exact vH q.to s.ps[k]
   have L2:∀q:After wb,(Instr.loadAt 42 (.pointer (some ⟨wr.heap.size,0,none⟩))).run Tryz.prog q.to= .ok (.agg X) q.to:=fun q=>by
    have hb:=ay bX q.bel
    exact fE (C:=X.toList) jo dD.sz (by rw[Array.length_toList];exact HX.o.1) (fun j v hv=>by rw[show(⟨wr.heap.size,0,none⟩:Addr).add j=⟨wr.heap.size,j,none⟩ by unfold Addr.add;split<;>simp_all];rw[World.cell?,hb];simpa using hv)
   have c1q:∀q:After wb,q.to.cell? ⟨w.heap.size,1,none⟩=some (.slice s.pa s.ps.length s.pc):=fun q=>q.cell (keep HBB.o C1.o)
   obtain⟨z,hz⟩:∃z:Int,Hid (z=s.ps[k].id.1):=⟨s.ps[k].id.1,rfl⟩
   have c0q:∀q:After wb,q.to.cell? ⟨wr.heap.size,0,none⟩=some (.int .i64 z):=fun q=>q.cell (by rw[World.cell?,bX,hX.o,hz.o];rfl)
   obtain⟨y,hy⟩:∃y:Int,Hid (∀h0:0<k,y=s.ps[k-1].id.1):=⟨if h0:0<k then s.ps[k-1].id.1 else 0,fun h0=>by rw[dif_pos h0]⟩
   have i1:(0:Int)<(k:Int)→∀w,_:=fun h=>HS.o.pts.index dD (k-1) AL
   have u1:(0:Int)<(k:Int)→∀q:After wb,q.to.cell? (ad s.pa ((k-1)*14))=some (.int .i64 y):=fun h q=>by
    rw[hy.o AL]
    exact(HS.o.pts.stay aH (HBB.o.trans (q.bel.mono HBB.o.size))).cell (k-1) AL 0 AP
   obtain⟨g,hg⟩:∃g,Hid (decide ((0:Int)<(k:Int))=g):=⟨_,rfl⟩
   obtain⟨d,hd⟩:∃d,Hid (decide ((z:Int)≤y)=d):=⟨_,rfl⟩
   obtain⟨R3,HR3⟩:=AU (((!e) || (g && d)))
   have HN:R3=false→Hid (∀j (hj:j<s.ps.length),j<k+1→mF s.ps[j].prt=true∧∀h0:0<j,s.ps[j-1].id.1<s.ps[j].id.1):=fun h1 j hj h=>by
    rcases Nat.lt_or_ge j k with h3 |h3
    ·exact ha.o j hj h3
    ·obtain rfl:j=k:=by omega
     rw[HR3.o] at h1
     cases e with
     | false=>simp at h1
     |
      true=>
      refine⟨he.o.symm,fun h0=> ?_⟩
      have h4:g=true:=by rw[←hg.o];exact decide_eq_true AL
      rw[h4] at h1
      have h5:d=false:=by simpa using h1
      have h6:=of_decide_eq_false (hd.o.trans h5)
      rw[hz.o,hy.o h0] at h6
      omega
   have HNO:R3=true→Hid (R=false):=fun h1=>by
    rw[Hid,HG.o,HR1.o,wB _ _ _ k hlt ?_,Bool.false_and]
    rw[HR3.o] at h1
    cases e with
    | false=>exact .inl he.o.symm
    |
     true=>
     have h2:g=true∧d=true:=by simpa using h1
     have h3:=of_decide_eq_true (hg.o.trans h2.1)
     have h4:=of_decide_eq_true (hd.o.trans h2.2)
     refine .inr ⟨by omega, ?_⟩
     rw[hz.o,hy.o AL] at h4
     omega
   go_upto_region 6 with (first
    | (with_reducible refine ku (o:=⟨some 34, .load _ (.tmp 33),_,_,_,_⟩) L1.o ?_)
    | (with_reducible refine yD (d:=4) (X:=X) dR oh HX.o.1 HX.o.2 ?_))
   rw[←hwb]
   clear hwb L1 i0 B hbb bX
   refine jH (Jb s w.heap.size wr.heap.size k y z X e g d) (IC s w.heap.size wr.heap.size k y z X e g d) [1,3,4] AB AB AB ⟨rfl,rfl,rfl,trivial⟩ ?_ ?_
   ·refine ah ?_ (ah ?_ (ah ?_ (ah ?_ (ah ?_ (ah ?_ (ah ?_ (ah ?_ (ah ?_ (ah ?_ (ah ?_ (ah ?_ (ah ?_ (ah ?_ (ah ?_ (ah ?_ (ah ?_ (ah ?_ (ah ?_ dL))))))))))))))))))
    all_goals intro a hk
    ·
     exact .inl ⟨aj rfl,jC (.tmp 4) rfl (show a.eval (.tmp 4)=(.pointer (some ⟨wr.heap.size,0,none⟩)) from hk.old 4 AB AB) (v:=(.agg X)) (fun q=>L2 q) rfl⟩
    ·
     exact .inl ⟨aj rfl,D8 rfl rfl #[(.agg X)] (fun w=>AB) (by simp only[List.map_toArray,List.map_cons,List.map_nil,(show a.eval (.tmp 35)=(.agg X) from hk.slot 35 AB)]) (v:=(.bool e)) (fun q=>HK.o q) rfl⟩
    ·
     exact .inl ⟨aj rfl,Fv rfl _ (show a.eval (.tmp 36)=(.bool e) from hk.slot 36 AB) rfl⟩
    ·
     exact .inl ⟨aj rfl,jQ (.tmp 37) rfl (show a.eval (.tmp 37)=(.bool (!e)) from hk.slot 37 AB)⟩
    ·
     cases e with
     |
      true=>
      exact .inl ⟨aG 38 false AB (show a.eval (.tmp 38)=(.bool (!true)) from hk.slot 38 AB),jQ (.tmp 3) rfl (show a.eval (.tmp 3)=(.int .i64 (k:Int)) from hk.old 3 AB AB)⟩
     |
      false=>
      exact .inr ⟨aB 38 false AB (show a.eval (.tmp 38)=(.bool (!false)) from hk.slot 38 AB),rfl⟩
    ·
     cases e with
     |
      true=>
      exact .inl ⟨aG 38 false AB (show a.eval (.tmp 38)=(.bool (!true)) from hk.slot 38 AB),rG rfl (show a.eval (.tmp 39)=(.int .i64 (k:Int)) from hk.slot 39 AB) rfl (v:= .bool (decide ((0:Int)<(k:Int)))) (fun w=>AB) (congrArg Value.bool (hg.o))⟩
     |
      false=>
      exact .inr ⟨aB 38 false AB (show a.eval (.tmp 38)=(.bool (!false)) from hk.slot 38 AB),rfl⟩
    ·
     cases e with
     |
      true=>
      exact .inl ⟨aG 38 false AB (show a.eval (.tmp 38)=(.bool (!true)) from hk.slot 38 AB),jQ (.tmp 40) rfl (show a.eval (.tmp 40)=(.bool g) from hk.slot 40 AB)⟩
     |
      false=>
      exact .inr ⟨aB 38 false AB (show a.eval (.tmp 38)=(.bool (!false)) from hk.slot 38 AB),rfl⟩
    ·
     cases e with
     |
      true=>
      cases g with
      |
       true=>
       exact .inl ⟨aG 41 true AB (show a.eval (.tmp 41)=(.bool true) from hk.slot 41 AB),iI (.tmp 1) rfl (show a.eval (.tmp 1)=(.pointer (some ⟨w.heap.size,0,none⟩)) from hk.old 1 AB AB) (v:=(.pointer (some ⟨w.heap.size,1,none⟩))) (fun w=>AB) rfl⟩
      |
       false=>
       exact .inr ⟨aB 41 true AB (show a.eval (.tmp 41)=(.bool false) from hk.slot 41 AB),rfl⟩
     |
      false=>
      exact .inr ⟨aC 41 true AB (show a.eval (.tmp 41)=undef from hk.slot 41 AB),rfl⟩
    ·
     cases e with
     |
      true=>
      cases g with
      |
       true=>
       exact .inl ⟨aG 41 true AB (show a.eval (.tmp 41)=(.bool true) from hk.slot 41 AB),jC (.tmp 42) rfl (show a.eval (.tmp 42)=(.pointer (some ⟨w.heap.size,1,none⟩)) from hk.slot 42 AB) (v:=(.slice s.pa s.ps.length s.pc)) (fun q=>bg (fun w=>AB) (c1q q)) rfl⟩
      |
       false=>
       exact .inr ⟨aB 41 true AB (show a.eval (.tmp 41)=(.bool false) from hk.slot 41 AB),rfl⟩
     |
      false=>
      exact .inr ⟨aC 41 true AB (show a.eval (.tmp 41)=undef from hk.slot 41 AB),rfl⟩
    ·
     cases e with
     |
      true=>
      cases g with
      |
       true=>
       exact .inl ⟨aG 41 true AB (show a.eval (.tmp 41)=(.bool true) from hk.slot 41 AB),jQ (.tmp 3) rfl (show a.eval (.tmp 3)=(.int .i64 (k:Int)) from hk.old 3 AB AB)⟩
      |
       false=>
       exact .inr ⟨aB 41 true AB (show a.eval (.tmp 41)=(.bool false) from hk.slot 41 AB),rfl⟩
     |
      false=>
      exact .inr ⟨aC 41 true AB (show a.eval (.tmp 41)=undef from hk.slot 41 AB),rfl⟩
    ·
     cases e with
     |
      true=>
      cases g with
      |
       true=>
       exact .inl ⟨aG 41 true AB (show a.eval (.tmp 41)=(.bool true) from hk.slot 41 AB),rG rfl (show a.eval (.tmp 44)=(.int .i64 (k:Int)) from hk.slot 44 AB) rfl (v:=(.int .i64 ((k-1:Nat):Int))) (fun w=>by have:=of_decide_eq_true hg.o;go_simp;exact(IntWalk.i64_in _ AL).trans AL) rfl⟩
      |
       false=>
       exact .inr ⟨aB 41 true AB (show a.eval (.tmp 41)=(.bool false) from hk.slot 41 AB),rfl⟩
     |
      false=>
      exact .inr ⟨aC 41 true AB (show a.eval (.tmp 41)=undef from hk.slot 41 AB),rfl⟩
    ·
     cases e with
     |
      true=>
      cases g with
      |
       true=>
       exact .inl ⟨aG 41 true AB (show a.eval (.tmp 41)=(.bool true) from hk.slot 41 AB),zI (.tmp 43) (.tmp 45) rfl (show a.eval (.tmp 43)=(.slice s.pa s.ps.length s.pc) from hk.slot 43 AB) (show a.eval (.tmp 45)=(.int .i64 ((k-1:Nat):Int)) from hk.slot 45 AB) (v:=(.pointer (some (ad s.pa ((k-1)*14))))) (fun w=>i1 (of_decide_eq_true hg.o) w) rfl⟩
      |
       false=>
       exact .inr ⟨aB 41 true AB (show a.eval (.tmp 41)=(.bool false) from hk.slot 41 AB),rfl⟩
     |
      false=>
      exact .inr ⟨aC 41 true AB (show a.eval (.tmp 41)=undef from hk.slot 41 AB),rfl⟩
    ·
     cases e with
     |
      true=>
      cases g with
      |
       true=>
       exact .inl ⟨aG 41 true AB (show a.eval (.tmp 41)=(.bool true) from hk.slot 41 AB),iI (.tmp 46) rfl (show a.eval (.tmp 46)=(.pointer (some (ad s.pa ((k-1)*14)))) from hk.slot 46 AB) (v:=(.pointer (some (ad s.pa ((k-1)*14))))) (fun w=>AB) rfl⟩
      |
       false=>
       exact .inr ⟨aB 41 true AB (show a.eval (.tmp 41)=(.bool false) from hk.slot 41 AB),rfl⟩
     |
      false=>
      exact .inr ⟨aC 41 true AB (show a.eval (.tmp 41)=undef from hk.slot 41 AB),rfl⟩
    ·
     cases e with
     |
      true=>
      cases g with
      |
       true=>
       exact .inl ⟨aG 41 true AB (show a.eval (.tmp 41)=(.bool true) from hk.slot 41 AB),jC (.tmp 47) rfl (show a.eval (.tmp 47)=(.pointer (some (ad s.pa ((k-1)*14)))) from hk.slot 47 AB) (v:=(.int .i64 y)) (fun q=>bg (fun w=>AB) (u1 (of_decide_eq_true hg.o) q)) rfl⟩
      |
       false=>
       exact .inr ⟨aB 41 true AB (show a.eval (.tmp 41)=(.bool false) from hk.slot 41 AB),rfl⟩
     |
      false=>
      exact .inr ⟨aC 41 true AB (show a.eval (.tmp 41)=undef from hk.slot 41 AB),rfl⟩
    ·
     cases e with
     |
      true=>
      cases g with
      |
       true=>
       exact .inl ⟨aG 41 true AB (show a.eval (.tmp 41)=(.bool true) from hk.slot 41 AB),iI (.tmp 4) rfl (show a.eval (.tmp 4)=(.pointer (some ⟨wr.heap.size,0,none⟩)) from hk.old 4 AB AB) (v:=(.pointer (some ⟨wr.heap.size,0,none⟩))) (fun w=>AB) rfl⟩
      |
       false=>
       exact .inr ⟨aB 41 true AB (show a.eval (.tmp 41)=(.bool false) from hk.slot 41 AB),rfl⟩
     |
      false=>
      exact .inr ⟨aC 41 true AB (show a.eval (.tmp 41)=undef from hk.slot 41 AB),rfl⟩
    ·
     cases e with
     |
      true=>
      cases g with
      |
       true=>
       exact .inl ⟨aG 41 true AB (show a.eval (.tmp 41)=(.bool true) from hk.slot 41 AB),jC (.tmp 49) rfl (show a.eval (.tmp 49)=(.pointer (some ⟨wr.heap.size,0,none⟩)) from hk.slot 49 AB) (v:=(.int .i64 z)) (fun q=>bg (fun w=>AB) (c0q q)) rfl⟩
      |
       false=>
       exact .inr ⟨aB 41 true AB (show a.eval (.tmp 41)=(.bool false) from hk.slot 41 AB),rfl⟩
     |
      false=>
      exact .inr ⟨aC 41 true AB (show a.eval (.tmp 41)=undef from hk.slot 41 AB),rfl⟩
    ·
     cases e with
     |
      true=>
      cases g with
      |
       true=>
       exact .inl ⟨aG 41 true AB (show a.eval (.tmp 41)=(.bool true) from hk.slot 41 AB),rG rfl (show a.eval (.tmp 48)=(.int .i64 y) from hk.slot 48 AB) (show a.eval (.tmp 50)=(.int .i64 z) from hk.slot 50 AB) (v:= .bool (decide ((z:Int)≤y))) (fun w=>AB) (congrArg Value.bool (hd.o))⟩
      |
       false=>
       exact .inr ⟨aB 41 true AB (show a.eval (.tmp 41)=(.bool false) from hk.slot 41 AB),rfl⟩
     |
      false=>
      exact .inr ⟨aC 41 true AB (show a.eval (.tmp 41)=undef from hk.slot 41 AB),rfl⟩
    ·
     cases e with
     |
      true=>
      cases g with
      |
       true=>
       exact .inl ⟨aG 38 false AB (show a.eval (.tmp 38)=(.bool (!true)) from hk.slot 38 AB),jK rfl true (show a.eval (.tmp 41)=(.bool true) from hk.slot 41 AB) (show a.eval (.tmp 51)=(.bool d) from hk.slot 51 AB)⟩
      |
       false=>
       exact .inl ⟨aG 38 false AB (show a.eval (.tmp 38)=(.bool (!true)) from hk.slot 38 AB),jK rfl false (show a.eval (.tmp 41)=(.bool false) from hk.slot 41 AB) rfl⟩
     |
      false=>
      exact .inr ⟨aB 38 false AB (show a.eval (.tmp 38)=(.bool (!false)) from hk.slot 38 AB),rfl⟩
    ·
     cases e with
     |
      true=>
      exact .inl ⟨aj rfl,jK rfl false (show a.eval (.tmp 38)=(.bool (!true)) from hk.slot 38 AB) (show a.eval (.tmp 52)=(.bool (g && d)) from hk.slot 52 AB)⟩
     |
      false=>
      exact .inl ⟨aj rfl,jK rfl true (show a.eval (.tmp 38)=(.bool (!false)) from hk.slot 38 AB) rfl⟩
   intro a ⟨w1,hb1⟩ hsame hall
   have he:=fB hsame [35,36,37,38,39,40,41,42,43,44,45,46,47,48,49,50,51,52,53] AB
   simp only[List.foldl_cons,List.foldl_nil] at he
   rw[show a.eval (.tmp 53)=(.bool R3) from(hall 53 AB).trans (congrArg Value.bool HR3.o.symm)] at he
   generalize a.eval (.tmp 35)=x35 at he
   generalize a.eval (.tmp 36)=x36 at he
   generalize a.eval (.tmp 37)=x37 at he
   generalize a.eval (.tmp 38)=x38 at he
   generalize a.eval (.tmp 39)=x39 at he
   generalize a.eval (.tmp 40)=x40 at he
   generalize a.eval (.tmp 41)=x41 at he
   generalize a.eval (.tmp 42)=x42 at he
   generalize a.eval (.tmp 43)=x43 at he
   generalize a.eval (.tmp 44)=x44 at he
   generalize a.eval (.tmp 45)=x45 at he
   generalize a.eval (.tmp 46)=x46 at he
   generalize a.eval (.tmp 47)=x47 at he
   generalize a.eval (.tmp 48)=x48 at he
   generalize a.eval (.tmp 49)=x49 at he
   generalize a.eval (.tmp 50)=x50 at he
   generalize a.eval (.tmp 51)=x51 at he
   generalize a.eval (.tmp 52)=x52 at he
   simp only[iK] at he
   dsimp only[List.set_cons_zero,List.set_cons_succ] at he
   subst he
   clear hsame hall
   dsimp only
   have HB2:=AQ (HBB.o.trans (hb1.mono HBB.o.size))
   clear hb1
   cases R3 with
   |
    true=>
    have HF:=HNO rfl
    clear HN HNO
    go_wp2_with fail
    go_ret
    exact⟨au HF.o.symm,HB0.o.trans (HB2.o.mono HB0.o.size)⟩
   |
    false=>
    have HN:=HN rfl
    clear HNO i1 u1
    go_wp2_with fail
    go_roundw
    case rel=>exact⟨k+1,HN.o,by omega,by go_num,HB2.o⟩
    case measure=>simp[intOf];omega
  ·have HB1:=AQ B
   have HP1:Hid (R1=true):=by rw[Hid,HR1.o];exact(fQ _ _ _).2 fun j hj=>ha.o j hj AL
   have HG2:Hid (R=R2):=by rw[Hid,HG.o,HP1.o,Bool.true_and]
   have c2:=keep B C2.o
   clear B
   go_upto_region 10 with fail
   go_loopw [58] (fun i wr=>∃(k:Nat),Hid (∀j (hj:j<s.qs.length),j<k→mO s.qs[j].kC=true∧∀h0:0<j,s.qs[j-1].ch.id.1<s.qs[j].ch.id.1)∧k≤s.qs.length∧i= .int .i64 k∧Below w0.heap.size w0 wr) (fun i _=>s.qs.length-(intOf i).toNat)
   case atStart=>exact⟨0,fun j hj h=>by omega,by omega,rfl,HB1.o⟩
   case round=>
    obtain⟨k,ha,hk,rfl,B⟩:=hrel
    by_cases hlt:k<s.qs.length
    ·have i0:=HS.o.wJ.index fF k hlt
     obtain⟨X,hX⟩:∃X,Hid (X=(bZ s.qs[k]).toArray):=⟨(bZ s.qs[k]).toArray,rfl⟩
     have L1:=AQ (HS.o.wJ.gV fF pI aT B k hlt)
     rw[←hX.o] at L1
     have HX:=AQ (And.intro (show X.size=6 by rw[hX.o,List.size_toArray,aT]) (show X.all (·.oneCell')=true by rw[hX.o];exact Array.all_eq_true_iff_forall_mem.2 fun v hv=>fZ _ v (by simpa using hv)))
     obtain⟨wb,hwb⟩:=AV (wr.alloc (.cells X 51))
     have hbb:Below wr.heap.size wr wb:=by rw[hwb];exact(Below.refl _ _).alloc (Nat.le_refl _) _
     have bX:wb.heap[wr.heap.size]? =some (.cells X 51 (0,0)):=by rw[hwb];exact heap_alloc_new _ _
     obtain⟨e,he⟩:∃e,Hid (e=mO s.qs[k].kC):=⟨mO s.qs[k].kC,rfl⟩
     have HBB:=AQ (B.trans (hbb.mono B.size))
     have HK:Hid (∀q:After wb,Calls Tryz.prog 106 #[.agg X] q.to fun r w'=>r= .returned (.bool e)∧Below q.to.heap.size q.to w'):=fun q=>by rw[hX.o,he.o];exact yM q.to s.qs[k] ((HS.o.msg _ (List.getElem_mem hlt)).stay (HBB.o.trans (q.bel.mono HBB.o.size)))
     have L2:∀q:After wb,(Instr.loadAt 51 (.pointer (some ⟨wr.heap.size,0,none⟩))).run Tryz.prog q.to= .ok (.agg X) q.to:=fun q=>by
      have hb:=ay bX q.bel
      exact fE (C:=X.toList) pI fF.sz (by rw[Array.length_toList];exact HX.o.1) (fun j v hv=>by rw[show(⟨wr.heap.size,0,none⟩:Addr).add j=⟨wr.heap.size,j,none⟩ by unfold Addr.add;split<;>simp_all];rw[World.cell?,hb];simpa using hv)
     have c1q:∀q:After wb,q.to.cell? ⟨w.heap.size,2,none⟩=some (.slice s.qa s.qs.length s.qc):=fun q=>q.cell (keep HBB.o C2.o)
     obtain⟨z,hz⟩:∃z:Int,Hid (z=s.qs[k].ch.id.1):=⟨s.qs[k].ch.id.1,rfl⟩
     have c0q:∀q:After wb,q.to.cell? ⟨wr.heap.size,0,none⟩=some (.int .i64 z):=fun q=>q.cell (by rw[World.cell?,bX,hX.o,hz.o];rfl)
     obtain⟨y,hy⟩:∃y:Int,Hid (∀h0:0<k,y=s.qs[k-1].ch.id.1):=⟨if h0:0<k then s.qs[k-1].ch.id.1 else 0,fun h0=>by rw[dif_pos h0]⟩
     have i1:(0:Int)<(k:Int)→∀w,_:=fun h=>HS.o.wJ.index fF (k-1) AL
     have u1:(0:Int)<(k:Int)→∀q:After wb,q.to.cell? (ad s.qa ((k-1)*6))=some (.int .i64 y):=fun h q=>by
      rw[hy.o AL]
      exact(HS.o.wJ.stay aT (HBB.o.trans (q.bel.mono HBB.o.size))).cell (k-1) AL 0 AP
     obtain⟨g,hg⟩:∃g,Hid (decide ((0:Int)<(k:Int))=g):=⟨_,rfl⟩
     obtain⟨d,hd⟩:∃d,Hid (decide ((z:Int)≤y)=d):=⟨_,rfl⟩
     obtain⟨R3,HR3⟩:=AU (((!e) || (g && d)))
     have HN:R3=false→Hid (∀j (hj:j<s.qs.length),j<k+1→mO s.qs[j].kC=true∧∀h0:0<j,s.qs[j-1].ch.id.1<s.qs[j].ch.id.1):=fun h1 j hj h=>by
      rcases Nat.lt_or_ge j k with h3 |h3
      ·exact ha.o j hj h3
      ·obtain rfl:j=k:=by omega
       rw[HR3.o] at h1
       cases e with
       | false=>simp at h1
       |
        true=>
        refine⟨he.o.symm,fun h0=> ?_⟩
        have h4:g=true:=by rw[←hg.o];exact decide_eq_true AL
        rw[h4] at h1
        have h5:d=false:=by simpa using h1
        have h6:=of_decide_eq_false (hd.o.trans h5)
        rw[hz.o,hy.o h0] at h6
        omega
     have HNO:R3=true→Hid (R=false):=fun h1=>by
      rw[Hid,HG2.o,HR2.o,wB _ _ _ k hlt ?_]
      rw[HR3.o] at h1
      cases e with
      | false=>exact .inl he.o.symm
      |
       true=>
       have h2:g=true∧d=true:=by simpa using h1
       have h3:=of_decide_eq_true (hg.o.trans h2.1)
       have h4:=of_decide_eq_true (hd.o.trans h2.2)
       refine .inr ⟨by omega, ?_⟩
       rw[hz.o,hy.o AL] at h4
       omega
     go_upto_region 12 with (first
      | (with_reducible refine ku (o:=⟨some 62, .load _ (.tmp 61),_,_,_,_⟩) L1.o ?_)
      | (with_reducible refine yD (d:=6) (X:=X) iM vG HX.o.1 HX.o.2 ?_))
     rw[←hwb]
     clear hwb L1 i0 B hbb bX
     refine jH (sd2 s w.heap.size wr.heap.size k y z X e g d) (Ik s w.heap.size wr.heap.size k y z X e g d) [1,5,6] AB AB AB ⟨rfl,rfl,rfl,trivial⟩ ?_ ?_
     ·refine ah ?_ (ah ?_ (ah ?_ (ah ?_ (ah ?_ (ah ?_ (ah ?_ (ah ?_ (ah ?_ (ah ?_ (ah ?_ (ah ?_ (ah ?_ (ah ?_ (ah ?_ (ah ?_ (ah ?_ (ah ?_ (ah ?_ (ah ?_ (ah ?_ dL))))))))))))))))))))
      all_goals intro a hk
      ·
       exact .inl ⟨aj rfl,jC (.tmp 6) rfl (show a.eval (.tmp 6)=(.pointer (some ⟨wr.heap.size,0,none⟩)) from hk.old 6 AB AB) (v:=(.agg X)) (fun q=>L2 q) rfl⟩
      ·
       exact .inl ⟨aj rfl,D8 rfl rfl #[(.agg X)] (fun w=>AB) (by simp only[List.map_toArray,List.map_cons,List.map_nil,(show a.eval (.tmp 63)=(.agg X) from hk.slot 63 AB)]) (v:=(.bool e)) (fun q=>HK.o q) rfl⟩
      ·
       exact .inl ⟨aj rfl,Fv rfl _ (show a.eval (.tmp 64)=(.bool e) from hk.slot 64 AB) rfl⟩
      ·
       exact .inl ⟨aj rfl,jQ (.tmp 65) rfl (show a.eval (.tmp 65)=(.bool (!e)) from hk.slot 65 AB)⟩
      ·
       cases e with
       |
        true=>
        exact .inl ⟨aG 66 false AB (show a.eval (.tmp 66)=(.bool (!true)) from hk.slot 66 AB),jQ (.tmp 5) rfl (show a.eval (.tmp 5)=(.int .i64 (k:Int)) from hk.old 5 AB AB)⟩
       |
        false=>
        exact .inr ⟨aB 66 false AB (show a.eval (.tmp 66)=(.bool (!false)) from hk.slot 66 AB),rfl⟩
      ·
       cases e with
       |
        true=>
        exact .inl ⟨aG 66 false AB (show a.eval (.tmp 66)=(.bool (!true)) from hk.slot 66 AB),rG rfl (show a.eval (.tmp 67)=(.int .i64 (k:Int)) from hk.slot 67 AB) rfl (v:= .bool (decide ((0:Int)<(k:Int)))) (fun w=>AB) (congrArg Value.bool (hg.o))⟩
       |
        false=>
        exact .inr ⟨aB 66 false AB (show a.eval (.tmp 66)=(.bool (!false)) from hk.slot 66 AB),rfl⟩
      ·
       cases e with
       |
        true=>
        exact .inl ⟨aG 66 false AB (show a.eval (.tmp 66)=(.bool (!true)) from hk.slot 66 AB),jQ (.tmp 68) rfl (show a.eval (.tmp 68)=(.bool g) from hk.slot 68 AB)⟩
       |
        false=>
        exact .inr ⟨aB 66 false AB (show a.eval (.tmp 66)=(.bool (!false)) from hk.slot 66 AB),rfl⟩
      ·
       cases e with
       |
        true=>
        cases g with
        |
         true=>
         exact .inl ⟨aG 69 true AB (show a.eval (.tmp 69)=(.bool true) from hk.slot 69 AB),iI (.tmp 1) rfl (show a.eval (.tmp 1)=(.pointer (some ⟨w.heap.size,0,none⟩)) from hk.old 1 AB AB) (v:=(.pointer (some ⟨w.heap.size,2,none⟩))) (fun w=>AB) rfl⟩
        |
         false=>
         exact .inr ⟨aB 69 true AB (show a.eval (.tmp 69)=(.bool false) from hk.slot 69 AB),rfl⟩
       |
        false=>
        exact .inr ⟨aC 69 true AB (show a.eval (.tmp 69)=undef from hk.slot 69 AB),rfl⟩
      ·
       cases e with
       |
        true=>
        cases g with
        |
         true=>
         exact .inl ⟨aG 69 true AB (show a.eval (.tmp 69)=(.bool true) from hk.slot 69 AB),jC (.tmp 70) rfl (show a.eval (.tmp 70)=(.pointer (some ⟨w.heap.size,2,none⟩)) from hk.slot 70 AB) (v:=(.slice s.qa s.qs.length s.qc)) (fun q=>bg (fun w=>AB) (c1q q)) rfl⟩
        |
         false=>
         exact .inr ⟨aB 69 true AB (show a.eval (.tmp 69)=(.bool false) from hk.slot 69 AB),rfl⟩
       |
        false=>
        exact .inr ⟨aC 69 true AB (show a.eval (.tmp 69)=undef from hk.slot 69 AB),rfl⟩
      ·
       cases e with
       |
        true=>
        cases g with
        |
         true=>
         exact .inl ⟨aG 69 true AB (show a.eval (.tmp 69)=(.bool true) from hk.slot 69 AB),jQ (.tmp 5) rfl (show a.eval (.tmp 5)=(.int .i64 (k:Int)) from hk.old 5 AB AB)⟩
        |
         false=>
         exact .inr ⟨aB 69 true AB (show a.eval (.tmp 69)=(.bool false) from hk.slot 69 AB),rfl⟩
       |
        false=>
        exact .inr ⟨aC 69 true AB (show a.eval (.tmp 69)=undef from hk.slot 69 AB),rfl⟩
      ·
       cases e with
       |
        true=>
        cases g with
        |
         true=>
         exact .inl ⟨aG 69 true AB (show a.eval (.tmp 69)=(.bool true) from hk.slot 69 AB),rG rfl (show a.eval (.tmp 72)=(.int .i64 (k:Int)) from hk.slot 72 AB) rfl (v:=(.int .i64 ((k-1:Nat):Int))) (fun w=>by have:=of_decide_eq_true hg.o;go_simp;exact(IntWalk.i64_in _ AL).trans AL) rfl⟩
        |
         false=>
         exact .inr ⟨aB 69 true AB (show a.eval (.tmp 69)=(.bool false) from hk.slot 69 AB),rfl⟩
       |
        false=>
        exact .inr ⟨aC 69 true AB (show a.eval (.tmp 69)=undef from hk.slot 69 AB),rfl⟩
      ·
       cases e with
       |
        true=>
        cases g with
        |
         true=>
         exact .inl ⟨aG 69 true AB (show a.eval (.tmp 69)=(.bool true) from hk.slot 69 AB),zI (.tmp 71) (.tmp 73) rfl (show a.eval (.tmp 71)=(.slice s.qa s.qs.length s.qc) from hk.slot 71 AB) (show a.eval (.tmp 73)=(.int .i64 ((k-1:Nat):Int)) from hk.slot 73 AB) (v:=(.pointer (some (ad s.qa ((k-1)*6))))) (fun w=>i1 (of_decide_eq_true hg.o) w) rfl⟩
        |
         false=>
         exact .inr ⟨aB 69 true AB (show a.eval (.tmp 69)=(.bool false) from hk.slot 69 AB),rfl⟩
       |
        false=>
        exact .inr ⟨aC 69 true AB (show a.eval (.tmp 69)=undef from hk.slot 69 AB),rfl⟩
      ·
       cases e with
       |
        true=>
        cases g with
        |
         true=>
         exact .inl ⟨aG 69 true AB (show a.eval (.tmp 69)=(.bool true) from hk.slot 69 AB),iI (.tmp 74) rfl (show a.eval (.tmp 74)=(.pointer (some (ad s.qa ((k-1)*6)))) from hk.slot 74 AB) (v:=(.pointer (some (ad s.qa ((k-1)*6))))) (fun w=>AB) rfl⟩
        |
         false=>
         exact .inr ⟨aB 69 true AB (show a.eval (.tmp 69)=(.bool false) from hk.slot 69 AB),rfl⟩
       |
        false=>
        exact .inr ⟨aC 69 true AB (show a.eval (.tmp 69)=undef from hk.slot 69 AB),rfl⟩
      ·
       cases e with
       |
        true=>
        cases g with
        |
         true=>
         exact .inl ⟨aG 69 true AB (show a.eval (.tmp 69)=(.bool true) from hk.slot 69 AB),iI (.tmp 75) rfl (show a.eval (.tmp 75)=(.pointer (some (ad s.qa ((k-1)*6)))) from hk.slot 75 AB) (v:=(.pointer (some (ad s.qa ((k-1)*6))))) (fun w=>AB) rfl⟩
        |
         false=>
         exact .inr ⟨aB 69 true AB (show a.eval (.tmp 69)=(.bool false) from hk.slot 69 AB),rfl⟩
       |
        false=>
        exact .inr ⟨aC 69 true AB (show a.eval (.tmp 69)=undef from hk.slot 69 AB),rfl⟩
      ·
       cases e with
       |
        true=>
        cases g with
        |
         true=>
         exact .inl ⟨aG 69 true AB (show a.eval (.tmp 69)=(.bool true) from hk.slot 69 AB),jC (.tmp 76) rfl (show a.eval (.tmp 76)=(.pointer (some (ad s.qa ((k-1)*6)))) from hk.slot 76 AB) (v:=(.int .i64 y)) (fun q=>bg (fun w=>AB) (u1 (of_decide_eq_true hg.o) q)) rfl⟩
        |
         false=>
         exact .inr ⟨aB 69 true AB (show a.eval (.tmp 69)=(.bool false) from hk.slot 69 AB),rfl⟩
       |
        false=>
        exact .inr ⟨aC 69 true AB (show a.eval (.tmp 69)=undef from hk.slot 69 AB),rfl⟩
      ·
       cases e with
       |
        true=>
        cases g with
        |
         true=>
         exact .inl ⟨aG 69 true AB (show a.eval (.tmp 69)=(.bool true) from hk.slot 69 AB),iI (.tmp 6) rfl (show a.eval (.tmp 6)=(.pointer (some ⟨wr.heap.size,0,none⟩)) from hk.old 6 AB AB) (v:=(.pointer (some ⟨wr.heap.size,0,none⟩))) (fun w=>AB) rfl⟩
        |
         false=>
         exact .inr ⟨aB 69 true AB (show a.eval (.tmp 69)=(.bool false) from hk.slot 69 AB),rfl⟩
       |
        false=>
        exact .inr ⟨aC 69 true AB (show a.eval (.tmp 69)=undef from hk.slot 69 AB),rfl⟩
      ·
       cases e with
       |
        true=>
        cases g with
        |
         true=>
         exact .inl ⟨aG 69 true AB (show a.eval (.tmp 69)=(.bool true) from hk.slot 69 AB),iI (.tmp 78) rfl (show a.eval (.tmp 78)=(.pointer (some ⟨wr.heap.size,0,none⟩)) from hk.slot 78 AB) (v:=(.pointer (some ⟨wr.heap.size,0,none⟩))) (fun w=>AB) rfl⟩
        |
         false=>
         exact .inr ⟨aB 69 true AB (show a.eval (.tmp 69)=(.bool false) from hk.slot 69 AB),rfl⟩
       |
        false=>
        exact .inr ⟨aC 69 true AB (show a.eval (.tmp 69)=undef from hk.slot 69 AB),rfl⟩
      ·
       cases e with
       |
        true=>
        cases g with
        |
         true=>
         exact .inl ⟨aG 69 true AB (show a.eval (.tmp 69)=(.bool true) from hk.slot 69 AB),jC (.tmp 79) rfl (show a.eval (.tmp 79)=(.pointer (some ⟨wr.heap.size,0,none⟩)) from hk.slot 79 AB) (v:=(.int .i64 z)) (fun q=>bg (fun w=>AB) (c0q q)) rfl⟩
        |
         false=>
         exact .inr ⟨aB 69 true AB (show a.eval (.tmp 69)=(.bool false) from hk.slot 69 AB),rfl⟩
       |
        false=>
        exact .inr ⟨aC 69 true AB (show a.eval (.tmp 69)=undef from hk.slot 69 AB),rfl⟩
      ·
       cases e with
       |
        true=>
        cases g with
        |
         true=>
         exact .inl ⟨aG 69 true AB (show a.eval (.tmp 69)=(.bool true) from hk.slot 69 AB),rG rfl (show a.eval (.tmp 77)=(.int .i64 y) from hk.slot 77 AB) (show a.eval (.tmp 80)=(.int .i64 z) from hk.slot 80 AB) (v:= .bool (decide ((z:Int)≤y))) (fun w=>AB) (congrArg Value.bool (hd.o))⟩
        |
         false=>
         exact .inr ⟨aB 69 true AB (show a.eval (.tmp 69)=(.bool false) from hk.slot 69 AB),rfl⟩
       |
        false=>
        exact .inr ⟨aC 69 true AB (show a.eval (.tmp 69)=undef from hk.slot 69 AB),rfl⟩
      ·
       cases e with
       |
        true=>
        cases g with
        |
         true=>
         exact .inl ⟨aG 66 false AB (show a.eval (.tmp 66)=(.bool (!true)) from hk.slot 66 AB),jK rfl true (show a.eval (.tmp 69)=(.bool true) from hk.slot 69 AB) (show a.eval (.tmp 81)=(.bool d) from hk.slot 81 AB)⟩
        |
         false=>
         exact .inl ⟨aG 66 false AB (show a.eval (.tmp 66)=(.bool (!true)) from hk.slot 66 AB),jK rfl false (show a.eval (.tmp 69)=(.bool false) from hk.slot 69 AB) rfl⟩
       |
        false=>
        exact .inr ⟨aB 66 false AB (show a.eval (.tmp 66)=(.bool (!false)) from hk.slot 66 AB),rfl⟩
      ·
       cases e with
       |
        true=>
        exact .inl ⟨aj rfl,jK rfl false (show a.eval (.tmp 66)=(.bool (!true)) from hk.slot 66 AB) (show a.eval (.tmp 82)=(.bool (g && d)) from hk.slot 82 AB)⟩
       |
        false=>
        exact .inl ⟨aj rfl,jK rfl true (show a.eval (.tmp 66)=(.bool (!false)) from hk.slot 66 AB) rfl⟩
     intro a ⟨w1,hb1⟩ hsame hall
     have he:=fB hsame [63,64,65,66,67,68,69,70,71,72,73,74,75,76,77,78,79,80,81,82,83] AB
     simp only[List.foldl_cons,List.foldl_nil] at he
     rw[show a.eval (.tmp 83)=(.bool R3) from(hall 83 AB).trans (congrArg Value.bool HR3.o.symm)] at he
     generalize a.eval (.tmp 63)=x63 at he
     generalize a.eval (.tmp 64)=x64 at he
     generalize a.eval (.tmp 65)=x65 at he
     generalize a.eval (.tmp 66)=x66 at he
     generalize a.eval (.tmp 67)=x67 at he
     generalize a.eval (.tmp 68)=x68 at he
     generalize a.eval (.tmp 69)=x69 at he
     generalize a.eval (.tmp 70)=x70 at he
     generalize a.eval (.tmp 71)=x71 at he
     generalize a.eval (.tmp 72)=x72 at he
     generalize a.eval (.tmp 73)=x73 at he
     generalize a.eval (.tmp 74)=x74 at he
     generalize a.eval (.tmp 75)=x75 at he
     generalize a.eval (.tmp 76)=x76 at he
     generalize a.eval (.tmp 77)=x77 at he
     generalize a.eval (.tmp 78)=x78 at he
     generalize a.eval (.tmp 79)=x79 at he
     generalize a.eval (.tmp 80)=x80 at he
     generalize a.eval (.tmp 81)=x81 at he
     generalize a.eval (.tmp 82)=x82 at he
     simp only[iK] at he
     dsimp only[List.set_cons_zero,List.set_cons_succ] at he
     subst he
     clear hsame hall
     dsimp only
     have HB2:=AQ (HBB.o.trans (hb1.mono HBB.o.size))
     clear hb1
     cases R3 with
     |
      true=>
      have HF:=HNO rfl
      clear HN HNO
      go_wp2_with fail
      go_ret
      exact⟨au HF.o.symm,HB0.o.trans (HB2.o.mono HB0.o.size)⟩
     |
      false=>
      have HN:=HN rfl
      clear HNO i1 u1
      go_wp2_with fail
      go_roundw
      case rel=>exact⟨k+1,HN.o,by omega,by go_num,HB2.o⟩
      case measure=>simp[intOf];omega
    ·have HB1:=AQ B
     have HP1:Hid (R=true):=by rw[Hid,HG2.o,HR2.o];exact(fQ _ _ _).2 fun j hj=>ha.o j hj AL
     clear B
     go_wp2_with fail
     go_ret
     exact⟨au HP1.o.symm,HB0.o.trans (HB1.o.mono HB0.o.size)⟩
end Go.Proofs.YtlholdllibghbaaGreat
