/- Texts of the proof, one behind the other: Copied, PartBox, Is12, CfgLem. No condition but those that each names. -/
import Derived.Test.YtlholdllibghbaaGreatG14
import Derived.Test.YtlholdllibghbaaGreatG11
import Derived.Test.YtlholdllibghbaaGreatG09
import Derived.Test.YtlholdllibghbaaGreatG10
import Derived.Test.YtlholdllibghbaaGreatG12
import Derived.Test.YtlholdllibghbaaGreatKit
set_option maxRecDepth 100000
set_option maxHeartbeats 8000000
namespace Go.Proofs.YtlholdllibghbaaGreat
open Go Go.RowKit Go.Cit
structure fD (B:Nat) (w:World) (V:aO):Prop where
 win:aS mY 2 77 B w V.wa V.ws V.wc
 pts:aS Bo 5 46 B w V.pa V.ps V.pc
 kL:aS BO 5 48 B w V.ca V.cs V.cc
 img:∀x∈V.ps,Cit.Own 5 B w x.a x.img x.c
theorem fD.at {B:Nat} {w:World} {V:aO} (h:fD B w V):V.At w:=⟨h.win.vec dW,h.pts.vec dY,h.kL.vec gK,fun x hx=>(h.img x hx).isRow⟩
theorem fD.stay {B:Nat} {w w':World} {V:aO} (h:fD B w V) (hb:Below w.heap.size w w'):fD B w' V:=⟨h.win.stay hb,h.pts.stay hb,h.kL.stay hb,fun x hx=>(h.img x hx).stay hb⟩
theorem fD.low {B B':Nat} {w:World} {V:aO} (h:fD B w V) (hb:B'≤B):fD B' w V:=⟨h.win.low hb,h.pts.low hb,h.kL.low hb,fun x hx=>(h.img x hx).low hb⟩
theorem dV {α:Type} {f:α→List Value} {n:Nat} {E:TypeId} {B:Nat} {w:World} {a:Option Addr} {l:List α} {c:Nat} (h:aS f n E B w a l c) {g:Nat} (hg:blk a=some g):∃C,w.heap[g]? =some (.cells C E (0,0)):=by
 rcases h.row.2 with⟨hv,_⟩ |⟨g',c',cur,hv,_,hc,_⟩
 ·injection hv with h1;subst h1;simp[blk] at hg
 ·injection hv with h1;subst h1
  simp[blk] at hg
  subst hg
  exact⟨cur,hc⟩
theorem cO {α:Type} {f:α→List Value} {n:Nat} {E T:TypeId} {B:Nat} {w:World} {a:Option Addr} {l:List α} {c:Nat} (h:aS f n E B w a l c) {k:Nat} {C:Array Value} {fr:Nat×Nat} (hk:w.heap[k]? =some (.cells C T fr)) (hne:E≠T):∀g,blk a=some g→g≠k:=by
 rintro g hg rfl
 obtain⟨D,hD⟩:=dV h hg
 rw[hk] at hD
 injection hD with hD
 injection hD with _ e
 exact hne e.symm
theorem rV {α:Type} {f:α→List Value} {n:Nat} {E:TypeId} {B:Nat} {W w w':World} {a:Option Addr} {l:List α} {c:Nat} {b:kH} (h:aS f n E B w a l c) (hG:Pm b W w w') (hne:∀j,j<b.nb→E≠b.ty j):aS f n E B w' a l c:=by
 rcases hG with hb |⟨g,j,C,hj,_,hc,hs⟩
 ·exact h.stay hb
 ·exact h.save hs (cO h hc (hne j hj))
theorem nV {P:Program} {T E:TypeId} {n by_:Nat} {z:Value} (hE:bT P T E n by_ z) {ρ:Operand→Value} {o:Oper} (x:Operand) (v:Value) (C:Array Value) (hC:v.cells=C) (ho:o.op= .buildSlice T 1 #[(0,x)]) (hx:ρ x=v) (hv:C.size=n) (hn:n≤1000) (w:World):
 (execOp ρ o).run P w= .ok (.value (.slice (some ⟨w.heap.size,0,none⟩) 1 1)) (w.alloc (.cells C E)):=by
 subst hC;exact Nr hE x v ho hx hv hn w
theorem mF {E T:TypeId} {B:Nat} {w:World} {a:Option Addr} {l:List UInt8} {c:Nat} (h:Cit.Own E B w a l c) {k:Nat} {C:Array Value} {fr:Nat×Nat} (hk:w.heap[k]? =some (.cells C T fr)) (hne:E≠T):∀g,blk a=some g→g≠k:=cO h.uU hk hne
theorem Ti:(5:Nat)≠26:=by decide
theorem QD:(46:Nat)≠26:=by decide
theorem TR:(77:Nat)≠46:=by decide
theorem TP:(48:Nat)≠46:=by decide
theorem Ll:(5:Nat)≠46:=by decide
theorem jU {ρ:Operand→Value} {o:Oper} {T T':TypeId} {w w':World} {x y:Operand} {v u r:Value} (ho:o.op= .call {callee:= .builtin .append,args:= #[x,y],argTypes:= #[T,T']}) (hx:ρ x=v) (hy:ρ y=u)
 (hr:(Builtin.append_ #[T,T'] o.type #[v,u]).run Tryz.prog w= .ok r w'):(execOp ρ o).run Tryz.prog w= .ok (.value r) w':=by
 unfold execOp
 simp only[ho,resolve,invoke,builtin,Sem.run_bind,Sem.run_pure,Result.andThen_ok,List.map_toArray,List.map_cons,List.map_nil,hx,hy,hr]
theorem Kr:(77:Nat)≠26:=by decide
theorem Nh:(48:Nat)≠26:=by decide
def UZ:kH:=⟨1,fun _=>9,fun _=>10,fun _=>3,fun _=>26,fun _=> #[.slice none 0 0, .slice none 0 0, .slice none 0 0]⟩
def Ud (V:aO) (N:Nat) (C:Array Value) (w:World):Prop:=∃a c a' c',C= #[.slice a V.ws.length c, .slice none 0 0, .slice a' V.cs.length c']∧aS mY 2 77 N w a V.ws c∧aS BO 5 48 N w a' V.cs c'
def Uk (V:aO) (N B1:Nat):Nat→Value→World→Prop
 | 6,v,w=>∃g,v= .slice (some ⟨g,0,none⟩) 0 0∧aS mY 2 77 N w (some ⟨g,0,none⟩) [] 0
 | 7,v,_=>v= .pointer (some ⟨B1,0,none⟩)
 | 8,v,_=>v= .slice V.wa V.ws.length V.wc
 | 9,v,w=>∃a c,v= .slice a V.ws.length c∧aS mY 2 77 N w a V.ws c
 | 10,v,w=>∃g,v= .slice (some ⟨g,0,none⟩) 0 0∧aS BO 5 48 N w (some ⟨g,0,none⟩) [] 0
 | 11,v,_=>v= .pointer (some ⟨B1,2,none⟩)
 | 12,v,_=>v= .slice V.ca V.cs.length V.cc
 | 13,v,w=>∃a c,v= .slice a V.cs.length c∧aS BO 5 48 N w a V.cs c
 | 14,v,w=>∃C,v= .agg C∧Ud V N C w
 | _,_,_=>True
theorem NM {V:aO} {N:Nat} {C:Array Value} {W w w':World} (hG:Pm UZ W w w') (h:Ud V N C w):Ud V N C w':=by
 obtain⟨a,c,a',c',e,h1,h2⟩:=h
 exact⟨a,c,a',c',e,rV h1 hG (fun _ _=>Kr),rV h2 hG (fun _ _=>Nh)⟩
theorem RJ {V:aO} {N B1:Nat} {d:Nat} {v:Value} {W w w':World} (hG:Pm UZ W w w') (h:Uk V N B1 d v w):Uk V N B1 d v w':=by
 unfold Uk at *
 split at h
 ·obtain⟨g,e,h⟩:=h;exact⟨g,e,rV h hG (fun _ _=>Kr)⟩
 ·exact h
 ·exact h
 ·obtain⟨a,c,e,h⟩:=h;exact⟨a,c,e,rV h hG (fun _ _=>Kr)⟩
 ·obtain⟨g,e,h⟩:=h;exact⟨g,e,rV h hG (fun _ _=>Nh)⟩
 ·exact h
 ·exact h
 ·obtain⟨a,c,e,h⟩:=h;exact⟨a,c,e,rV h hG (fun _ _=>Nh)⟩
 ·obtain⟨C,e,h⟩:=h;exact⟨C,e,NM hG h⟩
 ·trivial
theorem J5 (ρ:Operand→Value) (o:Oper) (w:World) (h:o.op= .buildSlice 22 0 #[]):(execOp ρ o).run Tryz.prog w= .ok (.value (.slice (some ⟨w.heap.size,0,none⟩) 0 0)) (w.alloc (.cells #[] 77)):=by
 unfold execOp;rw[h];kernel_rfl
theorem FT (ρ:Operand→Value) (o:Oper) (w:World) (h:o.op= .buildSlice 24 0 #[]):(execOp ρ o).run Tryz.prog w= .ok (.value (.slice (some ⟨w.heap.size,0,none⟩) 0 0)) (w.alloc (.cells #[] 48)):=by
 unfold execOp;rw[h];kernel_rfl
theorem Pv (ρ:Operand→Value) (o:Oper) (w:World) (x y:Operand) (h:o.op= .build 26 #[(0,x),(2,y)]) (a a':Option Addr) (n n' c c':Nat) (hx:ρ x= .slice a n c) (hy:ρ y= .slice a' n' c'):
 (execOp ρ o).run Tryz.prog w= .ok (.value (.agg #[.slice a n c, .slice none 0 0, .slice a' n' c'])) w:=by
 unfold execOp;rw[h]
 simp only[List.map_toArray,List.map_cons,List.map_nil,hx,hy]
 kernel_rfl
theorem Qc (ρ:Operand→Value) (o:Oper) (w:World) (h:o.op= .alloc 26):(execOp ρ o).run Tryz.prog w= .ok (.value (.pointer (some ⟨w.heap.size,0,none⟩))) (w.alloc (.cells #[.slice none 0 0, .slice none 0 0, .slice none 0 0] 26)):=by
 unfold execOp;rw[h];kernel_rfl
theorem RV (w:World) (p:Addr) (v:Value) (h:w.cell? p=some v):(Instr.loadAt 22 (.pointer (some p))).run Tryz.prog w= .ok v w:=by
 have hT:=Tryz.underlying22
 go_simp
theorem Rt (w:World) (p:Addr) (v:Value) (h:w.cell? p=some v):(Instr.loadAt 24 (.pointer (some p))).run Tryz.prog w= .ok v w:=by
 have hT:=Tryz.underlying24
 go_simp
theorem Ep (w:World) (V:aO) (h:V.At w) (hs:cu V):Calls Tryz.prog 46 #[.agg #[.slice V.wa V.ws.length V.wc, .slice V.pa V.ps.length V.pc, .slice V.ca V.cs.length V.cc]] w fun e w'=>
 ∃U:aO,e= .returned (.agg #[.slice U.wa U.ws.length U.wc, .slice U.pa U.ps.length U.pc, .slice U.ca U.cs.length U.cc])∧U.cfg=V.cfg∧fD w.heap.size w' U∧Below w.heap.size w w':=by
 obtain⟨w1,hw1⟩:=AV ((w.alloc (.cells #[.slice V.wa V.ws.length V.wc, .slice V.pa V.ps.length V.pc, .slice V.ca V.cs.length V.cc] 26)).alloc (.cells #[.slice none 0 0, .slice none 0 0, .slice none 0 0] 26))
 have B1:Below w.heap.size w w1:=by rw[hw1];exact((Below.refl _ w).alloc (Nat.le_refl _) _).alloc AO _
 have hsz1:w1.heap.size=w.heap.size+2:=by rw[hw1];simp
 have hI:gU w1 w.heap.size V:=by rw[hw1];exact(dK w V _).keep ((Below.refl _ _).alloc (Nat.le_refl _) _)
 have hR1:w1.heap[w.heap.size+1]? =some (.cells #[.slice none 0 0, .slice none 0 0, .slice none 0 0] 26 (0,0)):=by
  rw[hw1,show w.heap.size+1=(w.alloc (.cells #[.slice V.wa V.ws.length V.wc, .slice V.pa V.ps.length V.pc, .slice V.ca V.cs.length V.cc] 26)).heap.size by simp,heap_alloc_new]
 have hV:=h.stay B1
 have HB1:=AQ (And.intro B1 (And.intro hI (And.intro hR1 hV)))
 have hw9:=hs.win
 have hc9:=hs.kL
 clear h B1 hI hR1 hV
 go_enter Tryz.func46,Tryz.ntmps46
 go_wp2_with fail
 rw[←hw1]
 clear hw1
 refine ql UZ (fun _=>Ud V w1.heap.size) (Uk V w1.heap.size w.heap.size) AB AB AB (fun _ _ _ _ hG h=>RJ hG h) (fun _ _ _ _ hG h=>NM hG h) ?_ ?_ (fun j hj=>by
  have:j=0:=by have:j<1:=hj;omega
  subst this;exact⟨by decide,by decide⟩)
 ·repeat' (first |exact aU |refine aI ?_ ?_)
  all_goals intro δ wa wx hk
  ·exact .inl ⟨ah rfl,fun _ _=>⟨by show(_:Nat)≠9;decide,by show(_:Nat)≠10;decide,by show _≠some (3:Nat);decide⟩,fA (J5 _ _ _ rfl) ⟨(Below.refl _ wx).alloc (Nat.le_refl _) _,_,rfl,(jh wx #[] 77 2 ([]:List qm) dW rfl AO).low hk.inv.1.size⟩⟩
  ·exact .inl ⟨ah rfl,fun _ _=>⟨by show(_:Nat)≠9;decide,by show(_:Nat)≠10;decide,by show _≠some (3:Nat);decide⟩,bF (.tmp 1) rfl (hk.o 1) (fun w=>AB) ⟨Below.refl _ _,rfl⟩⟩
  ·exact .inl ⟨ah rfl,fun _ _=>⟨by show(_:Nat)≠9;decide,by show(_:Nat)≠10;decide,by show _≠some (3:Nat);decide⟩,bg (.tmp 7) rfl (hk.s 7) (RV _ _ _ (keep hk.inv.1 HB1.o.2.1.c0)) ⟨Below.refl _ _,rfl⟩⟩
  ·obtain⟨g,e6,h6⟩:=hk.s 6
   obtain⟨a',c',w',hr,ho,hb⟩:=mP JR dW vg 22 h6 ((HB1.o.2.2.2.stay hk.inv.1).win) AL hk.inv.1.size
   exact .inl ⟨ah rfl,fun _ _=>⟨by show(_:Nat)≠9;decide,by show(_:Nat)≠10;decide,by show _≠some (3:Nat);decide⟩,fA (jU rfl e6 (hk.s 8) hr) ⟨hb,a',c',rfl,ho⟩⟩
  ·exact .inl ⟨ah rfl,fun _ _=>⟨by show(_:Nat)≠9;decide,by show(_:Nat)≠10;decide,by show _≠some (3:Nat);decide⟩,fA (FT _ _ _ rfl) ⟨(Below.refl _ wx).alloc (Nat.le_refl _) _,_,rfl,(jh wx #[] 48 5 ([]:List Ch) gK rfl AO).low hk.inv.1.size⟩⟩
  ·exact .inl ⟨ah rfl,fun _ _=>⟨by show(_:Nat)≠9;decide,by show(_:Nat)≠10;decide,by show _≠some (3:Nat);decide⟩,bF (.tmp 1) rfl (hk.o 1) (fun w=>AB) ⟨Below.refl _ _,rfl⟩⟩
  ·exact .inl ⟨ah rfl,fun _ _=>⟨by show(_:Nat)≠9;decide,by show(_:Nat)≠10;decide,by show _≠some (3:Nat);decide⟩,bg (.tmp 11) rfl (hk.s 11) (Rt _ _ _ (keep hk.inv.1 HB1.o.2.1.c2)) ⟨Below.refl _ _,rfl⟩⟩
  ·obtain⟨g,e6,h6⟩:=hk.s 10
   obtain⟨a',c',w',hr,ho,hb⟩:=mP Kv gK yE 24 h6 ((HB1.o.2.2.2.stay hk.inv.1).kL) AL hk.inv.1.size
   exact .inl ⟨ah rfl,fun _ _=>⟨by show(_:Nat)≠9;decide,by show(_:Nat)≠10;decide,by show _≠some (3:Nat);decide⟩,fA (jU rfl e6 (hk.s 12) hr) ⟨hb,a',c',rfl,ho⟩⟩
  ·obtain⟨a,c,e9,h9⟩:=hk.s 9
   obtain⟨a',c',e13,h13⟩:=hk.s 13
   exact .inl ⟨ah rfl,fun _ _=>⟨by show(_:Nat)≠9;decide,by show(_:Nat)≠10;decide,by show _≠some (3:Nat);decide⟩,fA (Pv _ _ _ _ _ rfl _ _ _ _ _ _ e9 e13) ⟨Below.refl _ _,_,rfl,a,c,a',c',rfl,h9,h13⟩⟩
  ·exact .inr (.inl ⟨0,by decide,rfl,rfl,rfl,Qc _ _ _ rfl,fun _ _=>trivial⟩)
  ·obtain⟨C,e14,hX⟩:=hk.s 14
   refine .inr (.inr ⟨0,C,by decide,rfl,rfl,rfl,hX, ?_,fun g D hg hD hDs=> ?_⟩)
   ·obtain⟨_,_,_,_,rfl,_⟩:=hX;rfl
   ·have h3:C.size=3:=by obtain⟨_,_,_,_,rfl,_⟩:=hX;rfl
    have h1c:C.all (·.oneCell')=true:=by obtain⟨_,_,_,_,rfl,_⟩:=hX;simp[Value.oneCell']
    have hr:=run_storeVar_row (P:=Tryz.prog) wx g 26 26 D C hD (by rw[h3];kernel_rfl) hDs h1c
    refine⟨wx.setRow g C, ?_,lC hD,lG _ _ _⟩
    unfold execOp
    simp only[show wa.eval (.tmp 3)=_ from hg,e14,Sem.run_bind,Instr.storeAt,Instr.sureAddr,Sem.run_pure,Result.andThen,hr]
 ·intro a wz hbz hsame hall hbox
  obtain⟨g,C,eg,hg,hC,hX,_⟩:=hbox 0 AP
  obtain⟨g6,e6,_⟩:=hall 6 AB
  obtain⟨a9,c9,e9,h9⟩:=hall 9 AB
  obtain⟨g10,e10,_⟩:=hall 10 AB
  obtain⟨a13,c13,e13,h13⟩:=hall 13 AB
  obtain⟨C14,e14,_⟩:=hall 14 AB
  obtain⟨aw,cw,ac,cc,rfl,hW,hCh⟩:=hX
  have he:=dn hsame [6,7,8,9,10,11,12,13,14,3] AB
  simp only[List.foldl_cons,List.foldl_nil] at he
  rw[e6,show a.eval (.tmp 7)=_ from hall 7 AB,show a.eval (.tmp 8)=_ from hall 8 AB,e9,e10,show a.eval (.tmp 11)=_ from hall 11 AB,show a.eval (.tmp 12)=_ from hall 12 AB,e13,e14,show a.eval (.tmp 3)=_ from eg] at he
  simp only[Act.put,List.setIfInBounds_toArray,List.set_cons_zero,List.set_cons_succ] at he
  subst he
  have HZ:=AQ (And.intro hbz (And.intro hC (And.intro hW hCh)))
  have hlen:=HB1.o.2.2.2.pts.bK
  have hp9:=hs.pts
  have HIMG:=AQ hs.img
  clear hsame hall hbox e6 e9 e10 e13 e14 eg h9 h13 hbz hC hW hCh
  go_wp2_with fail
  go_loopw [4] (fun s wr=>∃(k:Nat) (L:List dL) (pa:Option Addr) (pc:Nat),s= .int .i64 k∧k≤V.ps.length∧L.length=k∧Hid (L.map dL.pt=(V.ps.take k).map dL.pt)∧aS Bo 5 46 w1.heap.size wr pa L pc∧(∀x∈L,Cit.Own 5 w1.heap.size wr x.a x.img x.c)∧
   wr.heap[g]? =some (.cells #[.slice aw V.ws.length cw, .slice pa L.length pc, .slice ac V.cs.length cc] 26 (0,0))∧aS mY 2 77 w1.heap.size wr aw V.ws cw∧aS BO 5 48 w1.heap.size wr ac V.cs cc∧Below w1.heap.size w1 wr) (fun s _=>V.ps.length-(intOf s).toNat)
  case atStart=>exact⟨0,[],none,0,rfl,Nat.zero_le _,rfl,rfl,aS.nil_ _ _ _ _ _,fun x hx=>by simp at hx,HZ.o.2.1,HZ.o.2.2.1,HZ.o.2.2.2,HZ.o.1⟩
  case round=>
   obtain⟨k,L,pa,pc,rfl,hk,hLk,HL,hP,hM,hG,hW,hCh,B⟩:=hrel
   have hIk:=HB1.o.2.1.keep B
   have hVk:=HB1.o.2.2.2.stay B
   have hglt:g<wr.heap.size:=(Array.getElem?_eq_some_iff.1 hG).1
   obtain⟨c0,c1,c2⟩:=hIk
   by_cases hlt:k<V.ps.length
   ·have i0:=hVk.pts.index Di k hlt
    obtain⟨u0,u1,u2,u3,u4⟩:=dh hVk.pts (Below.refl _ _) k hlt
    have hr:=hVk.img V.ps[k] (List.getElem_mem hlt)
    have hi9:=HIMG.o V.ps[k] (List.getElem_mem hlt)
    obtain⟨x,hx⟩:∃x:dL,Hid (x=V.ps[k]):=⟨V.ps[k],rfl⟩
    rw[←hx.o] at u0 u1 u2 u3 u4 hr hi9
    have Ba:Below wr.heap.size wr (wr.alloc (.cells #[.int .i64 x.id.1, .int .i64 x.reg.base.1, .int .i64 x.reg.size.1, .bool x.keep, .slice x.a x.img.length x.c] 46)):=(Below.refl _ wr).alloc (Nat.le_refl _) _
    have Bb:Below wr.heap.size wr ((wr.alloc (.cells #[.int .i64 x.id.1, .int .i64 x.reg.base.1, .int .i64 x.reg.size.1, .bool x.keep, .slice x.a x.img.length x.c] 46)).alloc (.cells #[] 5)):=Ba.alloc AO _
    have ho0:=(jh (wr.alloc (.cells #[.int .i64 x.id.1, .int .i64 x.reg.base.1, .int .i64 x.reg.size.1, .bool x.keep, .slice x.a x.img.length x.c] 46)) #[] 5 1 ([]:List UInt8) yV rfl AO)
    rw[World.size_alloc] at ho0
    have hrv:=hr.stay Bb
    have hvb:Vec cb 1 _ x.a x.img x.c:=Vec.Uo (v:=vb) hrv.le hrv.top hrv.nil hrv.spot hrv.cell
    obtain⟨a2,d2,w2,hrun,ho2,hb2⟩:=mP (P:=Tryz.prog) (bT.ofBytes SG) yV DN 40 ho0 hvb AL (by rw[World.size_alloc,World.size_alloc];omega)
    have HRUN:=AQ hrun
    have hsb:((wr.alloc (.cells #[.int .i64 x.id.1, .int .i64 x.reg.base.1, .int .i64 x.reg.size.1, .bool x.keep, .slice x.a x.img.length x.c] 46)).alloc (.cells #[] 5)).heap.size=wr.heap.size+2:=by simp
    have B2:Below wr.heap.size wr w2:=Bb.trans (hb2.mono AL)
    have e2:w2.heap[wr.heap.size]? =some (.cells #[.int .i64 x.id.1, .int .i64 x.reg.base.1, .int .i64 x.reg.size.1, .bool x.keep, .slice x.a x.img.length x.c] 46 (0,0)):=(hb2.block _ AL).trans ((Below.heap_alloc _ _ _ AO).trans (heap_alloc_new _ _))
    have q0:=au e2 0 rfl
    have q1:=au e2 1 rfl
    have q2:=au e2 2 rfl
    have q3:=au e2 3 rfl
    have q4:=au e2 4 rfl
    have f2:=bD e2
    have B3:Below wr.heap.size wr (w2.setCell ⟨wr.heap.size,4,none⟩ (.slice a2 x.img.length d2)):=B2.setCell (p:=⟨wr.heap.size,4,none⟩) (Nat.le_refl _) _
    have ho2:=ho2.own
    have hI2:Cit.Own 5 w1.heap.size (w2.setCell ⟨wr.heap.size,4,none⟩ (.slice a2 x.img.length d2)) a2 x.img d2:=(ho2.save (S:=(· ≠wr.heap.size)) Save.set (mF ho2 e2 Ll)).low (by have:=B.size;simp;omega)
    have hG3:=(B3.block g hglt).trans hG
    have gq:=(au ((B2.block g hglt).trans hG) 1 rfl:w2.cell? ⟨g,1,none⟩=some (.slice pa L.length pc))
    have hgne:g≠wr.heap.size:=by omega
    obtain⟨y,hy⟩:∃y:dL,y=⟨x.id,x.reg,x.keep,a2,x.img,d2⟩:=⟨_,rfl⟩
    obtain⟨W3,hW3⟩:=AV (w2.setCell ⟨wr.heap.size,4,none⟩ (.slice a2 x.img.length d2))
    have hsz3:W3.heap.size=w2.heap.size:=by rw[hW3];simp[World.setCell]
    have hm36:=Ey W3 #[.int .i64 x.id.1, .int .i64 x.reg.base.1, .int .i64 x.reg.size.1, .bool x.keep, .slice a2 x.img.length d2] 46 5 [y] dY (by rw[hy];rfl) AO
    rw[hsz3] at hm36
    rw[←hW3] at B3 hI2 hG3
    have B36:Below wr.heap.size wr (W3.alloc (.cells #[.int .i64 x.id.1, .int .i64 x.reg.base.1, .int .i64 x.reg.size.1, .bool x.keep, .slice a2 x.img.length d2] 46)):=B3.alloc B3.size _
    have hI36:=hI2.stay ((Below.refl _ W3).alloc (Nat.le_refl _) (.cells #[.int .i64 x.id.1, .int .i64 x.reg.base.1, .int .i64 x.reg.size.1, .bool x.keep, .slice a2 x.img.length d2] 46))
    rw[hW3] at hm36 B36 hI36
    have HO36:=AQ (hP.stay B36)
    have HV36:=AQ hm36
    have HG36:=AQ ((B36.block g hglt).trans hG)
    have HGN:=AQ (cO hP hG QD)
    have HX36:=AQ (And.intro (hW.stay B36) (And.intro (hCh.stay B36) (And.intro hI36 (B.trans (B36.mono B.size)))))
    have HM36:=AQ (fun z (hz:z∈L)=>(hM z hz).stay B36)
    have hL9:L.length≤100:=by omega
    have HLK:=AQ hLk
    have HLN:Hid ((L++ [y]).map dL.pt=(V.ps.take (k+1)).map dL.pt):=by
     rw[Hid,List.map_append,HL.o,List.take_succ_eq_append_getElem hlt,List.map_append,hy,←hx.o];rfl
    have HY:=AQ hy
    clear hr hrv hvb ho0 hrun ho2 hb2 Ba Bb hP hM hG hW hCh B hVk e2 hsb B2 B3 hI2 hG3 hLk hy hW3 hsz3 hm36 B36 hI36
    go_wp2_with (first
     | ((with_reducible refine aj (o:=⟨some 30, .call _,_,_,_,_⟩) AA (jU AA AA AA HRUN.o) ?_))
     | ((with_reducible refine aj (o:=⟨some 35, .buildSlice _ _ _,_,_,_,_⟩) AA (nV Di (.tmp 34) (.agg #[.int .i64 x.id.1, .int .i64 x.reg.base.1, .int .i64 x.reg.size.1, .bool x.keep, .slice a2 x.img.length d2]) #[.int .i64 x.id.1, .int .i64 x.reg.base.1, .int .i64 x.reg.size.1, .bool x.keep, .slice a2 x.img.length d2] rfl AA AA AA AP _) ?_))
     | ((with_reducible refine qW (o:=⟨some 36, .call _,_,_,_,_⟩) Di dY yR (.tmp 33) (.tmp 35) AA AA HO36.o HV36.o AO (by simp;omega) HX36.o.2.2.2.size AA (by first |with_unfolding_all rfl |simp[Act.eval,Act.put]) ?_);intro a4 c4 w4 hO4 hg4 hn4;have HO4:=AQ (And.intro hO4 hg4);have hlt36:=(Array.getElem?_eq_some_iff.1 HG36.o).1;have e4:=(hg4.block g hlt36 (fun e=>HGN.o g e.symm rfl)).trans HG36.o;have r1:=au e4 1 rfl;have fr:=bD e4;have HE4:=AQ e4;clear hO4 hg4 hn4 e4 hlt36))
    have hG4:=HE4.o
    have hgg:(w4.setCell ⟨g,1,none⟩ (.slice a4 (L.length+1) c4)).heap[g]? =some (.cells #[.slice aw V.ws.length cw, .slice a4 (L++ [y]).length c4, .slice ac V.cs.length cc] 26 (0,0)):=by simp[World.setCell,Array.getElem?_modify,hG4]
    have S4:Save (fun k=>some k≠blk pa) _ w4:=Save.grown HO4.o.2
    have S5:Save (· ≠g) w4 (w4.setCell ⟨g,1,none⟩ (.slice a4 (L.length+1) c4)):=Save.set
    have hneP:∀ {α:Type} {f:α→List Value} {n:Nat} {E:TypeId} {a:Option Addr} {l:List α} {c:Nat} {W:World},aS f n E w1.heap.size W a l c→aS Bo 5 46 w1.heap.size W pa L pc→E≠46→∀k,blk a=some k→some k≠blk pa:=by
     intro α f n E a l c W h hp hE k hk e
     obtain⟨D,hD⟩:=dV hp e.symm
     exact cO h hD hE k hk rfl
    have oW:=HX36.o.1.save S4 (hneP HX36.o.1 HO36.o TR)
    have oC:=HX36.o.2.1.save S4 (hneP HX36.o.2.1 HO36.o TP)
    have oI:=HX36.o.2.2.1.uU.save S4 (hneP HX36.o.2.2.1.uU HO36.o Ll)
    have oM:∀z∈L,aS cb 1 5 w1.heap.size w4 z.a z.img z.c:=fun z hz=>(HM36.o z hz).uU.save S4 (hneP (HM36.o z hz).uU HO36.o Ll)
    have oP:=HO4.o.1.save S5 (cO HO4.o.1 hG4 QD)
    have oW:=oW.save S5 (cO oW hG4 Kr)
    have oC:=oC.save S5 (cO oC hG4 Nh)
    have oI:=oI.save S5 (cO oI hG4 Ti)
    have oM:∀z∈L,aS cb 1 5 w1.heap.size _ z.a z.img z.c:=fun z hz=>(oM z hz).save S5 (cO (oM z hz) hG4 Ti)
    have hB5:=(HX36.o.2.2.2.trans (HO36.o.grown HO4.o.2 HX36.o.2.2.2.size)).setCell (p:=⟨g,1,none⟩) hg (.slice a4 (L.length+1) c4)
    have hll:(L++ [y]).length=L.length+1:=by simp
    go_roundw
    case rel=>exact⟨k+1,L++ [y],a4,c4,by go_num,by omega,by have:=HLK.o;rw[hll];omega,HLN.o,oP,fun z hz=>(List.mem_append.1 hz).elim (fun h=>(oM z h).own) (fun h=>by rw[List.mem_singleton] at h;subst h;rw[HY.o];exact oI.own),hgg,oW,oC,hB5⟩
    case measure=>simp[intOf];omega
   ·have hk2:k=V.ps.length:=by omega
    have HLE:Hid (L.map dL.pt=V.ps.map dL.pt):=by rw[Hid,HL.o,hk2,List.take_length]
    have HLK:=AQ hLk
    have s0:=au hG 0 rfl
    have s1:=au hG 1 rfl
    have s2:=au hG 2 rfl
    have HN:Hid (wr.heap[w.heap.size+1]? =some (.cells #[.slice none 0 0, .slice none 0 0, .slice none 0 0] 26 (0,0))):=(B.block _ AL).trans HB1.o.2.2.1
    have HK:=AQ (And.intro hP (And.intro hM (And.intro hW (And.intro hCh (HB1.o.1.trans (B.mono HB1.o.1.size))))))
    have HNE:=AQ (And.intro (cO hP HN.o QD) (And.intro (fun z hz=>mF (hM z hz) HN.o Ti) (And.intro (cO hW HN.o Kr) (cO hCh HN.o Nh))))
    have hw1s:=HB1.o.1.size
    clear hk2 hLk hP hM hG hW hCh B
    go_wp2_with ((with_reducible refine ay (o:=⟨none, .store _ (.tmp 2) (.tmp 38),_,_,_,_⟩) iW (.tmp 2) (.tmp 38) AA AA AA AA AA HN.o AA AA (by simp[Value.oneCell']) ?_);intro w7 hb7 hS7;have HB7:=AQ hb7;have HS7:=AQ hS7;clear hb7 hS7)
    refine bodyPost_ret (ig iW rfl (by rfl) HB7.o rfl) rfl ⟨⟨aw,V.ws,cw,pa,L,pc,ac,V.cs,cc⟩,rfl, ?_,fD.low (B:=w1.heap.size) ⟨HK.o.2.2.1.save HS7.o HNE.o.2.2.1,HK.o.1.save HS7.o HNE.o.1,HK.o.2.2.2.1.save HS7.o HNE.o.2.2.2,fun z hz=>(HK.o.2.1 z hz).save HS7.o (HNE.o.2.1 z hz)⟩ hw1s, ?_⟩
    ·rw[gI];exact⟨rfl,HLE.o,rfl⟩
    ·exact HK.o.2.2.2.2.trans (HS7.o.below HK.o.2.2.2.2.size (fun k hk=>by omega))
open Go Go.RowKit Go.Cit
@[reducible] def cA (x:dL):Array Value:= #[.int .i64 x.id.1, .int .i64 x.reg.base.1, .int .i64 x.reg.size.1, .bool x.keep, .slice x.a x.img.length x.c]
open Go Go.RowKit Go.Cit
def i1:I64:=⟨1,by decide⟩
def i0:I64:=⟨0,by decide⟩
def i16:I64:=⟨16,by decide⟩
open Go Go.RowKit Go.Cit
theorem aG {w w':World} {k:Nat} {o:Obj} (h:w.heap[k]? =some o) (hb:Below w.heap.size w w'):w'.heap[k]? =some o:=(hb.block k (Array.getElem?_eq_some_iff.1 h).1).trans h
@[reducible] def Vs (V:aO):Obj:= .cells #[.slice V.wa V.ws.length V.wc, .slice V.pa V.ps.length V.pc, .slice V.ca V.cs.length V.cc] 26 (0,0)
theorem Gx {w:World} {b:Nat} {V:aO} (h:w.heap[b]? =some (Vs V)):gU w b V:=⟨by rw[World.cell?,h];rfl,by rw[World.cell?,h];rfl,by rw[World.cell?,h];rfl⟩
theorem aX {w:World} {b i:Nat} {cs:Array Value} {E:TypeId} {fr:Nat×Nat} (v:Value) (h:w.heap[b]? =some (.cells cs E fr)):(w.setCell ⟨b,i,none⟩ v).heap[b]? =some (.cells (cs.setIfInBounds i v) E fr):=by
 simp[World.setCell,Array.getElem?_modify,h]
theorem qP {α:Type} {f:α→List Value} {n E B:Nat} {w:World} {g:Nat} {l:List α} (hf:∀x,(f x).length=n) (hb:B≤g) (hl:l.length≤1000000000) {cs:Array Value} (h:w.heap[g]? =some (.cells cs E (0,0))) (hc:cs=(l.flatMap f).toArray):aS f n E B w (some ⟨g,0,none⟩) l l.length:=by
 subst hc
 exact⟨⟨jr hf l, .inr ⟨g,l.length,_,rfl,hb,h,Nat.le_refl _,by unfold maxLen;omega,by rw[List.size_toArray,jr hf],by rw[List.toList_toArray];exact List.take_of_length_le (by rw[jr hf];exact Nat.le_refl _)⟩⟩⟩
theorem DX {V:aO} (h1:V.ws.length≤100) (h2:V.ps.length≤100) (h3:V.cs.length≤100) (h4:V.ps.all (fun x=>decide (x.img.length≤10000))=true):cu V:=
 ⟨h1,h2,h3,fun x hx=>by simpa using List.all_eq_true.1 h4 x hx⟩
theorem Qy {α β:Type} (f:α→β) (l:List α) (k:Nat) (x:α) (hk:k<l.length) (h:f x=f l[k]):(l.set k x).map f=l.map f:=by
 rw[List.map_set,h]
 apply List.ext_getElem?
 intro i
 rw[List.getElem?_set]
 by_cases hi:k=i
 ·subst hi;simp[hk]
 ·simp[hi]
theorem O6 {α:Type} {f:α→List Value} {n E B:Nat} {w:World} {a:Option Addr} {l:List α} {c:Nat} (h:aS f n E B w a l c) (hl:l≠ []):∃g,a=some ⟨g,0,none⟩∧B≤g∧g<w.heap.size:=by
 rcases h.row.2 with⟨hv,h0⟩ |⟨g,c',cur,hv,hB,hg,_⟩
 ·exact absurd (List.eq_nil_of_length_eq_zero h0) hl
 ·injection hv with h1
  exact⟨g,h1,hB,(Array.getElem?_eq_some_iff.1 hg).1⟩
def i3:I64:=⟨3,by decide⟩
@[reducible] def cU (U:aO):Array Value:= #[.slice U.wa U.ws.length U.wc, .slice U.pa U.ps.length U.pc, .slice U.ca U.cs.length U.cc]
theorem SL {w:World} {b:Nat} {V:aO} (h:w.heap[b]? =some (.cells (cU V) 26 (0,0))):gU w b V:=Gx h
def vZ:aO:=⟨none,[],0,none,[],0,none,[],0⟩
end Go.Proofs.YtlholdllibghbaaGreat
