/- Texts of the proof, one behind the other: StR, StS, StT, Fill. No condition but those that each names. -/
import Derived.Test.YtlholdllibghbaaGreatG18
import Derived.Test.YtlholdllibghbaaGreatG14
import Derived.Test.YtlholdllibghbaaGreatG09
import Derived.Test.YtlholdllibghbaaGreatG06
import Derived.Deep.Cut
import Derived.Test.YtlholdllibghbaaGreatG05
import Derived.Test.YtlholdllibghbaaGreatKit
set_option maxRecDepth 100000
set_option maxHeartbeats 8000000
namespace Go.Proofs.YtlholdllibghbaaGreat
open Go Go.RowKit Go.Cit
theorem jk {α β:Type} (f:α→List β) (B:Nat):∀(L:List α),(∀x∈L,(f x).length≤B)→(L.flatMap f).length≤L.length*B
 | [],_=>by simp
 |
  x::l,h=>by
  have h1:=jk f B l fun y hy=>h y (List.mem_cons_of_mem _ hy)
  have h2:=h x AO
  rw[List.flatMap_cons,List.length_append,List.length_cons,Nat.succ_mul];omega
theorem nN {α:Type} {id:α→Int} {ok:α→Bool} {l:List α} (h:fC id ok l=true):∀x∈l,ok x=true:=fun x hx=>by
 obtain⟨j,hj,rfl⟩:=List.mem_iff_getElem.1 hx
 exact((fQ id ok l).1 h j hj).1
theorem qy {s:Ah}:jR s=true↔(0≤s.fr.1∧s.fr.1≤1099511627776)∧s.ps.length≤6∧s.qs.length≤8∧fC (fun p:qg=>p.id.1) mF s.ps=true∧fC (fun q:yP=>q.ch.id.1) mO s.qs=true:=by
 unfold jR;simp only[Bool.and_eq_true,decide_eq_true_eq]
theorem Dv (x:qg):(qJ x).length=94+x.mem.length:=by
 unfold qJ
 simp only[List.length_append,kG,x.r.2]
 simp[oC,int8,aF,eH,aO]
 omega
theorem CS (x:yP):(yT x).length=48+(x.msgs.flatMap jm).length:=by
 unfold yT;simp[FI,int8,aF];omega
theorem Du {s:Ah} (h:jR s=true):(s.ps.flatMap qJ).length≤3636∧(s.qs.flatMap yT).length≤1024:=by
 obtain⟨_,h1,h2,h3,h4⟩:=qy.1 h
 constructor
 ·have:=jk qJ 606 s.ps fun x hx=>by
   have h5:=nN h3 x hx
   unfold mF at h5
   simp only[Bool.and_eq_true,decide_eq_true_eq] at h5
   have h6:=of_decide_eq_true h5.2.1
   rw[Dv]
   have:=h5.2.2.1
   dsimp only at h6
   omega
  omega
 ·have:=jk yT 128 s.qs fun x hx=>by
   have h5:=nN h4 x hx
   unfold mO at h5
   simp only[Bool.and_eq_true,decide_eq_true_eq] at h5
   have h6:=of_decide_eq_true h5.1
   have h7:∀m∈x.msgs,(m.length:Int)≤x.ch.size.1:=fun m hm=>by
    have h8:=h5.2.2
    rw[Bool.not_eq_true',List.any_eq_false] at h8
    have:=h8 m hm
    unfold zA at this
    simpa using this
   have h9:=jk jm 20 x.msgs fun m hm=>by rw[aO];have:=h7 m hm;omega
   rw[CS]
   have:=h5.2.1
   omega
  omega
def Ie (w:World) (f:Int) (δ:Nat→Bool) (a:Act) (wx:World):Prop:=Below w.heap.size w wx∧
 (δ 0=true→∃b a' X c,a.tmps.getD 8 undef= .pointer (some ⟨b,0,none⟩)∧Wr w.heap.size wx b a' X c 0∧Hid (X=if δ 3 then int8 f else [])∧(δ 3=true→a.tmps.getD 11 undef= .pointer (some ⟨b,0,none⟩)))∧
 (δ 4=true→∃g V,a.tmps.getD 4 undef= .pointer (some ⟨g,0,none⟩)∧w.heap.size≤g∧wx.heap[g]? =some (.cells #[V] 94 (0,0))∧(δ 5=true→V=a.tmps.getD 11 undef))
def IL (p:Nat) (f:Int):Nat→Value→World→Prop
 | 9,v,_=>v= .pointer (some ⟨p,0,none⟩)
 | 10,v,_=>v= .int .i64 f
 | _,_,_=>True
theorem vF {w wx:World} {f:Int} {δ:Nat→Bool} {a:Act} {n d:Nat} {v:Value} (h:Ie w f δ a wx) (hn:n≠0∧n≠3∧n≠4∧n≠5) (hd:d≠8∧d≠11∧d≠4):Ie w f (upd δ n) (a.put (some d) v) wx:=by
 have e8:(a.put (some d) v).tmps.getD 8 undef=a.tmps.getD 8 undef:=aN a (some d) 8 v (fun e=>hd.1 (Option.some.inj e))
 have e11:(a.put (some d) v).tmps.getD 11 undef=a.tmps.getD 11 undef:=aN a (some d) 11 v (fun e=>hd.2.1 (Option.some.inj e))
 have e4:(a.put (some d) v).tmps.getD 4 undef=a.tmps.getD 4 undef:=aN a (some d) 4 v (fun e=>hd.2.2 (Option.some.inj e))
 unfold Ie
 rw[e8,e11,e4,aA δ hn.1,aA δ hn.2.1,aA δ hn.2.2.1,aA δ hn.2.2.2]
 exact h
theorem Et (ρ:Operand→Value) (o:Oper) (w:World) (h:o.op= .alloc 94):(execOp ρ o).run Tryz.prog w= .ok (.value (.pointer (some ⟨w.heap.size,0,none⟩))) (w.alloc (.cells #[.pointer none] 94)):=by
 unfold execOp;rw[h];kernel_rfl
theorem zU {P:Program} {T:TypeId} {w:World} {p:Addr} {u:Value} {q:Option Addr} (hs:∀w,(sizeOf T).run P w= .ok 1 w) (h:w.cell? p=some u) (hf:w.frozen? p=false):(Instr.storeAt T (.pointer (some p)) (.pointer q)).run P w= .ok () (w.setCell p (.pointer q)):=by
 unfold Instr.storeAt Instr.sureAddr storeVar
 simp[go_sem,hs,Result.andThen,h,hf]
theorem lH (w:World) (s:bU) (hs:s.At w):Calls Tryz.prog 32 #[.agg (dO s).toArray] w fun e w'=>Below w.heap.size w w'∧(jR s.fG=true→∃a' X cp,Hid (X=rC s.fG)∧e= .returned (.tuple #[.slice a' X.length cp, .int .i64 0])∧Mine w.heap.size w' a' X cp)∧(jR s.fG=false→e= .returned (.tuple #[.slice none 0 0, .int .i64 2])):=by
 obtain⟨m,hm⟩:=AU (jR s.fG)
 rw[←hm.o]
 obtain⟨p,hp⟩:=AV (w.heap.size)
 obtain⟨w0,hw0⟩:=AV (w.alloc (.cells (dO s).toArray 32))
 have B0:Below w.heap.size w w0:=by rw[hw0];exact(Below.refl _ w).alloc (Nat.le_refl _) _
 have hx0:w0.heap[p]? =some (.cells #[.int .i64 s.fr.1, .slice s.pa s.ps.length s.pc, .slice s.qa s.qs.length s.qc] 32 (0,0)):=by rw[hw0,hp];exact heap_alloc_new _ _
 have L1:=AQ (show(Instr.loadAt 32 (.pointer (some ⟨p,0,none⟩))).run Tryz.prog w0= .ok (.agg (dO s).toArray) w0 from jG (fun w=>AB) (fun w=>AB) (ak hx0 0 rfl) (ak hx0 1 rfl) (ak hx0 2 rfl))
 have hk:=jF w0 s (hs.stay B0)
 rw[←hm.o] at hk
 have HK:=AQ hk
 have H0:=AQ (And.intro hx0 B0)
 have HS:=AQ hs
 clear hs hx0 B0 hk
 go_enter Tryz.func32,Tryz.ntmps32
 go_upto_region 1 with fail
 rw[←hw0,←hp]
 have HPP:=AQ hp
 clear hw0 hp
 go_wp2_with (with_reducible refine ku (o:=⟨some 5, .load _ (.tmp 1),_,_,_,_⟩) L1.o ?_)
 refine(HK.o).mono ?_
 rintro e w1 ⟨rfl,hb1⟩
 have H1:=AQ (And.intro (ay H0.o.1 hb1) (H0.o.2.trans (hb1.mono H0.o.2.size)))
 clear hb1 HK L1
 cases m with
 |
  false=>
  go_wp2_with fail
  go_ret2
  first |exact⟨H1.o.2,fun h=>absurd h AP,fun _=>rfl⟩ |exact⟨H1.o.2,rfl⟩
 |
  true=>
  have HL:=AQ (Du (s:=s.fG) hm.o.symm)
  go_upto_region 3 with fail
  refine lM (Ie w1 s.fr.1) (fun _ _ _=>True) (IL p s.fr.1) AB AB (fun w' hb _=>⟨hb,fun h=>absurd h AP,fun h=>absurd h AP⟩) (fun δ i j o v a w1 w2 _ _ _ _ _ _ _ h=>by
   rcases hd:o.dst with _ |d
   ·exact gq hd _ _
   ·rw[iR hd] at h ⊢
    unfold IL at *
    split<;>simp_all) ?_ ?_
  ·refine ah ?_ (ah ?_ (ah ?_ (ah ?_ (ah ?_ (ah ?_ dL)))))
   all_goals intro δ ac wx hk
   ·
    have hn3:δ 3=false:=hk.closed.yet 6 3 0 AB hk.yet
    have hn5:δ 5=false:=hk.closed.yet 6 5 0 AB hk.yet
    have hsz:ac.tmps.size=26:=hk.same.2.1
    refine⟨aj rfl,dw rfl (hk.fn _) #[] (fun w=>AB) AO ((ou wx).mono ?_)⟩
    rintro e w' ⟨rfl,hW,hb⟩
    refine⟨_,rfl,trivial,⟨hk.inv.1.trans (hb.mono hk.inv.1.size),fun _=>⟨wx.heap.size,none,[],0,bf _ _ _ (by rw[hsz];decide),hW.low hk.inv.1.size, ?_,fun h=> ?_⟩,fun h4=> ?_⟩,trivial⟩
    ·rw[aA δ AP,hn3];rfl
    ·rw[aA δ AP,hn3] at h;exact absurd h AP
    ·rw[aA δ AP] at h4
     obtain⟨g,V,e1,e2,e3,e4⟩:=hk.inv.2.2 h4
     refine⟨g,V,(aN _ _ _ _ AP).trans e1,e2,ay e3 hb,fun h=> ?_⟩
     rw[aA δ AP,hn5] at h;exact absurd h AP
   ·exact⟨aj rfl,dh (.tmp 1) rfl (hk.o 1) (v:= .pointer (some ⟨p,0,none⟩)) (fun w=>AB) ⟨trivial,vF hk.inv AP AP,rfl⟩⟩
   ·exact⟨aj rfl,bP (.tmp 9) rfl (hk.s 9) (v:= .int .i64 s.fr.1) (bg (fun w=>AB) (keep hk.inv.1 (ak H1.o.1 0 rfl))) ⟨trivial,vF hk.inv AP AP,rfl⟩⟩
   ·
    have h0:δ 0=true:=by
     have:=hk.next.needs 6 3 0 AB (upd_same _ _)
     rwa[aA δ AP] at this
    have hn5:δ 5=false:=hk.closed.yet 6 5 3 AB hk.yet
    have hsz:ac.tmps.size=26:=hk.same.2.1
    obtain⟨b,a',X,c,e8,hW,hX,_⟩:=hk.inv.2.1 h0
    rw[hk.yet] at hX
    obtain rfl:X=[]:=hX.o
    refine⟨aj rfl,dw rfl (hk.fn _) #[.pointer (some ⟨b,0,none⟩), .int .i64 s.fr.1] (fun w=>AB) (by simp only[List.map_toArray,List.map_cons,List.map_nil,show ac.eval (.tmp 8)=_ from e8,show ac.eval (.tmp 10)=_ from hk.s 10]) ((bH hW hk.inv.1.size s.fr.1 AO).mono ?_)⟩
    rintro e w' ⟨a2,X2,c2,H2,rfl,hW2,hS2,hN2⟩
    refine⟨_,rfl,trivial,⟨hk.inv.1.trans (hS2.below hk.inv.1.size fun k hk'=>⟨by have:=hW.ge;omega,fun e=>by have:=(hW.own.aQ e.symm).1;omega⟩),fun _=>⟨b,a2,X2,c2,(aN _ _ _ _ AP).trans e8,hW2, ?_,fun _=>bf _ _ _ (by rw[hsz];decide)⟩,fun h4=> ?_⟩,trivial⟩
    ·rw[upd_same,Hid,H2.o];rfl
    ·rw[aA δ AP] at h4
     obtain⟨g,V,e1,e2,e3,e4⟩:=hk.inv.2.2 h4
     refine⟨g,V,(aN _ _ _ _ AP).trans e1,e2,(hS2.block g (Array.getElem?_eq_some_iff.1 e3).1 ⟨?_,fun e=>own_ne hW.own e3 AP e.symm⟩).trans e3,fun h=> ?_⟩
     ·rintro rfl;have:=hW.blk;rw[e3] at this;simp at this
     ·rw[aA δ AP,hn5] at h;exact absurd h AP
   ·
    have hn5:δ 5=false:=hk.closed.yet 6 5 4 AB hk.yet
    have hsz:ac.tmps.size=26:=hk.same.2.1
    have hb:Below wx.heap.size wx (wx.alloc (.cells #[.pointer none] 94)):=(Below.refl _ wx).alloc (Nat.le_refl _) _
    refine⟨aj rfl,jf (Et _ _ _ rfl) ⟨trivial,⟨hk.inv.1.trans (hb.mono hk.inv.1.size),fun h0=> ?_,fun _=>⟨wx.heap.size,_,bf _ _ _ (by rw[hsz];decide),hk.inv.1.size,heap_alloc_new _ _,fun h=> ?_⟩⟩,trivial⟩⟩
    ·rw[aA δ AP] at h0
     obtain⟨b,a',X,c,e8,hW,hX,e11⟩:=hk.inv.2.1 h0
     refine⟨b,a',X,c,(aN _ _ _ _ AP).trans e8,hW.stay hb,by rw[aA δ AP];exact hX,fun h=> ?_⟩
     rw[aA δ AP] at h
     exact(aN _ _ _ _ AP).trans (e11 h)
    ·rw[aA δ AP,hn5] at h;exact absurd h AP
   ·
    have h3:δ 3=true:=by
     have:=hk.next.needs 6 5 3 AB (upd_same _ _)
     rwa[aA δ AP] at this
    have h0:δ 0=true:=hk.closed.needs 6 3 0 AB h3
    have h4:δ 4=true:=by
     have:=hk.next.needs 6 5 4 AB (upd_same _ _)
     rwa[aA δ AP] at this
    obtain⟨b,a',X,c,e8,hW,hX,e11⟩:=hk.inv.2.1 h0
    obtain⟨g,V,e1,e2,e3,_⟩:=hk.inv.2.2 h4
    have e11:=e11 h3
    have hgb:g≠b:=by rintro rfl;have:=hW.blk;rw[e3] at this;simp at this
    refine⟨aj rfl,vk (.tmp 4) (.tmp 11) rfl (show ac.eval (.tmp 4)=_ from e1) (show ac.eval (.tmp 11)=_ from e11) (zU (fun w=>AB) (ak e3 0 rfl) (cu e3 0)) ⟨trivial,⟨hk.inv.1.trans ((Save.set:Save (· ≠g) wx _).below hk.inv.1.size fun k hk'=>by show k≠g;omega),fun _=>⟨b,a',X,c,e8,hW.save (Save.set:Save (· ≠g) wx _) (Ne.symm hgb) (fun k hk' e=>own_ne hW.own e3 AP (by rw[←e];exact hk')),by rw[aA δ AP];exact hX,fun _=>e11⟩,fun _=>⟨g,_,e1,e2,bT _ e3,fun _=>e11.symm⟩⟩,gq rfl _ _⟩⟩
  intro δ a wz hall hC hsame hslots
  have hd:=fun i (hi:i<6)=>hall i hi
  obtain⟨b,a',X,c,e8,hW,hX,e11⟩:=hC.2.1 (hd 0 AP)
  obtain⟨g,V,e1,e2,e3,e5⟩:=hC.2.2 (hd 4 AP)
  rw[hd 3 AP] at hX
  have e11:=e11 (hd 3 AP)
  have e5:=(e5 (hd 5 AP)).trans e11
  subst e5
  have hbz:=hC.1
  have he:=fB hsame [8,9,10,11,4] AB
  simp only[List.foldl_cons,List.foldl_nil] at he
  rw[show a.eval (.tmp 4)=_ from e1] at he
  generalize a.eval (.tmp 8)=y8 at he
  generalize a.eval (.tmp 9)=y9 at he
  generalize a.eval (.tmp 10)=y10 at he
  generalize a.eval (.tmp 11)=y11 at he
  simp only[iK] at he
  dsimp only[List.set_cons_zero,List.set_cons_succ] at he
  clear e8 e11 e1 hsame hslots hall hC hd
  subst he
  obtain⟨base,hbase⟩:=AU w1.heap.size
  rw[←hbase.o] at hW e2
  have HB3:=AQ (H1.o.2.trans (hbz.mono H1.o.2.size))
  have HX3:=AQ (ay H1.o.1 hbz)
  have HG:=AQ e3
  have HBZ:=AQ (show base≤wz.heap.size by rw[hbase.o];exact hbz.size)
  have HBW:=AQ (show w.heap.size≤base by rw[hbase.o];exact H1.o.2.size)
  have hX9:Hid (X=int8 s.fr.1):=hX
  clear hX
  have hlx:X.length=8:=by rw[hX9.o,wV]
  have hgb:g≠b:=by rintro rfl;have:=hW.blk;rw[HG.o] at this;simp at this
  have HGB:=AQ hgb
  have hpo:Off b a' p:=⟨by have h1:=hW.ge;have h2:=(Array.getElem?_eq_some_iff.1 H1.o.1).1;have h3:=hbase.o;omega,fun e=>by have h1:=(hW.own.aQ e.symm).1;have h2:=(Array.getElem?_eq_some_iff.1 H1.o.1).1;have h3:=hbase.o;omega⟩
  have hgo:Off b a' g:=⟨hgb,fun e=>own_ne hW.own HG.o AP e.symm⟩
  have hpl:(s.ps.flatMap BQ).length≤3636:=by have:=HL.o.1;unfold bU.fG at this;simp only[List.flatMap_map] at this;exact this
  have hql:(s.qs.flatMap xW).length≤1024:=by have:=HL.o.2;unfold bU.fG at this;simp only[List.flatMap_map] at this;exact this
  have HQL:=AQ hql
  have HPL:=AQ hpl
  have HK:=AQ (uH hW HBZ.o g HG.o HB3.o HBW.o HS.o.pts HS.o.mem AL)
  have HW0:=AQ (And.intro hpo (And.intro hgo hW))
  have c0:=ak e3 0 rfl
  have c1:=ak HX3.o 1 rfl
  clear hbz e3 e2 e5 hW hlx hgb hpo hgo hpl hql
  go_wp2_with fail
  refine(HK.o).mono ?_
  rintro e w4 ⟨rfl,a4,X4,c4,H4,hW4,hS4,hN4⟩
  have hB4:=HB3.o.trans (hS4.below HB3.o.size fun k hk=>⟨by have h1:=HW0.o.2.2.ge;have:=HBW.o;omega,fun e=>by have h1:=(HW0.o.2.2.own.aQ e.symm).1;have:=HBW.o;omega⟩)
  have HG4:=AQ ((hS4.block g (Array.getElem?_eq_some_iff.1 HG.o).1 HW0.o.2.1).trans HG.o)
  have HX4:=AQ ((hS4.block p (Array.getElem?_eq_some_iff.1 HX3.o).1 HW0.o.1).trans HX3.o)
  have hx4:X4.length=16+(s.ps.flatMap BQ).length:=by rw[H4.o,hX9.o];simp only[List.length_append,wV];omega
  have HK2:=AQ (uM hW4 (Nat.le_trans HBZ.o hS4.size) g HG4.o hB4 HBW.o HS.o.wJ HS.o.msg (by have:=HPL.o;have:=HQL.o;omega))
  have HB4:=AQ hB4
  have c0:=ak HG4.o 0 rfl
  have c2:=ak HX4.o 2 rfl
  have HW4:=AQ hW4
  clear hS4 hN4 hB4 hx4 hW4 HK c1
  go_wp2_with fail
  refine(HK2.o).mono ?_
  rintro e w5 ⟨rfl,a5,X5,c5,H5,hW5,hS5,hN5⟩
  have HB5:=AQ (HB4.o.trans (hS5.below HB4.o.size fun k hk=>⟨by have h1:=HW4.o.ge;have:=HBW.o;omega,fun e=>by have h1:=(HW4.o.own.aQ e.symm).1;have:=HBW.o;omega⟩))
  have hG5:=(hS5.block g (Array.getElem?_eq_some_iff.1 HG4.o).1 ⟨HGB.o,fun e=>own_ne HW4.o.own HG4.o AP e.symm⟩).trans HG4.o
  have HD:=AQ (yH hW5)
  have c0:=ak hG5 0 rfl
  have HF:Hid (X5=rC s.fG):=by
   rw[Hid,H5.o,H4.o,hX9.o]
   unfold rC bU.fG
   simp only[List.flatMap_map,List.length_map,List.append_assoc]
  clear hS5 hN5 hG5 hW5 HK2 c2
  go_wp2_with fail
  refine(HD.o).mono ?_
  rintro e w6 ⟨a6,X6,c6,H6,rfl,hm6,hb6⟩
  have HM6:=AQ (And.intro hm6 hb6)
  clear hm6 hb6 HD c0
  go_wp2_with fail
  go_ret2
  have hz:=HB5.o.trans (HM6.o.2.mono HB5.o.size)
  have hy:∃a' X cp,Hid (X=rC s.fG)∧Ending.returned (.tuple #[.slice a6 X6.length c6, .int .i64 0])= .returned (.tuple #[.slice a' X.length cp, .int .i64 0])∧Mine w.heap.size w6 a' X cp:=⟨a6,X6,c6,H6.o.trans HF.o,rfl,HM6.o.1.low HB5.o.size⟩
  first |exact⟨hz,fun _=>hy,fun h=>absurd h AP⟩ |exact⟨hz,hy⟩ |exact⟨hz,a6,X6,H6.o.trans HF.o,c6,rfl,HM6.o.1.low HB5.o.size⟩
open Go Go.RowKit Go.Cit
structure Rs where
 s:St
 k:Bool
def Rs.int (r:Rs):I64×Rs:=(r.s.int.1,⟨r.s.int.2,r.k⟩)
def Rs.flag (r:Rs):Bool×Rs:=((r.s.read 1 gI false).1,⟨(r.s.read 1 gI false).2,r.k⟩)
def Rs.byte (r:Rs):UInt8×Rs:=((r.s.read 1 iD 0).1,⟨(r.s.read 1 iD 0).2,r.k⟩)
def Rs.bytes (r:Rs):List UInt8×Rs:=(r.s.bytes.1,⟨r.s.bytes.2,r.k⟩)
def Dz (n:Int):Bool:=decide (¬(0≤n∧n<4294967296))
def Rs.word (r:Rs):UInt32×Rs:=(wG r.s.int.1.1,⟨r.s.int.2,r.k || Dz r.s.int.1.1⟩)
structure fH (base top:Nat) (w:World) (R b:Nat) (q:Rs):Prop where
 rd:dG base top w b q.s
 rO:w.heap[R]? =some (.cells #[.pointer (some ⟨b,0,none⟩), .bool q.k] 137 (0,0))
 tp:top≤R
def iw (b R k:Nat):Prop:=k≠b∧k≠R
theorem fH.ne {base top w R b q} (h:fH base top w R b q):R≠b:=by
 rintro rfl
 obtain⟨_,_,k⟩:=h.rd
 have:=k.blk
 rw[h.rO] at this;simp at this
theorem fH.c0 {base top w R b q} (h:fH base top w R b q):w.cell? ⟨R,0,none⟩=some (.pointer (some ⟨b,0,none⟩)):=ak h.rO 0 rfl
theorem fH.c1 {base top w R b q} (h:fH base top w R b q):w.cell? ⟨R,1,none⟩=some (.bool q.k):=ak h.rO 1 rfl
theorem fH.lt {base top w R b q} (h:fH base top w R b q):R<w.heap.size:=(Array.getElem?_eq_some_iff.1 h.rO).1
theorem fH.stay {base top w w' R b q} (h:fH base top w R b q) (hb:Below w.heap.size w w'):fH base top w' R b q:=⟨h.rd.stay hb,ay h.rO hb,h.tp⟩
theorem fH.newer {base top w w' R b q p} (h:fH base top w R b q) (hs:Save (· ≠p) w w') (ht:top≤p) (hb:b≠p) (hR:R≠p):fH base top w' R b q:=⟨h.rd.newer hs ht hb,(hs.block R h.lt hR).trans h.rO,h.tp⟩
theorem fH.save {S:Nat→Prop} {base top w w' R b q} (h:fH base top w R b q) (hs:Save S w w') (hb:S b) (hR:S R) (ht:∀g,base≤g→g<top→S g):fH base top w' R b q:=⟨h.rd.save hs hb ht,(hs.block R h.lt hR).trans h.rO,h.tp⟩
theorem fH.next {base top w w' R b q s'} (h:fH base top w R b q) (hr:dG base top w' b s') (hs:Save (· ≠b) w w'):fH base top w' R b ⟨s',q.k⟩:=⟨hr,(hs.block R h.lt h.ne).trans h.rO,h.tp⟩
theorem mW {b R:Nat} {w w':World} (h:Save (· ≠b) w w'):Save (iw b R) w w':=h.less fun _ _ hk=>hk.1
theorem dS {base top w R b q} (h:fH base top w R b q):Calls Tryz.prog 57 #[.pointer (some ⟨b,0,none⟩)] w fun e w'=>e= .returned (.int .i64 q.int.1.1)∧fH base top w' R b q.int.2∧Save (iw b R) w w':=
 (og h.rd).mono fun _ _ ⟨h1,h2,h3⟩=>⟨h1,h.next h2 h3,mW h3⟩
theorem vW {base top w R b q} (h:fH base top w R b q):Calls Tryz.prog 137 #[.pointer (some ⟨b,0,none⟩)] w fun e w'=>e= .returned (.bool q.flag.1)∧fH base top w' R b q.flag.2∧Save (iw b R) w w':=
 (uG h.rd).mono fun _ _ ⟨h1,h2,h3⟩=>⟨h1,h.next h2 h3,mW h3⟩
theorem wE {base top w R b q} (h:fH base top w R b q):Calls Tryz.prog 174 #[.pointer (some ⟨b,0,none⟩)] w fun e w'=>e= .returned (vb q.byte.1)∧fH base top w' R b q.byte.2∧Save (iw b R) w w':=by
 obtain⟨a,c,hr⟩:=h.rd
 exact(vZ hr).mono fun _ _ ⟨h1,h2,h3⟩=>⟨h1,h.next h2 h3,mW h3⟩
theorem lX {base top w R b q} (h:fH base top w R b q):Calls Tryz.prog 60 #[.pointer (some ⟨b,0,none⟩)] w fun e w'=>∃a X c,Hid (X=q.bytes.1)∧e= .returned (.slice a X.length c)∧Mine w.heap.size w' a X c∧fH base top w' R b q.bytes.2∧Save (iw b R) w w':=
 (qH h.rd).mono fun _ _ ⟨a,X,c,h0,h1,hm,h2,h3⟩=>⟨a,X,c,h0,h1,hm,h.next h2 h3,mW h3⟩
def Rs.count (q:Rs) (most:Int):Int×Rs:=((q.s.count most).1,⟨(q.s.count most).2,q.k⟩)
theorem ji {base top w R b q} (h:fH base top w R b q) (most:Int):Calls Tryz.prog 172 #[.pointer (some ⟨b,0,none⟩), .int .i64 most] w fun e w'=>e= .returned (.int .i64 (q.count most).1)∧fH base top w' R b (q.count most).2∧Save (iw b R) w w':=
 (qP h.rd most).mono fun _ _ ⟨h1,h2,h3⟩=>⟨h1,h.next h2 h3,mW h3⟩
theorem nZ {base top w R b q} (h:fH base top w R b q):Calls Tryz.prog 173 #[.pointer (some ⟨R,0,none⟩)] w fun e w'=>e= .returned (vw q.word.1)∧fH base top w' R b q.word.2∧Save (iw b R) w w':=by
 obtain⟨n,hn⟩:=AU q.s.int.1
 obtain⟨s',hs'⟩:∃s',Hid (s'=q.s.int.2):=⟨_,rfl⟩
 have c0:=h.c0
 have hk:=og h.rd
 rw[←hn.o,←hs'.o] at hk
 have HK:=AQ hk
 have HH:=AQ h
 have HW:Hid (q.word=(wG n.1,⟨s',q.k || Dz n.1⟩)):=by rw[Hid,hn.o,hs'.o];rfl
 rw[HW.o]
 have hn1:=n.2.1
 have hn2:=n.2.2
 have hu:IntKind.u32.wrap n.1=((wG n.1).toNat:Int):=by rw[cO,vO]
 clear h hk
 go_enter Tryz.func173,Tryz.ntmps173
 go_wp2_with fail
 refine(HK.o).mono ?_
 rintro e w1 ⟨rfl,hR,hS⟩
 have h1:=HH.o.next hR hS
 have H1:=AQ (And.intro h1 hS)
 have c1:=h1.c1
 have f1:=cu h1.rO 1
 clear hR hS h1 HK c0
 obtain⟨k,hk⟩:=AU q.k
 rw[←hk.o] at c1
 have HF:Hid (∀v:Bool,v=(q.k || Dz n.1)→fH base top (w1.setCell ⟨R,1,none⟩ (.bool v)) R b ⟨s',q.k || Dz n.1⟩∧Save (iw b R) w (w1.setCell ⟨R,1,none⟩ (.bool v))):=fun v hv=>by
  have hs:Save (· ≠R) w1 (w1.setCell ⟨R,1,none⟩ (.bool v)):=Save.set
  have hlt:=H1.o.1.lt
  refine⟨⟨H1.o.1.rd.save hs (Ne.symm H1.o.1.ne) fun g _ hg=>by have:=H1.o.1.tp;show g≠R;omega,by rw[←hv];exact bT _ H1.o.1.rO,H1.o.1.tp⟩,(mW H1.o.2).trans (hs.less fun _ _ hk=>hk.2)⟩
 go_wp2_with fail
 all_goals
  go_ret
  refine⟨rfl,HF.o _ ?_⟩
  have hk':=hk.o
  unfold Dz
  by_cases h9:n.1<4294967296<;>simp_all<;>omega
open Go Go.RowKit Go.Cit
def Rs.words:Nat→Rs→List UInt32×Rs
 | 0,q=>([],q)
 | n+1,q=>((Rs.words n q).1++ [(Rs.words n q).2.word.1],(Rs.words n q).2.word.2)
theorem kH (n:Nat) (q:Rs):(q.words n).1.length=n:=by
 induction n with
 | zero=>rfl
 | succ n ih=>rw[Rs.words,List.length_append,ih];rfl
def regs (l:List UInt32):R8:=⟨(l++ [0,0,0,0,0,0,0,0]).take 8,by simp⟩
def mG (r:R8) (k:Nat) (v:UInt32):R8:=⟨r.1.set k v,by rw[List.length_set];exact r.2⟩
theorem DW (l:List UInt32) (h:l.length=8):regs l=⟨l,h⟩:=by
 unfold regs;apply Subtype.ext
 show(l++ [0,0,0,0,0,0,0,0]).take 8=l
 rw[List.take_append_of_le_length AL,List.take_of_length_le AL]
theorem DL (q:Rs) (k:Nat) (v:UInt32) (h:k<8) (hv:v=(q.words k).2.word.1):mG (regs (q.words k).1) k v=regs (q.words (k+1)).1:=by
 have hl:=kH k q
 unfold mG regs
 apply Subtype.ext
 show(((q.words k).1++ [0,0,0,0,0,0,0,0]).take 8).set k v=((q.words (k+1)).1++ [0,0,0,0,0,0,0,0]).take 8
 rw[Rs.words,←hv]
 generalize (q.words k).1=l at hl
 apply List.ext_getElem?
 intro j
 simp only[List.getElem?_set,List.getElem?_take,List.getElem?_append,List.length_take,List.length_append,List.length_cons,List.length_nil,hl]
 by_cases h1:k=j
 ·subst h1
  simp[h]
 ·by_cases h2:j<k
  ·simp[h1,h2,show j<8 by omega,show j<k+1 by omega]
  ·by_cases h3:j<8
   ·have e1:j-k<8:=by omega
    have e2:j-(k+1)<8:=by omega
    have e3:∀m,m<8→([0,0,0,0,0,0,0,0]:List UInt32)[m]? =some 0:=by decide
    simp only[h1,h2,h3,show ¬j<k+1 by omega,if_true,if_false,List.length_append,hl]
    rw[e3 _ e1]
    simp[e3 _ e2]
   ·simp[h1,h3]
def bW (q:Rs):qg×Rs:=
 (⟨q.int.1,q.int.2.int.1,q.int.2.int.2.flag.1,⟨(q.int.2.int.2.flag.2.words 8).1,kH _ _⟩,(q.int.2.int.2.flag.2.words 8).2.word.1,(q.int.2.int.2.flag.2.words 8).2.word.2.byte.1,(q.int.2.int.2.flag.2.words 8).2.word.2.byte.2.bytes.1⟩,(q.int.2.int.2.flag.2.words 8).2.word.2.byte.2.bytes.2)
structure PS (base top:Nat) (w0 w:World) (R b p pr:Nat) (T TR:TypeId) (C Z:Array Value) (q:Rs):Prop where
 lD:fH base top w R b q
 rO:w.heap[p]? =some (.cells C T (0,0))
 res:w.heap[pr]? =some (.cells Z TR (0,0))
 sv:Save (iw b R) w0 w
 lp:w0.heap.size≤pr∧pr<p
 lb:b<w0.heap.size
 lR:R<w0.heap.size
section
variable {base top:Nat} {w0 w:World} {R b p pr:Nat} {T TR:TypeId} {C Z:Array Value} {q:Rs}
theorem PS.size (h:PS base top w0 w R b p pr T TR C Z q):p<w.heap.size:=(Array.getElem?_eq_some_iff.1 h.rO).1
theorem PS.call (h:PS base top w0 w R b p pr T TR C Z q) {w':World} {q':Rs} (hR:fH base top w' R b q') (hS:Save (iw b R) w w'):PS base top w0 w' R b p pr T TR C Z q':=by
 have h1:=h.lp
 have h2:=h.lb
 have h3:=h.lR
 have h4:=h.size
 exact⟨hR,(hS.block p h4 ⟨by omega,by omega⟩).trans h.rO,(hS.block pr AL ⟨by omega,by omega⟩).trans h.res,h.sv.trans hS,h1,h2,h3⟩
theorem PS.ck (h:PS base top w0 w R b p pr T TR C Z q) (k:Nat) {u:Value} (hu:C[k]? =some u):w.cell? ⟨p,k,none⟩=some u:=ak h.rO k hu
theorem PS.fk (h:PS base top w0 w R b p pr T TR C Z q) (k:Nat):w.frozen? ⟨p,k,none⟩=false:=cu h.rO k
theorem pU {S:Nat→Prop} {w0 w w':World} {k:Nat} (h:Save S w0 w) (hs:Save (· ≠k) w w') (hk:w0.heap.size≤k):Save S w0 w':=
 ⟨hs.os.trans h.os,hs.tape.trans h.tape,hs.output.trans h.output,Nat.le_trans h.size hs.size,fun j hj hj'=>(hs.block j (Nat.lt_of_lt_of_le hj h.size) AL).trans (h.block j hj hj')⟩
theorem PS.set' (h:PS base top w0 w R b p pr T TR C Z q) {k:Nat} {v:Value} {C':Array Value} (hC:C.setIfInBounds k v=C'):PS base top w0 (w.setCell ⟨p,k,none⟩ v) R b p pr T TR C' Z q:=by
 subst hC
 have hs:Save (· ≠p) w (w.setCell ⟨p,k,none⟩ v):=Save.set
 have h1:=h.lp
 have h2:=h.lb
 have h3:=h.lR
 have h4:=h.size
 exact⟨h.lD.newer hs (by have:=h.lD.tp;omega) AL AL,bT _ h.rO,(hs.block pr AL (by show pr≠p;omega)).trans h.res,pU h.sv hs AL,h1,h2,h3⟩
end
theorem Gi (x:aK) {k:Nat} {v:Value} (h: [vw x.pc,vb x.st, .slice x.a x.mem.length x.c][k]? =some v):(cP x)[11+k]? =some v:=by simpa[cP] using iF x h
theorem Dx (x:aK) (k:Nat) (hk:k<8):(cP x)[3+k]? =some (vw (x.r.1[k]'(by rw[x.r.2];exact hk))):=by
 obtain⟨i,s,kp,⟨l,hl⟩,pc,st,a,m,c⟩:=x
 unfold cP bG
 match l,hl,k,hk with
 | [_,_,_,_,_,_,_,_],_,0,_=>rfl
 | [_,_,_,_,_,_,_,_],_,1,_=>rfl
 | [_,_,_,_,_,_,_,_],_,2,_=>rfl
 | [_,_,_,_,_,_,_,_],_,3,_=>rfl
 | [_,_,_,_,_,_,_,_],_,4,_=>rfl
 | [_,_,_,_,_,_,_,_],_,5,_=>rfl
 | [_,_,_,_,_,_,_,_],_,6,_=>rfl
 | [_,_,_,_,_,_,_,_],_,7,_=>rfl
section
variable (v0 v1:I64) (v2:Bool) (r:R8) (pc:UInt32) (st:UInt8) (a:Option Addr) (m:List UInt8) (c:Nat)
theorem yS (k:Nat) (v:UInt32) (hk:k<8):(cP ⟨v0,v1,v2,r,pc,st,a,m,c⟩).setIfInBounds (3+k) (vw v)=cP ⟨v0,v1,v2,mG r k v,pc,st,a,m,c⟩:=by
 obtain⟨l,hl⟩:=r
 unfold cP bG mG
 match l,hl,k,hk with
 | [_,_,_,_,_,_,_,_],_,0,_=>rfl
 | [_,_,_,_,_,_,_,_],_,1,_=>rfl
 | [_,_,_,_,_,_,_,_],_,2,_=>rfl
 | [_,_,_,_,_,_,_,_],_,3,_=>rfl
 | [_,_,_,_,_,_,_,_],_,4,_=>rfl
 | [_,_,_,_,_,_,_,_],_,5,_=>rfl
 | [_,_,_,_,_,_,_,_],_,6,_=>rfl
 | [_,_,_,_,_,_,_,_],_,7,_=>rfl
theorem Df (v:UInt32):(cP ⟨v0,v1,v2,r,pc,st,a,m,c⟩).setIfInBounds 11 (vw v)=cP ⟨v0,v1,v2,r,v,st,a,m,c⟩:=by
 obtain⟨l,hl⟩:=r
 unfold cP bG
 match l,hl with
 | [_,_,_,_,_,_,_,_],_=>rfl
theorem DI (v:UInt8):(cP ⟨v0,v1,v2,r,pc,st,a,m,c⟩).setIfInBounds 12 (vb v)=cP ⟨v0,v1,v2,r,pc,v,a,m,c⟩:=by
 obtain⟨l,hl⟩:=r
 unfold cP bG
 match l,hl with
 | [_,_,_,_,_,_,_,_],_=>rfl
theorem CG (a':Option Addr) (m':List UInt8) (c':Nat):(cP ⟨v0,v1,v2,r,pc,st,a,m,c⟩).setIfInBounds 13 (.slice a' m'.length c')=cP ⟨v0,v1,v2,r,pc,st,a',m',c'⟩:=by
 obtain⟨l,hl⟩:=r
 unfold cP bG
 match l,hl with
 | [_,_,_,_,_,_,_,_],_=>rfl
end
theorem uf {base top w R b q0} (h:fH base top w R b q0):Calls Tryz.prog 95 #[.pointer (some ⟨R,0,none⟩)] w fun e w'=>∃x:aK,e= .returned (.agg (cP x))∧x.prt=(bW q0).1∧Row w' x.a x.mem x.c∧(∀g,blk x.a=some g→w.heap.size≤g)∧fH base top w' R b (bW q0).2∧Save (iw b R) w w':=by
 have htop:top≤w.heap.size:=Nat.le_trans h.tp (Nat.le_of_lt h.lt)
 obtain⟨pr,hpr⟩:=AV (w.heap.size)
 obtain⟨wa,hwa⟩:=AV (w.alloc (.cells #[.int .i64 0, .int .i64 0, .bool false, .int .u32 0, .int .u32 0, .int .u32 0, .int .u32 0, .int .u32 0, .int .u32 0, .int .u32 0, .int .u32 0, .int .u32 0, .int .u8 0, .slice none 0 0] 42))
 have hba:Below w.heap.size w wa:=by rw[hwa];exact(Below.refl _ w).alloc (Nat.le_refl _) _
 have hpa:wa.heap[pr]? =some (.cells #[.int .i64 0, .int .i64 0, .bool false, .int .u32 0, .int .u32 0, .int .u32 0, .int .u32 0, .int .u32 0, .int .u32 0, .int .u32 0, .int .u32 0, .int .u32 0, .int .u8 0, .slice none 0 0] 42 (0,0)):=by rw[hwa,hpr];exact heap_alloc_new _ _
 obtain⟨v0,hv0⟩:=AU q0.int.1
 obtain⟨q1,hq1⟩:=AU q0.int.2
 have hk:=dS (h.stay hba)
 rw[←hv0.o,←hq1.o] at hk
 have HK:=AQ hk
 have c0:=(h.stay hba).c0
 have HH:=AQ h
 have HA:=AQ (And.intro hba hpa)
 have HPR:=AQ hpr
 clear h hk hba hpa
 go_enter Tryz.func95,Tryz.ntmps95
 go_upto_region 1 with fail
 rw[←hwa,←hpr]
 clear hwa hpr
 go_wp2_with fail
 refine(HK.o).mono ?_
 rintro e w1 ⟨rfl,hR,hS⟩
 obtain⟨p,hp⟩:=AV (w1.heap.size)
 obtain⟨w2,hw2⟩:=AV (w1.alloc (.cells #[.int .i64 v0.1, .int .i64 0, .bool false, .int .u32 0, .int .u32 0, .int .u32 0, .int .u32 0, .int .u32 0, .int .u32 0, .int .u32 0, .int .u32 0, .int .u32 0, .int .u8 0, .slice none 0 0] 42))
 have hb2:Below w1.heap.size w1 w2:=by rw[hw2];exact(Below.refl _ _).alloc (Nat.le_refl _) _
 have hp2:w2.heap[p]? =some (.cells #[.int .i64 v0.1, .int .i64 0, .bool false, .int .u32 0, .int .u32 0, .int .u32 0, .int .u32 0, .int .u32 0, .int .u32 0, .int .u32 0, .int .u32 0, .int .u32 0, .int .u8 0, .slice none 0 0] 42 (0,0)):=by rw[hw2,hp];exact heap_alloc_new _ _
 have hpa:=HA.o.2
 have hpa1:w1.heap[pr]? =some (.cells #[.int .i64 0, .int .i64 0, .bool false, .int .u32 0, .int .u32 0, .int .u32 0, .int .u32 0, .int .u32 0, .int .u32 0, .int .u32 0, .int .u32 0, .int .u32 0, .int .u8 0, .slice none 0 0] 42 (0,0)):=(hS.block pr (Array.getElem?_eq_some_iff.1 hpa).1 ⟨by have:=HPR.o;have:=HH.o.rd.lt;omega,by have:=HPR.o;have:=HH.o.lt;omega⟩).trans hpa
 have HP:Hid (PS base top w w2 R b p pr 42 42 #[.int .i64 v0.1, .int .i64 0, .bool false, .int .u32 0, .int .u32 0, .int .u32 0, .int .u32 0, .int .u32 0, .int .u32 0, .int .u32 0, .int .u32 0, .int .u32 0, .int .u8 0, .slice none 0 0] #[.int .i64 0, .int .i64 0, .bool false, .int .u32 0, .int .u32 0, .int .u32 0, .int .u32 0, .int .u32 0, .int .u32 0, .int .u32 0, .int .u32 0, .int .u32 0, .int .u8 0, .slice none 0 0] q1):=⟨hR.stay hb2,hp2,ay hpa1 hb2,(((Save.of HA.o.1).trans hS).trans (Save.of hb2)),⟨by have:=HPR.o;omega,by have:=(Array.getElem?_eq_some_iff.1 hpa1).1;omega⟩,HH.o.rd.lt,HH.o.lt⟩
 clear hR hS hb2 hp2 hpa hpa1 HK c0
 go_upto_region 2 with fail
 rw[←hw2,←hp]
 clear hw2 hp
 obtain⟨v1,hv1⟩:=AU q1.int.1
 obtain⟨q2,hq2⟩:=AU q1.int.2
 have hk:=dS HP.o.lD
 rw[←hv1.o,←hq2.o] at hk
 have HK:=AQ hk
 have c0:=HP.o.lD.c0
 clear hk
 go_wp2_with fail
 refine(HK.o).mono ?_
 rintro e x1 ⟨rfl,hR,hS⟩
 have HP:=AQ (HP.o.call hR hS)
 have ck:=HP.o.ck 1 rfl
 have fk:=HP.o.fk 1
 clear hR hS HK c0
 go_upto_region 3 with fail
 have hp:=HP.o.set' (k:=1) (v:= .int .i64 v1.1) (C':=(cP ⟨v0,v1,false,r0,0,0,none,[],0⟩)) rfl
 obtain⟨y1,hy1⟩:=AV (x1.setCell ⟨p,1,none⟩ (.int .i64 v1.1))
 rw[←hy1] at hp ⊢
 have HP:=AQ hp
 clear ck fk hy1 hp
 obtain⟨v2,hv2⟩:=AU q2.flag.1
 obtain⟨q3,hq3⟩:=AU q2.flag.2
 have hk:=vW HP.o.lD
 rw[←hv2.o,←hq3.o] at hk
 have HK:=AQ hk
 have c0:=HP.o.lD.c0
 clear hk
 go_wp2_with fail
 refine(HK.o).mono ?_
 rintro e x2 ⟨rfl,hR,hS⟩
 have HP:=AQ (HP.o.call hR hS)
 have ck:=HP.o.ck 2 rfl
 have fk:=HP.o.fk 2
 clear hR hS HK c0
 go_upto_region 4 with fail
 have hp:=HP.o.set' (k:=2) (v:= .bool v2) (C':=(cP ⟨v0,v1,v2,r0,0,0,none,[],0⟩)) rfl
 obtain⟨y2,hy2⟩:=AV (x2.setCell ⟨p,2,none⟩ (.bool v2))
 rw[←hy2] at hp ⊢
 have HP:=AQ hp
 clear ck fk hy2 hp
 go_upto_region 5 with fail
 go_loopw [23] (fun i wr=>∃(k:Nat) (r:R8) (q:Rs),i= .int .i64 (k:Int)∧k≤8∧Hid (q=(q3.words k).2)∧Hid (r=regs (q3.words k).1)∧PS base top w wr R b p pr 42 42 (cP ⟨v0,v1,v2,r,0,0,none,[],0⟩) #[.int .i64 0, .int .i64 0, .bool false, .int .u32 0, .int .u32 0, .int .u32 0, .int .u32 0, .int .u32 0, .int .u32 0, .int .u32 0, .int .u32 0, .int .u32 0, .int .u8 0, .slice none 0 0] q) (fun i _=>8-(intOf i).toNat)
 case atStart=>exact⟨0,r0,q3,rfl,by decide,rfl,rfl,HP.o⟩
 case round=>
  obtain⟨k,r,q4,rfl,hk8,Hq,Hr,hP⟩:=hrel
  have HP:=AQ hP
  clear hP
  by_cases hlt:k<8
  ·have HLT:=AQ hlt
   obtain⟨v4,hv4⟩:=AU q4.word.1
   obtain⟨q5,hq5⟩:=AU q4.word.2
   have hk:=nZ HP.o.lD
   rw[←hv4.o,←hq5.o] at hk
   have HK:=AQ hk
   have c0:=HP.o.lD.c0
   clear hk
   go_wp2_with fail
   refine(HK.o).mono ?_
   rintro e x4 ⟨rfl,hR,hS⟩
   have HP:=AQ (HP.o.call hR hS)
   have ck:=HP.o.ck (3+k) (u:=vw (r.1[k]'(by rw[r.2];exact HLT.o))) (Dx _ k HLT.o)
   have fk:=HP.o.fk (3+k)
   clear hR hS HK c0
   go_wp2_with fail
   go_roundw
   case rel=>exact⟨k+1,mG r k v4,q5,by go_num,HLT.o,by rw[Hid,hq5.o,Hq.o];rfl,by rw[Hid,Hr.o];exact DL _ k v4 HLT.o (hv4.o.trans (by rw[Hq.o])),HP.o.set' (yS _ _ _ _ _ _ _ _ _ k v4 HLT.o)⟩
   case measure=>have:=HLT.o;simp[intOf];omega
  ·have hk2:k=8:=by omega
   have Hq:Hid (q4=(q3.words 8).2):=by rw[Hid,Hq.o,hk2]
   have Hr:Hid (r=⟨(q3.words 8).1,kH _ _⟩):=by rw[Hid,Hr.o,hk2];exact DW _ (kH _ _)
   clear hk2 hk8
   go_upto_region 9 with fail
   obtain⟨v4,hv4⟩:=AU q4.word.1
   obtain⟨q5,hq5⟩:=AU q4.word.2
   have hk:=nZ HP.o.lD
   rw[←hv4.o,←hq5.o] at hk
   have HK:=AQ hk
   have c0:=HP.o.lD.c0
   clear hk
   go_wp2_with fail
   refine(HK.o).mono ?_
   rintro e x4 ⟨rfl,hR,hS⟩
   have HP:=AQ (HP.o.call hR hS)
   have ck:=HP.o.ck 11 (Gi _ (k:=0) rfl)
   have fk:=HP.o.fk 11
   clear hR hS HK c0
   go_upto_region 10 with fail
   have hp:=HP.o.set' (k:=11) (v:=vw v4) (C':=(cP ⟨v0,v1,v2,r,v4,0,none,[],0⟩)) (Df _ _ _ _ _ _ _ _ _ v4)
   obtain⟨y4,hy4⟩:=AV (x4.setCell ⟨p,11,none⟩ (vw v4))
   rw[←hy4] at hp ⊢
   have HP:=AQ hp
   clear ck fk hy4 hp
   obtain⟨v5,hv5⟩:=AU q5.byte.1
   obtain⟨q6,hq6⟩:=AU q5.byte.2
   have hk:=wE HP.o.lD
   rw[←hv5.o,←hq6.o] at hk
   have HK:=AQ hk
   have c0:=HP.o.lD.c0
   clear hk
   go_wp2_with fail
   refine(HK.o).mono ?_
   rintro e x5 ⟨rfl,hR,hS⟩
   have HP:=AQ (HP.o.call hR hS)
   have ck:=HP.o.ck 12 (Gi _ (k:=1) rfl)
   have fk:=HP.o.fk 12
   clear hR hS HK c0
   go_upto_region 11 with fail
   have hp:=HP.o.set' (k:=12) (v:=vb v5) (C':=(cP ⟨v0,v1,v2,r,v4,v5,none,[],0⟩)) (DI _ _ _ _ _ _ _ _ _ v5)
   obtain⟨y5,hy5⟩:=AV (x5.setCell ⟨p,12,none⟩ (vb v5))
   rw[←hy5] at hp ⊢
   have HP:=AQ hp
   clear ck fk hy5 hp
   obtain⟨q7,hq7⟩:=AU q6.bytes.2
   have hk:=lX HP.o.lD
   rw[←hq7.o] at hk
   have HK:=AQ hk
   have c0:=HP.o.lD.c0
   clear hk
   go_wp2_with fail
   refine(HK.o).mono ?_
   rintro e x6 ⟨aY,Y,cY,HY,rfl,hM,hR,hS⟩
   have hsz6:=HP.o.size
   have HP:=AQ (HP.o.call hR hS)
   have ck:=HP.o.ck 13 (Gi _ (k:=2) rfl)
   have fk:=HP.o.fk 13
   have HM:=AQ (And.intro hM hsz6)
   clear hR hS HK c0 hM hsz6
   go_upto_region 12 with fail
   obtain⟨y6,hy6⟩:=AV (x6.setCell ⟨p,13,none⟩ (.slice aY Y.length cY))
   rw[←hy6]
   have hs6:Save (· ≠p) x6 y6:=by rw[hy6];exact Save.set
   have hp:=HP.o.set' (k:=13) (v:= .slice aY Y.length cY) (CG _ _ _ _ _ _ _ _ _ aY Y cY)
   rw[←hy6] at hp
   have HP:=AQ hp
   have HS6:=AQ hs6
   have L9:=AQ (sF HP.o.rO)
   clear ck fk hy6 hs6 hp
   go_wp2_with (first
    | (with_reducible refine ku (o:=⟨some 47, .load _ (.tmp 3),_,_,_,_⟩) L9.o ?_)
    | ((with_reducible refine aV (o:=⟨none, .store _ (.tmp 2) _,_,_,_,_⟩) dR (.tmp 2) (.tmp 47) AA AA AA AA AA HP.o.res AA (dZ _) (jO _) ?_);intro w9 hg9 hs9))
   have hge:∀g,blk aY=some g→p<g:=fun g hg=>Nat.lt_of_lt_of_le HM.o.2 (HM.o.1.new g hg)
   have hpp:=HP.o.lp
   refine bodyPost_ret (uV dR rfl (by rfl) hg9 (dZ _)) rfl ⟨⟨v0,v1,v2,r,v4,v5,aY,Y,cY⟩,rfl, ?_,((HM.o.1.row.save' HS6.o fun _ g hg=>by have:=hge g hg;show g≠p;omega).save' hs9 fun _ g hg=>by have:=hge g hg;show g≠pr;omega),fun g hg=>by have:=hge g hg;omega, ?_, ?_⟩
   ·show(⟨v0,v1,v2,r,v4,v5,Y⟩:qg)=_
    rw[HY.o,hv5.o,hv4.o,hq6.o,hq5.o,Hr.o,Hq.o,hv2.o,hq3.o,hv1.o,hq2.o,hv0.o,hq1.o]
    rfl
   ·have e:q7=(bW q0).2:=by rw[hq7.o,hq6.o,hq5.o,Hq.o,hq3.o,hq2.o,hq1.o];rfl
    rw[←e]
    exact HP.o.lD.newer hs9 (by have:=HP.o.lD.tp;have:=HP.o.lR;omega) (by have:=HP.o.lb;omega) (by have:=HP.o.lR;omega)
   ·exact pU HP.o.sv hs9 hpp.1
open Go Go.RowKit Go.Cit
def over (l m:List UInt8):List UInt8:=m++l.drop m.length
theorem Cc {l m:List UInt8} (h:m.length≤l.length):(over l m).length=l.length:=by unfold over;simp;omega
theorem Bg (l:List UInt8) (k:Nat) (v:UInt8) (d:List UInt8) (hd:d.length=k) (r:List UInt8) (hk:k<l.length) (hl:l=d++l.drop k):l.set k v=(d++ [v])++(l.set k v).drop (k+1)∧(l.set k v).drop (k+1)=l.drop (k+1):=by
 have h2:(l.set k v).drop (k+1)=l.drop (k+1):=by
  apply List.ext_getElem?
  intro j
  simp only[List.getElem?_drop,List.getElem?_set]
  have:¬k=k+1+j:=by omega
  simp[this]
 refine⟨?_,h2⟩
 rw[h2]
 conv=>lhs;rw[hl]
 subst hd
 have hs:((d++l.drop d.length).set d.length v)=d++(l.drop d.length).set 0 v:=by rw[List.set_append_right _ _ (Nat.le_refl _)];simp
 rw[hs,List.append_assoc,List.drop_eq_getElem_cons hk]
 rfl
theorem qG (g off i:Nat):(⟨g,off,none⟩:Addr).add i=ad (some ⟨g,off,none⟩) i:=by
 unfold Addr.add ad
 split<;>simp_all
theorem nT {P:Program} (B g off c:Nat):∀(vs:List UInt8) (d l:List UInt8) (w:World),Mine B w (some ⟨g,off,none⟩) l c→d.length+vs.length≤l.length→l=d++l.drop d.length→
 ∃w',(storeCells ⟨g,off,none⟩ (vs.map vb) d.length).run P w= .ok () w'∧Mine B w' (some ⟨g,off,none⟩) (over l (d++vs)) c∧Save (fun k=>k≠g) w w'
 | [],d,l,w,h,hl,hd=>⟨w,rfl,by rw[List.append_nil,over,←hd];exact h,Save.refl _ _⟩
 |
  v::vs,d,l,w,h,hl,hd=>by
  have hi:d.length<l.length:=by simp at hl;omega
  have hadd:(⟨g,off,none⟩:Addr).add d.length=ad (some ⟨g,off,none⟩) d.length:=qG g off d.length
  have hcell:=h.row.cell d.length hi
  have hfro:=h.free d.length hi
  obtain⟨h1,h2,_⟩:=h.stored d.length hi v
  have hst:(store ((⟨g,off,none⟩:Addr).add d.length) (vb v)).run P w= .ok () (w.setCell (ad (some ⟨g,off,none⟩) d.length) (vb v)):=by
   rw[hadd,run_store P w _ (vb v) _ rfl,hcell]
   simp[hfro]
  obtain⟨e1,e2⟩:=Bg l d.length v d rfl [] hi hd
  obtain⟨w',h3,h4,h5⟩:=nT (P:=P) B g off c vs (d++ [v]) (l.set d.length v) _ h1 (by simp at hl ⊢;omega) (by rw[List.length_append];exact e1)
  refine⟨w', ?_, ?_, ?_⟩
  ·simp only[List.map_cons,storeCells,Sem.run_bind,hst,Result.andThen_ok]
   rw[List.length_append] at h3
   exact h3
  ·have e3:over (l.set d.length v) (d++ [v]++vs)=over l (d++v::vs):=by
    unfold over
    have e4:d++ [v]++vs=d++v::vs:=by simp
    rw[e4]
    congr 1
    apply List.ext_getElem?
    intro j
    simp only[List.getElem?_drop,List.getElem?_set,List.length_append,List.length_cons]
    have:¬d.length=d.length+(vs.length+1)+j:=by omega
    simp[this]
   rw[←e3]
   exact h4
  ·exact((Save.grown h2).less (fun k _ hk e=>by simp[Go.Cit.blk] at e;exact hk e)).trans h5
theorem xE {P:Program} {dT sT ty elem:TypeId} (hu:P.underlying dT=some (.slice elem)) (hs:(P.info? elem).map (·.size)=some 1) {w:World} {B:Nat} {a:Option Addr} {l:List UInt8} {c:Nat} (h:Mine B w a l c)
 {a2:Option Addr} {m:List UInt8} {c2:Nat} (r:Row w a2 m c2) (hm:m.length≤l.length):
 ∃w',(Builtin.copy_ #[dT,sT] ty #[.slice a l.length c, .slice a2 m.length c2]).run P w= .ok (.int .i64 (m.length:Int)) w'∧Mine B w' a (over l m) c∧Save (fun k=>Go.Cit.blk a≠some k) w w':=by
 have hmin:min l.length m.length=m.length:=Nat.min_eq_right hm
 cases hq:P.info? elem with
 | none=>simp[hq] at hs
 | some i=>
 have hi1:i.size=1:=by simpa[hq] using hs
 by_cases h0:m=[]
 ·subst h0
  refine⟨w, ?_,by rw[over];simpa using h,Save.refl _ _⟩
  have hl:∀p:Addr,(loadCells p 0).run P w= .ok #[] w:=fun p=>run_loadCells_list (P:=P) w p [] (fun j v hv=>by simp at hv)
  cases a<;>cases a2<;>simp[Builtin.copy_,run_underlying hu,Builtin.lenOf,Builtin.firstCells,sizeOf,typeInfo,hq,hi1,hl,storeCells,goInt]
 have h0:0<m.length:=List.length_pos_iff.2 h0
 obtain⟨g,off,rfl⟩:=h.row.spot (by intro h1;rw[h1,List.length_nil] at hm;omega)
 obtain⟨g2,off2,rfl⟩:=r.spot (by intro h1;rw[h1] at h0;simp at h0)
 obtain⟨w',h3,h4,h5⟩:=nT (P:=P) B g off c m [] l w h (by simpa using hm) rfl
 have hl:=run_loadCells_list (P:=P) w ⟨g2,off2,none⟩ (m.map vb) (fun j v hv=>by
  have hj:j<m.length:=by
   have:=(List.getElem?_eq_some_iff.1 hv).1
   simpa using this
  have h7:=r.cell j hj
  rw[qG,h7]
  rw[List.getElem?_map,List.getElem?_eq_getElem hj] at hv
  rw[←Option.some.inj hv])
 rw[List.length_map] at hl
 refine⟨w', ?_,by simpa using h4,h5.less (fun k _ hk e=>hk (by simp[Go.Cit.blk,e]))⟩
 rw[List.length_nil] at h3
 have hmin2:m.length.min l.length=m.length:=Nat.min_eq_left hm
 simp[Builtin.copy_,run_underlying hu,Builtin.lenOf,Builtin.firstCells,sizeOf,typeInfo,hq,hi1,hmin2,hl,h3,goInt]
theorem sZ {P:Program} {dT sT elem:TypeId} (hu:P.underlying dT=some (.slice elem)) (hs:(P.info? elem).map (·.size)=some 1) {w:World} {ops:Array Oper} {rest:List Oper} {o:Oper} {act:Act} {Q:Exit→Act→World→Prop} (x y:Operand) (hgd:o.guard=none)
 (ho:o.op= .call {callee:= .builtin .copy,args:= #[x,y],argTypes:= #[dT,sT]}) {B:Nat} {a a2:Option Addr} {l m:List UInt8} {c c2 N K:Nat} (hx:act.eval x= .slice a N c) (hy:act.eval y= .slice a2 K c2) (h:Mine B w a l c) (r:Row w a2 m c2) (hm:m.length≤l.length) (hN:N=l.length) (hK:K=m.length)
 (hK:∀w',Mine B w' a (over l m) c→Save (fun k=>Go.Cit.blk a≠some k) w w'→wpList P ops Q rest (act.put o.dst (.int .i64 (K:Int))) w'):wpList P ops Q (o::rest) act w:=by
 subst hN
 obtain rfl:= ‹K=m.length›
 obtain⟨w',h1,h2,h3⟩:=xE (P:=P) (dT:=dT) (sT:=sT) (ty:=o.type) hu hs h r hm
 refine aP (w':=w') (v:= .int .i64 (m.length:Int)) hgd ?_ (hK w' h2 h3)
 unfold execOp
 simp only[ho,resolve,invoke,builtin,Sem.run_bind,Sem.run_pure,Result.andThen_ok,List.map_toArray,List.map_cons,List.map_nil,hx,hy,h1]
def jJ (n:Nat) (m:List UInt8):List UInt8:=over (List.replicate n 0) m
theorem ni {n:Nat} {m:List UInt8} (h:m.length≤n):(jJ n m).length=n:=by unfold jJ;rw[Cc (by simpa using h)];simp
theorem yG (w:World) (n:Nat) {a:Option Addr} {m:List UInt8} {c:Nat} (h:Row w a m c) (hn:n≤512) (hm:m.length≤n):Calls Tryz.prog 35 #[.int .i64 (n:Int), .slice a m.length c] w fun e w'=>∃b d X,Hid (X=jJ n m)∧e= .returned (.tuple #[.slice b X.length d, .int .i64 0])∧Mine w.heap.size w' b X d∧Below w.heap.size w w':=by
 have HH:=AQ h
 have HM:=AQ hm
 obtain⟨k,hk⟩:=AU m.length
 have t1:¬(n:Int)<(k:Int):=by rw[hk.o];omega
 have t2:¬(512:Int)<(n:Int):=by omega
 have t3:¬(n:Int)<0:=by omega
 rw[←hk.o]
 have hn9:Hid (n≤1000000000):=by rw[Hid];omega
 clear h hm
 go_enter Tryz.func35,Tryz.ntmps35
 go_upto_region 4 with ((with_reducible refine kP (o:=⟨some 20, .makeSlice _ _ _,_,_,_,_⟩) uN (.tmp 19) (.tmp 19) AA AA n .i64 .i64 AA AA rfl hn9.o ?_);intro w1 hO1 hg1 hn1;have HO1:=AQ hO1.mine;have HB1:=AQ (grown_below hg1 (Nat.le_refl _) (fun k hk=>by simp at hk));clear hO1 hg1 hn1)
 go_wp2_with ((with_reducible refine sZ (o:=⟨some 23, .call _,_,_,_,_⟩) (l:=List.replicate n 0) (m:=m) uN.slice AB (.tmp 21) (.tmp 22) AA AA AA AA HO1.o (HH.o.stay HB1.o) (by rw[List.length_replicate];exact HM.o) (by rw[List.length_replicate]) hk.o ?_);intro w2 hO2 hs2;have HO2:=AQ hO2;have HB2:=AQ hs2;clear hO2 hs2)
 go_ret2
 refine⟨_,n,jJ n m,rfl,by rw[ni HM.o];rfl,HO2.o,HB1.o.trans (HB2.o.below HB1.o.size fun k hk e=> ?_)⟩
 have:=HO1.o.new k e
 omega
end Go.Proofs.YtlholdllibghbaaGreat
