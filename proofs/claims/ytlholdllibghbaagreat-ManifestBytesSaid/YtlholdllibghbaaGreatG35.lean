/- Texts of the proof, one behind the other: RefParse11, RefTag. No condition but those that each names. -/
import Derived.Test.YtlholdllibghbaaGreatG22
import Derived.Test.YtlholdllibghbaaGreatG33
import Derived.Test.YtlholdllibghbaaGreatG34
import Derived.Test.YtlholdllibghbaaGreatKit
set_option maxRecDepth 100000
set_option maxHeartbeats 8000000
namespace Go.Proofs.YtlholdllibghbaaGreat
open Go Go.RowKit Go.Cit
theorem jH {base top w b s} (h:iP base top w b s):Calls Tryz.prog 63 #[.pointer (some ⟨b,0,none⟩)] w fun r w'=>r= .returned (.int .i64 s.int.1.1)∧iP base top w' b s.int.2∧Save (· ≠b) w w':=by
 have:=xJ h
 rw[←J3] at this
 exact this
structure PG (w0 w2:World) (b5 b top:Nat):Prop where
 lb:b<w2.heap.size
 l5:b5<w2.heap.size
 ne:b≠b5
 t5:top≤b5
 g0:w0.heap.size≤b
 g5:w0.heap.size≤b5
structure qC (w0 w2:World) (b5 b top:Nat) (s:St) (Q:aO) (w:World):Prop where
 box:w.heap[b5]? =some (.cells (cU Q) 26 (0,0))
 own:fD w2.heap.size w Q
 rd:iP w0.heap.size top w b s
 low:Below w0.heap.size w0 w
 size:w2.heap.size≤w.heap.size
structure qZ (w0:World) (b top:Nat) (wr:World) (s:St) (w:World):Prop where
 sv:Save (fun j=>j≠b∧j<wr.heap.size) wr w
 rd:iP w0.heap.size top w b s
theorem qZ.call {w0:World} {b top:Nat} {wr w w':World} {s s':St} (h:qZ w0 b top wr s w) (hr:iP w0.heap.size top w' b s') (hs:Save (· ≠b) w w'):qZ w0 b top wr s' w':=
 ⟨h.sv.trans (hs.less fun _ _ hk=>hk.1),hr⟩
theorem qZ.alloc {w0:World} {b top:Nat} {wr w:World} {s:St} (h:qZ w0 b top wr s w) (o:Obj):qZ w0 b top wr s (w.alloc o):=
 ⟨h.sv.trans (Save.alloc _ _),h.rd.stay ((Below.refl _ _).alloc (Nat.le_refl _) _)⟩
theorem qZ.set {w0 w2:World} {b5 b top:Nat} {wr w:World} {s:St} (h:qZ w0 b top wr s w) (hG:PG w0 w2 b5 b top) (h2:w2.heap.size≤wr.heap.size) {p i:Nat} (hp:wr.heap.size≤p) (v:Value):qZ w0 b top wr s (w.setCell ⟨p,i,none⟩ v):=by
 have:=hG.lb;have:=hG.l5;have:=hG.t5
 exact⟨h.sv.trans (Save.set.less fun k _ hk=>by omega),h.rd.save Save.set AL (fun g _ hg=>by omega)⟩
theorem qZ.grown {w0 w2:World} {b5 b top:Nat} {wr w w':World} {s:St} (h:qZ w0 b top wr s w) (hG:PG w0 w2 b5 b top) (h2:w2.heap.size≤wr.heap.size) {r:Option Nat} (hg:w.grownBy w' r) (hr:∀g,r=some g→wr.heap.size≤g):qZ w0 b top wr s w':=by
 have:=hG.lb;have:=hG.l5;have:=hG.t5
 exact⟨h.sv.trans ((Save.grown hg).less fun k _ hk e=>by have:=hr _ e.symm;omega),h.rd.save (Save.grown hg) (fun e=>by have:=hr _ e.symm;omega) (fun g _ hgt e=>by have:=hr _ e.symm;omega)⟩
theorem qC.tmp {w0 w2:World} {b5 b top:Nat} {s:St} {Q:aO} {w:World} (h:qC w0 w2 b5 b top s Q w):qZ w0 b top w s w:=⟨Save.refl _ _,h.rd⟩
theorem qC.keep {w0 w2:World} {b5 b top:Nat} {s s':St} {Q:aO} {wr w:World} (h:qC w0 w2 b5 b top s Q wr) (hG:PG w0 w2 b5 b top) (T:qZ w0 b top wr s' w):qC w0 w2 b5 b top s' Q w:=by
 have h1:=hG.lb;have h2:=hG.l5;have h3:=hG.ne;have h4:=hG.g0;have h5:=h.size;have h6:=h.low.size
 have e:∀ {α:Type} {f:α→List Value} {n:Nat} {E:TypeId} {a:Option Addr} {l:List α} {c:Nat},aS f n E w2.heap.size wr a l c→aS f n E w2.heap.size w a l c:=fun hv=>
  hv.save T.sv (fun g hg=>by have:=hv.aK hg;omega)
 refine⟨(T.sv.block b5 AL ⟨by omega,by omega⟩).trans h.box,⟨e h.own.win,e h.own.pts,e h.own.kL,fun x hx=>(e (h.own.img x hx).uU).own⟩,T.rd,h.low.trans (T.sv.below AL fun k hk=>by omega),Nat.le_trans h5 T.sv.size⟩
theorem qC.app {w0 w2:World} {b5 b top:Nat} {s:St} {Q U:aO} {w w':World} (h:qC w0 w2 b5 b top s Q w) (hG:PG w0 w2 b5 b top) {r:Option Nat} (hg:w.grownBy w' r) (hr:∀g,r=some g→w2.heap.size≤g) {i:Nat} {v:Value} (hU:(cU Q).setIfInBounds i v=cU U) (ho:fD w2.heap.size w' U):
 qC w0 w2 b5 b top s U (w'.setCell ⟨b5,i,none⟩ v):=by
 have h1:=hG.lb;have h2:=hG.l5;have h3:=hG.ne;have h4:=hG.g0;have h5:=h.size;have h6:=h.low.size;have h7:=hG.g5;have h8:=hG.t5
 have hb5:w'.heap[b5]? =some (.cells (cU Q) 26 (0,0)):=(hg.block b5 AL (fun e=>by have:=hr _ e.symm;omega)).trans h.box
 have e:∀ {α:Type} {f:α→List Value} {n:Nat} {E:TypeId} {a:Option Addr} {l:List α} {c:Nat},aS f n E w2.heap.size w' a l c→aS f n E w2.heap.size (w'.setCell ⟨b5,i,none⟩ v) a l c:=fun hv=>
  hv.save Save.set (fun g hg=>by have:=hv.aK hg;omega)
 have hb:Below w0.heap.size w w':=(Save.grown hg).below AL fun k hk e=>by have:=hr _ e.symm;omega
 refine⟨by rw[aX v hb5,hU],⟨e ho.win,e ho.pts,e ho.kL,fun x hx=>(e (ho.img x hx).uU).own⟩, ?_,(h.low.trans hb).trans (Save.set.below (by have:=hb.size;omega) fun k hk=>by omega),by have:=hg.size;simp[World.setCell];omega⟩
 exact(h.rd.save (Save.grown hg) (fun e=>by have:=hr _ e.symm;omega) (fun g _ hgt e=>by have:=hr _ e.symm;omega)).save Save.set h3 (fun g _ hgt=>by omega)
theorem qC.DF {w0 w2:World} {b5 b top:Nat} {s:St} {Q:aO} {w w':World} (h:qC w0 w2 b5 b top s Q w) (hG:PG w0 w2 b5 b top) {r:Option Nat} (hg:w.grownBy w' r) (hr:∀g,r=some g→w2.heap.size≤g):w'.heap[b5]? =some (.cells (cU Q) 26 (0,0)):=by
 have h2:=hG.l5;have h5:=h.size
 exact(hg.block b5 AL (fun e=>by have:=hr _ e.symm;omega)).trans h.box
theorem Oc (s:St):s.bytes.1.length≤65536:=by
 by_cases h:s.e=0
 ·rcases Iu h with⟨m,r,hm,_,e⟩ |e
  ·rw[e];exact hm
  ·rw[e];exact Nat.zero_le _
 ·unfold St.bytes
  rw[if_neg (Iz h)];exact Nat.zero_le _
theorem kY {α β:Type} {f:α→List Value} {f':β→List Value} {n n':Nat} {E E':TypeId} {B:Nat} {w w':World} {a a':Option Addr} {l:List α} {l':List β} {c c':Nat} (h:aS f n E B w a l c) (k:aS f' n' E' B w a' l' c') (hne:E≠E') (hg:w.grownBy w' (blk a')):aS f n E B w' a l c:=by
 refine h.save (Save.grown hg) fun g hb e=> ?_
 obtain⟨C,hC⟩:=dV h hb
 obtain⟨D,hD⟩:=dV k e.symm
 rw[hC] at hD
 injection hD with hD
 injection hD with _ hT
 exact hne hT
theorem fD.above {B R:Nat} {w w':World} {Q:aO} (h:fD B w Q) (hs:Save (· ≠R) w w') (hR:R<B):fD B w' Q:=
 ⟨h.win.save hs (fun g hg=>by have:=(h.win.aK hg).1;omega),h.pts.save hs (fun g hg=>by have:=(h.pts.aK hg).1;omega),h.kL.save hs (fun g hg=>by have:=(h.kL.aK hg).1;omega),fun x hx=>(h.img x hx).save hs (fun g hg=>by have:=((h.img x hx).aK hg).1;omega)⟩
theorem ne1:(46:Nat)≠77:=by decide
theorem Vo:(48:Nat)≠77:=by decide
theorem VI:(5:Nat)≠77:=by decide
theorem Vq:(77:Nat)≠46:=by decide
theorem Vg:(48:Nat)≠46:=by decide
theorem Va:(5:Nat)≠46:=by decide
theorem VJ:(77:Nat)≠48:=by decide
theorem Vr:(46:Nat)≠48:=by decide
theorem Vp:(5:Nat)≠48:=by decide
theorem fD.Qe {B:Nat} {w w':World} {Q:aO} (h:fD B w Q) {a':Option Addr} {c':Nat} {L:List qm} (hv:aS mY 2 77 B w' a' L c') (hg:w.grownBy w' (blk Q.wa)):fD B w' ⟨a',L,c',Q.pa,Q.ps,Q.pc,Q.ca,Q.cs,Q.cc⟩:=
 ⟨hv,kY h.pts h.win ne1 hg,kY h.kL h.win Vo hg,fun x hx=>(kY (h.img x hx).uU h.win VI hg).own⟩
theorem fD.Qi {B:Nat} {w w':World} {Q:aO} (h:fD B w Q) {a':Option Addr} {c':Nat} {L:List Ch} (hv:aS BO 5 48 B w' a' L c') (hg:w.grownBy w' (blk Q.ca)):fD B w' ⟨Q.wa,Q.ws,Q.wc,Q.pa,Q.ps,Q.pc,a',L,c'⟩:=
 ⟨kY h.win h.kL VJ hg,kY h.pts h.kL Vr hg,hv,fun x hx=>(kY (h.img x hx).uU h.kL Vp hg).own⟩
theorem fD.Qm {B:Nat} {w w':World} {Q:aO} (h:fD B w Q) {a':Option Addr} {c':Nat} {x:dL} (hx:Cit.Own 5 B w x.a x.img x.c) (hv:aS Bo 5 46 B w' a' (Q.ps++ [x]) c') (hg:w.grownBy w' (blk Q.pa)):fD B w' ⟨Q.wa,Q.ws,Q.wc,a',Q.ps++ [x],c',Q.ca,Q.cs,Q.cc⟩:=
 ⟨kY h.win h.pts Vq hg,hv,kY h.kL h.pts Vg hg,fun y hy=>by
  rcases List.mem_append.1 hy with hy |hy
  ·exact(kY (h.img y hy).uU h.pts Va hg).own
  ·obtain rfl:y=x:=by simpa using hy
   exact(kY hx.uU h.pts Va hg).own⟩
theorem Au (w:World) {a:Option Addr} {l:List UInt8} {c:Nat} (h:Row w a l c):Calls Tryz.prog 65 #[.slice a l.length c] w fun e w'=>∃U:aO,e= .returned (.tuple #[.agg (cU U), .int .i64 (uz l)])∧U.cfg=xk l∧bV w.heap.size w' U∧Below w.heap.size w w':=by
 obtain⟨wz,hwz⟩:=AV (w.alloc (.cells #[.slice none 0 0, .slice none 0 0, .slice none 0 0] 26))
 obtain⟨R,hR⟩:=AV (w.heap.size)
 have Bz:Below w.heap.size w wz:=by rw[hwz];exact(Below.refl _ w).alloc (Nat.le_refl _) _
 have hxR:wz.heap[R]? =some (.cells #[.slice none 0 0, .slice none 0 0, .slice none 0 0] 26 (0,0)):=by rw[hwz,hR];exact heap_alloc_new _ _
 have hsz:wz.heap.size=R+1:=by rw[hwz,hR];simp
 have HZ:=AQ (And.intro hxR (And.intro hsz Bz))
 have HRR:=AQ hR
 have HN:=AQ (wu wz (h.stay Bz))
 obtain⟨nl,hnl⟩:=AU l.length
 rw[←hnl.o]
 have HN2:=HN.o
 rw[←hnl.o] at HN2
 have HN3:=AQ HN2
 clear h Bz hxR hsz HN HN2
 go_enter Tryz.func65,Tryz.ntmps65
 go_wp2_with fail
 rw[←hwz,←hR]
 clear hwz hR
 refine(HN3.o).mono ?_
 rintro e w1 ⟨b,hbb,rfl,hrd,hb1⟩
 obtain⟨w2,hw2⟩:=AV (w1.alloc (.cells #[.slice none 0 0, .slice none 0 0, .slice none 0 0] 26))
 obtain⟨b5,hb5⟩:=AV (w1.heap.size)
 have hb12:Below w1.heap.size w1 w2:=by rw[hw2];exact(Below.refl _ _).alloc (Nat.le_refl _) _
 have hsz2:w2.heap.size=b5+1:=by rw[hw2,hb5];simp
 have HG:Hid (PG wz w2 b5 b w1.heap.size):=by
  have h1:=hbb.o;have h2:=hb1.size
  exact⟨by omega,by omega,by omega,by omega,by omega,by omega⟩
 have HI2:Hid (qC wz w2 b5 b w1.heap.size (St.new l) ⟨none,[],0,none,[],0,none,[],0⟩ w2):=
  ⟨by rw[hw2,hb5];exact heap_alloc_new _ _,⟨aS.nil_ _ _ _ _ _,aS.nil_ _ _ _ _ _,aS.nil_ _ _ _ _ _,fun x hx=>by simp at hx⟩,hrd.stay hb12,hb1.trans (hb12.mono hb1.size),Nat.le_refl _⟩
 obtain⟨top,htop⟩:=AV (w1.heap.size)
 rw[←htop] at HG HI2
 clear hb12 hsz2 hbb hrd hb1 HN3
 go_upto_region 3 with fail
 rw[←hw2,←hb5]
 clear hw2 hb5 htop
 have hk:=og HI2.o.rd 12
 obtain⟨n,hn⟩:∃n:Nat,Hid (((St.new l).count 12).1=(n:Int)):=⟨((St.new l).count 12).1.toNat,by have:=(count_range (St.new l) 12 AP).1;rw[Hid];omega⟩
 have hn9:n≤100:=by have:=(count_range (St.new l) 12 AP).2;have:=hn.o;omega
 obtain⟨s1,hs1⟩:=AU (((St.new l).count 12).2)
 rw[hn.o,←hs1.o] at hk
 have HK:=AQ hk
 have HP1:Hid (Ah l=bY bW n s1):=by rw[Hid,Ah,iF,hn.o,hs1.o];rfl
 clear hk
 go_wp2_with fail
 refine(HK.o).mono ?_
 rintro e w3 ⟨rfl,hrd,hsv⟩
 have HI3:=AQ (HI2.o.keep HG.o (HI2.o.tmp.call hrd hsv))
 clear hrd hsv HK HI2
 go_wp2_with fail
 go_loopw [7] (fun i wr=>∃(k:Nat) (aW:Option Addr) (LW:List qm) (cW:Nat),i= .int .i64 (k:Int)∧k≤n∧Hid (LW=(bY bW k s1).1)∧Hid (qC wz w2 b5 b top (bY bW k s1).2 ⟨aW,LW,cW,none,[],0,none,[],0⟩ wr)) (fun i _=>n-(intOf i).toNat)
 case atStart=>exact⟨0,none,[],0,rfl,Nat.zero_le _,rfl,HI3⟩
 case round=>
  clear HI3
  obtain⟨k,aW,LW,cW,rfl,hk,HL,HI⟩:=hrel
  by_cases hlt:k<n
  ·obtain⟨s2,hs2⟩:=AU ((bY bW k s1).2)
   rw[←hs2.o] at HI
   have HL9:Hid (LW.length≤100):=by
    have:=kM bW k s1
    have h2:=HL.o
    rw[Hid]
    rw[←h2] at this;omega
   obtain⟨x,hx⟩:∃x,Hid (x=(bW s2).1):=⟨(bW s2).1,rfl⟩
   have hc:=jH HI.o.rd
   rw[show s2.int.1.1=x.len.1 by rw[hx.o];rfl] at hc
   have HC:=AQ hc
   clear hc
   go_wp2_with fail
   refine(HC.o).mono ?_
   rintro e w5 ⟨rfl,hR5,hS5⟩
   have HT5:=AQ (HI.o.tmp.call hR5 hS5)
   obtain⟨wa,hwa⟩:=AV (w5.alloc (.cells #[.int .i64 x.len.1, .int .i64 0] 77))
   obtain⟨p8,hp8⟩:=AV (w5.heap.size)
   have HTa:Hid (qZ wz b top wr s2.int.2 wa):=by rw[hwa];exact HT5.o.alloc _
   have x8:wa.heap[p8]? =some (.cells #[.int .i64 x.len.1, .int .i64 0] 77 (0,0)):=by rw[hwa,hp8];exact heap_alloc_new _ _
   have hp8s:wr.heap.size≤p8:=by rw[hp8];exact HT5.o.sv.size
   have hpb:p8≠b:=by have:=HG.o.lb;have:=HI.o.size;omega
   have hc:=jH HTa.o.rd
   rw[show s2.int.2.int.1.1=x.part.1 by rw[hx.o];rfl] at hc
   have HC:=AQ hc
   have HX8:=AQ (And.intro x8 (And.intro hp8s hpb))
   clear hc hR5 hS5 HT5 x8 hp8s hpb
   go_upto_region 8 with fail
   rw[←hwa,←hp8]
   clear hwa hp8
   go_wp2_with fail
   refine(HC.o).mono ?_
   rintro e w7 ⟨rfl,hR7,hS7⟩
   have HT7:=AQ (HTa.o.call hR7 hS7)
   have hx7:w7.heap[p8]? =some (.cells #[.int .i64 x.len.1, .int .i64 0] 77 (0,0)):=(hS7.block p8 (Array.getElem?_eq_some_iff.1 HX8.o.1).1 HX8.o.2.2).trans HX8.o.1
   have e7:=au hx7 1 rfl
   have f7:=bD hx7 1
   obtain⟨w8,hw8⟩:=AV (w7.setCell ⟨p8,1,none⟩ (.int .i64 x.part.1))
   have hx8:w8.heap[p8]? =some (.cells #[.int .i64 x.len.1, .int .i64 x.part.1] 77 (0,0)):=by rw[hw8];exact aX _ hx7
   have HI8:Hid (qC wz w2 b5 b top (bW s2).2 ⟨aW,LW,cW,none,[],0,none,[],0⟩ w8):=by
    rw[hw8];exact HI.o.keep HG.o (HT7.o.set HG.o HI.o.size HX8.o.2.1 _)
   clear hR7 hS7 HT7 hx7 HTa HC
   go_upto_region 9 with fail
   rw[←hw8]
   clear hw8 e7 f7 HX8
   have c0:=au HI8.o.box 0 rfl
   have d0:=au hx8 0 rfl
   have d1:=au hx8 1 rfl
   have hge:∀g,Go.Cit.blk aW=some g→w2.heap.size≤g:=fun g hg=>(HI8.o.own.win.aK hg).1
   have HGE:=AQ hge
   have HL1:Hid (LW.length+1≤1000000000):=by have:=HL9.o;rw[Hid];omega
   clear hx8 hge
   go_wp2_with (first
    | ((with_reducible refine aj (o:=⟨some 32, .buildSlice _ _ _,_,_,_,_⟩) AA (nV JR (.tmp 31) (.agg #[.int .i64 x.len.1, .int .i64 x.part.1]) #[.int .i64 x.len.1, .int .i64 x.part.1] rfl AA AA AA AP _) ?_))
    | ((with_reducible refine dA (o:=⟨some 33, .call _,_,_,_,_⟩) JR dW vg (y:=x) (.tmp 30) (.tmp 32) AA AA HI8.o.own.win AA HL1.o HI8.o.size AA AA ?_);intro a4 k4 w10 hO4 hg4 hn4;have HO4:=AQ (And.intro hO4 hg4);have e10:=au (HI8.o.DF HG.o hg4 HGE.o) 0 rfl;have f10:=bD (HI8.o.DF HG.o hg4 HGE.o) 0;clear hO4 hg4 hn4))
   go_roundw
   case rel=>exact⟨k+1,a4,LW++ [x],k4,by go_num,by omega,by rw[Hid,HL.o,bY,←hs2.o,hx.o],by rw[Hid,bY,←hs2.o];exact HI8.o.app HG.o HO4.o.2 HGE.o (by rw[show LW.length+1=(LW++ [x]).length by simp];rfl) (HI8.o.own.Qe HO4.o.1 HO4.o.2)⟩
   case measure=>simp[intOf];omega
  ·have hk2:k=n:=by omega
   subst hk2
   have HP1b:Hid ((Ah l).1=LW∧(Ah l).2=(bY bW k s1).2):=⟨by rw[HP1.o,HL.o],by rw[HP1.o]⟩
   obtain⟨sP,hsP⟩:=AU ((bY bW k s1).2)
   rw[←hsP.o] at HI HP1b
   clear hk hlt HP1 hn9
   go_upto_region 10 with fail
   have hk:=og HI.o.rd 6
   obtain⟨m,hnm⟩:∃n:Nat,Hid (((sP).count 6).1=(n:Int)):=⟨((sP).count 6).1.toNat,by have:=(count_range (sP) 6 AP).1;rw[Hid];omega⟩
   have h9m:m≤100:=by have:=(count_range (sP) 6 AP).2;have:=hnm.o;omega
   obtain⟨s3,hss3⟩:=AU (((sP).count 6).2)
   rw[hnm.o,←hss3.o] at hk
   have HK:=AQ hk
   clear hk
   go_wp2_with fail
   refine(HK.o).mono ?_
   rintro e w3 ⟨rfl,hrd,hsv⟩
   have HI3:=AQ (HI.o.keep HG.o (HI.o.tmp.call hrd hsv))
   clear hrd hsv HK HI
   go_wp2_with fail
   have HP2:Hid (G9 l=bY fC m s3):=by rw[Hid,G9,HP1b.o.2,iF,hnm.o,hss3.o];rfl
   go_loopw [9] (fun i wr=>∃(k:Nat) (aP:Option Addr) (LP:List dL) (cP:Nat),i= .int .i64 (k:Int)∧k≤m∧Hid (LP.map dL.pt=(bY fC k s3).1)∧Hid (qC wz w2 b5 b top (bY fC k s3).2 ⟨aW,LW,cW,aP,LP,cP,none,[],0⟩ wr)) (fun i _=>m-(intOf i).toNat)
   case atStart=>exact⟨0,none,[],0,rfl,Nat.zero_le _,rfl,HI3⟩
   case round=>
    clear HI3
    obtain⟨k,aP,LP,cP,rfl,hk,HLP,HI⟩:=hrel
    by_cases hlt:k<m
    ·obtain⟨s2,hs2⟩:=AU ((bY fC k s3).2)
     rw[←hs2.o] at HI
     have HL9:Hid (LP.length≤100):=by
      have:=kM fC k s3
      have h2:=HLP.o
      rw[Hid]
      rw[←h2,List.length_map] at this;omega
     obtain⟨x,hx⟩:∃x,Hid (x=(fC s2).1):=⟨(fC s2).1,rfl⟩
     go_wp2_with fail
     have hc:=jH HI.o.rd
     rw[show s2.int.1.1=x.id.1 by rw[hx.o];rfl] at hc
     have HC:=AQ hc
     clear hc
     go_wp2_with fail
     refine(HC.o).mono ?_
     rintro e w5 ⟨rfl,hR5,hS5⟩
     have HT5:=AQ (HI.o.tmp.call hR5 hS5)
     obtain⟨wa,hwa⟩:=AV (w5.alloc (.cells #[.int .i64 x.id.1, .int .i64 0, .int .i64 0, .bool false, .slice none 0 0] 46))
     obtain⟨p8,hp8⟩:=AV (w5.heap.size)
     have HT:Hid (qZ wz b top wr s2.int.2 wa):=by rw[hwa];exact HT5.o.alloc _
     have HX:Hid (wa.heap[p8]? =some (.cells #[.int .i64 x.id.1, .int .i64 0, .int .i64 0, .bool false, .slice none 0 0] 46 (0,0))∧wr.heap.size≤p8∧p8≠b):=⟨by rw[hwa,hp8];exact heap_alloc_new _ _,by rw[hp8];exact HT5.o.sv.size,by have:=HG.o.lb;have:=HI.o.size;have:=HT5.o.sv.size;omega⟩
     clear hR5 hS5 HT5 HC
     go_upto_region 15 with fail
     rw[←hwa,←hp8]
     clear hwa hp8
     have hc:=jH HT.o.rd
     rw[show(s2.int.2).int.1.1=x.reg.base.1 by rw[hx.o];rfl] at hc
     have HC:=AQ hc
     clear hc
     go_wp2_with fail
     refine(HC.o).mono ?_
     rintro e w7 ⟨rfl,hR7,hS7⟩
     have HT7:=AQ (HT.o.call hR7 hS7)
     have hx7:w7.heap[p8]? =some (.cells #[.int .i64 x.id.1, .int .i64 0, .int .i64 0, .bool false, .slice none 0 0] 46 (0,0)):=(hS7.block p8 (Array.getElem?_eq_some_iff.1 HX.o.1).1 HX.o.2.2).trans HX.o.1
     have e7:=au hx7 1 rfl
     have f7:=bD hx7 1
     obtain⟨w8,hw8⟩:=AV (w7.setCell ⟨p8,1,none⟩ (.int .i64 x.reg.base.1))
     have hx8:w8.heap[p8]? =some (.cells #[.int .i64 x.id.1, .int .i64 x.reg.base.1, .int .i64 0, .bool false, .slice none 0 0] 46 (0,0)):=by rw[hw8];exact aX _ hx7
     have HT8:=AQ (HT7.o.set HG.o HI.o.size HX.o.2.1 (i:=1) (.int .i64 x.reg.base.1))
     rw[←hw8] at HT8
     have HX8:=AQ (And.intro hx8 HX.o.2)
     clear hR7 hS7 HT7 hx7 hx8 HT HX HC
     go_upto_region 16 with fail
     rw[←hw8]
     clear hw8 e7 f7
     have HT:=HT8
     have HX:=HX8
     clear HT8 HX8
     have hc:=jH HT.o.rd
     rw[show(s2.int.2.int.2).int.1.1=x.reg.size.1 by rw[hx.o];rfl] at hc
     have HC:=AQ hc
     clear hc
     go_wp2_with fail
     refine(HC.o).mono ?_
     rintro e w9 ⟨rfl,hR7,hS7⟩
     have HT7:=AQ (HT.o.call hR7 hS7)
     have hx7:w9.heap[p8]? =some (.cells #[.int .i64 x.id.1, .int .i64 x.reg.base.1, .int .i64 0, .bool false, .slice none 0 0] 46 (0,0)):=(hS7.block p8 (Array.getElem?_eq_some_iff.1 HX.o.1).1 HX.o.2.2).trans HX.o.1
     have e7:=au hx7 2 rfl
     have f7:=bD hx7 2
     obtain⟨w10,hw8⟩:=AV (w9.setCell ⟨p8,2,none⟩ (.int .i64 x.reg.size.1))
     have hx8:w10.heap[p8]? =some (.cells #[.int .i64 x.id.1, .int .i64 x.reg.base.1, .int .i64 x.reg.size.1, .bool false, .slice none 0 0] 46 (0,0)):=by rw[hw8];exact aX _ hx7
     have HT8:=AQ (HT7.o.set HG.o HI.o.size HX.o.2.1 (i:=2) (.int .i64 x.reg.size.1))
     rw[←hw8] at HT8
     have HX8:=AQ (And.intro hx8 HX.o.2)
     clear hR7 hS7 HT7 hx7 hx8 HT HX HC
     go_upto_region 17 with fail
     rw[←hw8]
     clear hw8 e7 f7
     have HT:=HT8
     have HX:=HX8
     clear HT8 HX8
     have hc:=ED HT.o.rd
     rw[show(s2.int.2.int.2.int.2.read 1 iJ false).1=x.keep by rw[hx.o];rfl] at hc
     have HC:=AQ hc
     clear hc
     go_wp2_with fail
     refine(HC.o).mono ?_
     rintro e w11 ⟨rfl,hR7,hS7⟩
     have HT7:=AQ (HT.o.call hR7 hS7)
     have hx7:w11.heap[p8]? =some (.cells #[.int .i64 x.id.1, .int .i64 x.reg.base.1, .int .i64 x.reg.size.1, .bool false, .slice none 0 0] 46 (0,0)):=(hS7.block p8 (Array.getElem?_eq_some_iff.1 HX.o.1).1 HX.o.2.2).trans HX.o.1
     have e7:=au hx7 3 rfl
     have f7:=bD hx7 3
     obtain⟨w12,hw8⟩:=AV (w11.setCell ⟨p8,3,none⟩ (.bool x.keep))
     have hx8:w12.heap[p8]? =some (.cells #[.int .i64 x.id.1, .int .i64 x.reg.base.1, .int .i64 x.reg.size.1, .bool x.keep, .slice none 0 0] 46 (0,0)):=by rw[hw8];exact aX _ hx7
     have HT8:=AQ (HT7.o.set HG.o HI.o.size HX.o.2.1 (i:=3) (.bool x.keep))
     rw[←hw8] at HT8
     have HX8:=AQ (And.intro hx8 HX.o.2)
     clear hR7 hS7 HT7 hx7 hx8 HT HX HC
     go_upto_region 18 with fail
     rw[←hw8]
     clear hw8 e7 f7
     have HT:=HT8
     have HX:=HX8
     clear HT8 HX8
     obtain⟨sB,hsB⟩:=AU ((s2.int.2.int.2.int.2.read 1 iJ false).2)
     rw[←hsB.o] at HT
     have hc:=sW (HT.o.alloc (.cells #[] 5)).rd
     have HC:=AQ hc
     have HO0:=AQ (kZ w12 #[] 5 [] rfl AP)
     clear hc
     go_wp2_with fail
     refine(HC.o).mono ?_
     rintro e w13 ⟨a9,X,c9,hXe,rfl,hM,hR,hS⟩
     have hw2:w2.heap.size≤w12.heap.size:=by have:=HI.o.size;have:=HT.o.sv.size;omega
     have hlb:=HG.o.lb
     have hp12:p8<w12.heap.size:=(Array.getElem?_eq_some_iff.1 HX.o.1).1
     have HT13:=AQ ((HT.o.alloc (.cells #[] 5)).call hR hS)
     have HO13:Hid (aS cb 1 5 w12.heap.size w13 (some ⟨w12.heap.size,0,none⟩) [] 0):=HO0.o.uU.save hS (fun g hg=>by have:=(HO0.o.aK hg).1;omega)
     have hx13:w13.heap[p8]? =some (.cells #[.int .i64 x.id.1, .int .i64 x.reg.base.1, .int .i64 x.reg.size.1, .bool x.keep, .slice none 0 0] 46 (0,0)):=(hS.block p8 (by simp;omega) HX.o.2.2).trans ((Below.heap_alloc _ _ _ hp12).trans HX.o.1)
     have hrw:=hM.row
     have HV13:Hid (Vec cb 1 w13 a9 X c9):=Vec.Uo (v:=vb) hrw.le hrw.top hrw.nil hrw.spot hrw.cell
     have HX13:=AQ (And.intro hx13 (And.intro hp12 hw2))
     have HXL:Hid (([]:List UInt8).length+X.length≤1000000000):=by have:=Oc sB;have h2:=hXe.o;rw[Hid,h2,List.length_nil];omega
     have HSZ:Hid (w12.heap.size≤w13.heap.size):=by have:=hS.size;rw[World.size_alloc] at this;rw[Hid];omega
     clear hM hR hS hrw hx13 hp12 hw2 hlb HC HO0 HT
     go_upto_region 19 with ((with_reducible refine nI (o:=⟨some 59, .call _,_,_,_,_⟩) U7 yV DN (.tmp 56) (.tmp 58) AA AA HO13.o HV13.o HXL.o HSZ.o AA AA ?_);intro a4 c4 w14 hO4 hg4;rw[List.nil_append];rw[List.nil_append] at hO4;have HO14:=AQ (And.intro hO4 hg4);have hx14:w14.heap[p8]? =some (.cells #[.int .i64 x.id.1, .int .i64 x.reg.base.1, .int .i64 x.reg.size.1, .bool x.keep, .slice none 0 0] 46 (0,0)):=((hg4.block p8 (Nat.lt_of_lt_of_le HX13.o.2.1 HSZ.o) (fun e=>by have h1:=HX13.o.2.1;simp[Go.Cit.blk] at e;omega)).trans HX13.o.1);have e14:=au hx14 4 rfl;have f14:=bD hx14 4;have HX14:=AQ hx14;clear hO4 hg4 hx14)
     obtain⟨w15,hw15⟩:=AV (w14.setCell ⟨p8,4,none⟩ (.slice a4 X.length c4))
     have hx15:w15.heap[p8]? =some (.cells #[.int .i64 x.id.1, .int .i64 x.reg.base.1, .int .i64 x.reg.size.1, .bool x.keep, .slice a4 X.length c4] 46 (0,0)):=by rw[hw15];exact aX _ HX14.o
     have HI15:Hid (qC wz w2 b5 b top sB.bytes.2 ⟨aW,LW,cW,aP,LP,cP,none,[],0⟩ w15):=by
      rw[hw15]
      refine HI.o.keep HG.o ((HT13.o.grown HG.o HI.o.size HO14.o.2 (fun g hg=> ?_)).set HG.o HI.o.size HX.o.2.1 _)
      have h1:=HX13.o.2.1;have h2:=HX.o.2.1
      simp[Go.Cit.blk] at hg
      omega
     have HOX:Hid (Cit.Own 5 w2.heap.size w15 a4 X c4):=by
      rw[hw15]
      have h1:=HO14.o.1.own
      refine(h1.save Save.set (fun g hg=> ?_)).low HX13.o.2.2
      have:=(h1.aK hg).1;have:=HX13.o.2.1;omega
     clear HT13 HO13 HO14 HX13 HX14 HV13 HXL HSZ HX
     rw[←hw15]
     clear hw15 e14 f14
     obtain⟨y,hy⟩:∃y:dL,Hid (y=⟨x.id,x.reg,x.keep,a4,X,c4⟩):=⟨_,rfl⟩
     have HYP:Hid (y.pt=(fC s2).1):=by rw[Hid,hy.o,←hx.o];show(⟨x.id,x.reg,x.keep,X⟩:Pt)=x;rw[hXe.o,hsB.o,hx.o];rfl
     have hyc:cA y= #[.int .i64 x.id.1, .int .i64 x.reg.base.1, .int .i64 x.reg.size.1, .bool x.keep, .slice a4 X.length c4]:=by rw[hy.o]
     rw[←hyc] at hx15
     have c1:=au HI15.o.box 1 rfl
     have d0:=au hx15 0 rfl
     have d1:=au hx15 1 rfl
     have d2:=au hx15 2 rfl
     have d3:=au hx15 3 rfl
     have d4:=au hx15 4 rfl
     have hge:∀g,Go.Cit.blk aP=some g→w2.heap.size≤g:=fun g hg=>(HI15.o.own.pts.aK hg).1
     have HGE:=AQ hge
     have HL1:Hid (LP.length+1≤1000000000):=by have:=HL9.o;rw[Hid];omega
     have HOY:Hid (Cit.Own 5 w2.heap.size w15 y.a y.img y.c):=by rw[hy.o];exact HOX.o
     clear hx15 hge hyc HOX hXe
     go_wp2_with (first
      | ((with_reducible refine aj (o:=⟨some 64, .buildSlice _ _ _,_,_,_,_⟩) AA (nV Di (.tmp 63) (.agg (cA y)) (cA y) rfl AA AA AA AP _) ?_))
      | ((with_reducible refine dA (o:=⟨some 65, .call _,_,_,_,_⟩) Di dY yR (y:=y) (.tmp 62) (.tmp 64) AA AA HI15.o.own.pts AA HL1.o HI15.o.size AA AA ?_);intro a5 k5 w17 hO4 hg4 hn4;have HO4:=AQ (And.intro hO4 hg4);have e10:=au (HI15.o.DF HG.o hg4 HGE.o) 1 rfl;have f10:=bD (HI15.o.DF HG.o hg4 HGE.o) 1;clear hO4 hg4 hn4))
     go_roundw
     case rel=>exact⟨k+1,a5,LP++ [y],k5,by go_num,by omega,by rw[Hid,List.map_append,HLP.o,bY,←hs2.o,List.map_cons,List.map_nil,HYP.o],by rw[Hid,bY,←hs2.o,show(fC s2).2=sB.bytes.2 by rw[hsB.o];rfl];exact HI15.o.app HG.o HO4.o.2 HGE.o (by rw[show LP.length+1=(LP++ [y]).length by simp];rfl) (HI15.o.own.Qm HOY.o HO4.o.1 HO4.o.2)⟩
     case measure=>simp[intOf];omega
    ·have hk2:k=m:=by omega
     subst hk2
     have HP2b:Hid ((G9 l).1=LP.map dL.pt∧(G9 l).2=(bY fC k s3).2):=⟨by rw[HP2.o,HLP.o],by rw[HP2.o]⟩
     obtain⟨sC,hsC⟩:=AU ((bY fC k s3).2)
     rw[←hsC.o] at HI HP2b
     clear hk hlt HP2 h9m
     go_upto_region 20 with fail
     have hk:=og HI.o.rd 8
     obtain⟨j,hnj⟩:∃n:Nat,Hid (((sC).count 8).1=(n:Int)):=⟨((sC).count 8).1.toNat,by have:=(count_range (sC) 8 AP).1;rw[Hid];omega⟩
     have h9j:j≤100:=by have:=(count_range (sC) 8 AP).2;have:=hnj.o;omega
     obtain⟨s4,hss4⟩:=AU (((sC).count 8).2)
     rw[hnj.o,←hss4.o] at hk
     have HK:=AQ hk
     clear hk
     go_wp2_with fail
     refine(HK.o).mono ?_
     rintro e w3 ⟨rfl,hrd,hsv⟩
     have HI3:=AQ (HI.o.keep HG.o (HI.o.tmp.call hrd hsv))
     clear hrd hsv HK HI
     go_wp2_with fail
     have HP3:Hid (EU l=bY dN j s4):=by rw[Hid,EU,HP2b.o.2,iF,hnj.o,hss4.o];rfl
     go_loopw [11] (fun i wr=>∃(k:Nat) (aC:Option Addr) (LC:List Ch) (cC:Nat),i= .int .i64 (k:Int)∧k≤j∧Hid (LC=(bY dN k s4).1)∧Hid (qC wz w2 b5 b top (bY dN k s4).2 ⟨aW,LW,cW,aP,LP,cP,aC,LC,cC⟩ wr)) (fun i _=>j-(intOf i).toNat)
     case atStart=>exact⟨0,none,[],0,rfl,Nat.zero_le _,rfl,HI3⟩
     case round=>
      clear HI3
      obtain⟨k,aC,LC,cC,rfl,hk,HLC,HI⟩:=hrel
      by_cases hlt:k<j
      ·obtain⟨s2,hs2⟩:=AU ((bY dN k s4).2)
       rw[←hs2.o] at HI
       have HL9:Hid (LC.length≤100):=by
        have:=kM dN k s4
        have h2:=HLC.o
        rw[Hid]
        rw[←h2] at this;omega
       obtain⟨x,hx⟩:∃x,Hid (x=(dN s2).1):=⟨(dN s2).1,rfl⟩
       go_wp2_with fail
       have hc:=jH HI.o.rd
       rw[show s2.int.1.1=x.id.1 by rw[hx.o];rfl] at hc
       have HC:=AQ hc
       clear hc
       go_wp2_with fail
       refine(HC.o).mono ?_
       rintro e w5 ⟨rfl,hR5,hS5⟩
       have HT5:=AQ (HI.o.tmp.call hR5 hS5)
       obtain⟨wa,hwa⟩:=AV (w5.alloc (.cells #[.int .i64 x.id.1, .int .i64 0, .int .i64 0, .int .i64 0, .int .i64 0] 48))
       obtain⟨p8,hp8⟩:=AV (w5.heap.size)
       have HT:Hid (qZ wz b top wr s2.int.2 wa):=by rw[hwa];exact HT5.o.alloc _
       have HX:Hid (wa.heap[p8]? =some (.cells #[.int .i64 x.id.1, .int .i64 0, .int .i64 0, .int .i64 0, .int .i64 0] 48 (0,0))∧wr.heap.size≤p8∧p8≠b):=⟨by rw[hwa,hp8];exact heap_alloc_new _ _,by rw[hp8];exact HT5.o.sv.size,by have:=HG.o.lb;have:=HI.o.size;have:=HT5.o.sv.size;omega⟩
       clear hR5 hS5 HT5 HC
       go_upto_region 25 with fail
       rw[←hwa,←hp8]
       clear hwa hp8
       have hc:=jH HT.o.rd
       rw[show(s2.int.2).int.1.1=x.src.1 by rw[hx.o];rfl] at hc
       have HC:=AQ hc
       clear hc
       go_wp2_with fail
       refine(HC.o).mono ?_
       rintro e w7 ⟨rfl,hR7,hS7⟩
       have HT7:=AQ (HT.o.call hR7 hS7)
       have hx7:w7.heap[p8]? =some (.cells #[.int .i64 x.id.1, .int .i64 0, .int .i64 0, .int .i64 0, .int .i64 0] 48 (0,0)):=(hS7.block p8 (Array.getElem?_eq_some_iff.1 HX.o.1).1 HX.o.2.2).trans HX.o.1
       have e7:=au hx7 1 rfl
       have f7:=bD hx7 1
       obtain⟨w8,hw8⟩:=AV (w7.setCell ⟨p8,1,none⟩ (.int .i64 x.src.1))
       have hx8:w8.heap[p8]? =some (.cells #[.int .i64 x.id.1, .int .i64 x.src.1, .int .i64 0, .int .i64 0, .int .i64 0] 48 (0,0)):=by rw[hw8];exact aX _ hx7
       have HT8:=AQ (HT7.o.set HG.o HI.o.size HX.o.2.1 (i:=1) (.int .i64 x.src.1))
       rw[←hw8] at HT8
       have HX8:=AQ (And.intro hx8 HX.o.2)
       clear hR7 hS7 HT7 hx7 hx8 HT HX HC
       go_upto_region 26 with fail
       rw[←hw8]
       clear hw8 e7 f7
       have HT:=HT8
       have HX:=HX8
       clear HT8 HX8
       have hc:=jH HT.o.rd
       rw[show(s2.int.2.int.2).int.1.1=x.dst.1 by rw[hx.o];rfl] at hc
       have HC:=AQ hc
       clear hc
       go_wp2_with fail
       refine(HC.o).mono ?_
       rintro e w9 ⟨rfl,hR7,hS7⟩
       have HT7:=AQ (HT.o.call hR7 hS7)
       have hx7:w9.heap[p8]? =some (.cells #[.int .i64 x.id.1, .int .i64 x.src.1, .int .i64 0, .int .i64 0, .int .i64 0] 48 (0,0)):=(hS7.block p8 (Array.getElem?_eq_some_iff.1 HX.o.1).1 HX.o.2.2).trans HX.o.1
       have e7:=au hx7 2 rfl
       have f7:=bD hx7 2
       obtain⟨w10,hw8⟩:=AV (w9.setCell ⟨p8,2,none⟩ (.int .i64 x.dst.1))
       have hx8:w10.heap[p8]? =some (.cells #[.int .i64 x.id.1, .int .i64 x.src.1, .int .i64 x.dst.1, .int .i64 0, .int .i64 0] 48 (0,0)):=by rw[hw8];exact aX _ hx7
       have HT8:=AQ (HT7.o.set HG.o HI.o.size HX.o.2.1 (i:=2) (.int .i64 x.dst.1))
       rw[←hw8] at HT8
       have HX8:=AQ (And.intro hx8 HX.o.2)
       clear hR7 hS7 HT7 hx7 hx8 HT HX HC
       go_upto_region 27 with fail
       rw[←hw8]
       clear hw8 e7 f7
       have HT:=HT8
       have HX:=HX8
       clear HT8 HX8
       have hc:=jH HT.o.rd
       rw[show(s2.int.2.int.2.int.2).int.1.1=x.cap.1 by rw[hx.o];rfl] at hc
       have HC:=AQ hc
       clear hc
       go_wp2_with fail
       refine(HC.o).mono ?_
       rintro e w11 ⟨rfl,hR7,hS7⟩
       have HT7:=AQ (HT.o.call hR7 hS7)
       have hx7:w11.heap[p8]? =some (.cells #[.int .i64 x.id.1, .int .i64 x.src.1, .int .i64 x.dst.1, .int .i64 0, .int .i64 0] 48 (0,0)):=(hS7.block p8 (Array.getElem?_eq_some_iff.1 HX.o.1).1 HX.o.2.2).trans HX.o.1
       have e7:=au hx7 3 rfl
       have f7:=bD hx7 3
       obtain⟨w12,hw8⟩:=AV (w11.setCell ⟨p8,3,none⟩ (.int .i64 x.cap.1))
       have hx8:w12.heap[p8]? =some (.cells #[.int .i64 x.id.1, .int .i64 x.src.1, .int .i64 x.dst.1, .int .i64 x.cap.1, .int .i64 0] 48 (0,0)):=by rw[hw8];exact aX _ hx7
       have HT8:=AQ (HT7.o.set HG.o HI.o.size HX.o.2.1 (i:=3) (.int .i64 x.cap.1))
       rw[←hw8] at HT8
       have HX8:=AQ (And.intro hx8 HX.o.2)
       clear hR7 hS7 HT7 hx7 hx8 HT HX HC
       go_upto_region 28 with fail
       rw[←hw8]
       clear hw8 e7 f7
       have HT:=HT8
       have HX:=HX8
       clear HT8 HX8
       have hc:=jH HT.o.rd
       rw[show(s2.int.2.int.2.int.2.int.2).int.1.1=x.size.1 by rw[hx.o];rfl] at hc
       have HC:=AQ hc
       clear hc
       go_wp2_with fail
       refine(HC.o).mono ?_
       rintro e w13 ⟨rfl,hR7,hS7⟩
       have HT7:=AQ (HT.o.call hR7 hS7)
       have hx7:w13.heap[p8]? =some (.cells #[.int .i64 x.id.1, .int .i64 x.src.1, .int .i64 x.dst.1, .int .i64 x.cap.1, .int .i64 0] 48 (0,0)):=(hS7.block p8 (Array.getElem?_eq_some_iff.1 HX.o.1).1 HX.o.2.2).trans HX.o.1
       have e7:=au hx7 4 rfl
       have f7:=bD hx7 4
       obtain⟨w15,hw8⟩:=AV (w13.setCell ⟨p8,4,none⟩ (.int .i64 x.size.1))
       have hx8:w15.heap[p8]? =some (.cells #[.int .i64 x.id.1, .int .i64 x.src.1, .int .i64 x.dst.1, .int .i64 x.cap.1, .int .i64 x.size.1] 48 (0,0)):=by rw[hw8];exact aX _ hx7
       have HT8:=AQ (HT7.o.set HG.o HI.o.size HX.o.2.1 (i:=4) (.int .i64 x.size.1))
       rw[←hw8] at HT8
       have HX8:=AQ (And.intro hx8 HX.o.2)
       clear hR7 hS7 HT7 hx7 hx8 HT HX HC
       go_upto_region 29 with fail
       rw[←hw8]
       clear hw8 e7 f7
       have HT:=HT8
       have HX:=HX8
       clear HT8 HX8
       have HI15:Hid (qC wz w2 b5 b top (dN s2).2 ⟨aW,LW,cW,aP,LP,cP,aC,LC,cC⟩ w15):=HI.o.keep HG.o HT.o
       have hx15:=HX.o.1
       have c2:=au HI15.o.box 2 rfl
       have d0:=au hx15 0 rfl
       have d1:=au hx15 1 rfl
       have d2:=au hx15 2 rfl
       have d3:=au hx15 3 rfl
       have d4:=au hx15 4 rfl
       have hge:∀g,Go.Cit.blk aC=some g→w2.heap.size≤g:=fun g hg=>(HI15.o.own.kL.aK hg).1
       have HGE:=AQ hge
       have HL1:Hid (LC.length+1≤1000000000):=by have:=HL9.o;rw[Hid];omega
       clear hx15 hge HT HX
       go_wp2_with (first
        | ((with_reducible refine aj (o:=⟨some 92, .buildSlice _ _ _,_,_,_,_⟩) AA (nV Kv (.tmp 91) (.agg (Rx x)) (Rx x) rfl AA AA AA AP _) ?_))
        | ((with_reducible refine dA (o:=⟨some 93, .call _,_,_,_,_⟩) Kv gK yE (y:=x) (.tmp 90) (.tmp 92) AA AA HI15.o.own.kL AA HL1.o HI15.o.size AA AA ?_);intro a5 k5 w17 hO4 hg4 hn4;have HO4:=AQ (And.intro hO4 hg4);have e10:=au (HI15.o.DF HG.o hg4 HGE.o) 2 rfl;have f10:=bD (HI15.o.DF HG.o hg4 HGE.o) 2;clear hO4 hg4 hn4))
       go_roundw
       case rel=>exact⟨k+1,a5,LC++ [x],k5,by go_num,by omega,by rw[Hid,HLC.o,bY,←hs2.o,hx.o],by rw[Hid,bY,←hs2.o];exact HI15.o.app HG.o HO4.o.2 HGE.o (by rw[show LC.length+1=(LC++ [x]).length by simp];rfl) (HI15.o.own.Qi HO4.o.1 HO4.o.2)⟩
       case measure=>simp[intOf];omega
      ·have hk2:k=j:=by omega
       subst hk2
       have HP3b:Hid ((EU l).1=LC∧(EU l).2=(bY dN k s4).2):=⟨by rw[HP3.o,HLC.o],by rw[HP3.o]⟩
       obtain⟨sE,hsE⟩:=AU ((bY dN k s4).2)
       rw[←hsE.o] at HI HP3b
       obtain⟨Q,hQ⟩:∃Q:aO,Hid (Q=⟨aW,LW,cW,aP,LP,cP,aC,LC,cC⟩):=⟨_,rfl⟩
       have HQC:Hid (Q.cfg=zU l):=by rw[Hid,hQ.o,zU,HP1b.o.1,HP2b.o.1,HP3b.o.1];rfl
       rw[←hQ.o] at HI
       clear hk hlt HP3 h9j
       go_upto_region 30 with fail
       have hke:=xZ HI.o.rd
       obtain⟨f,hf⟩:=AU sE.fin
       rw[←hf.o] at hke
       have HKE:=AQ hke
       have HOK:Hid (Dx l=(decide (f=0) && FZ (zU l))):=by rw[Hid,Dx,HP3b.o.2,hf.o]
       obtain⟨q,hq⟩:=AU (FZ (zU l))
       clear hke HP3b HP2b HP1b
       by_cases hf0:f=0
       ·subst hf0
        go_wp2_with fail
        refine(HKE.o).mono ?_
        rintro e w9 ⟨rfl,hd9⟩
        have hb9:=hd9.below wr.heap.size
        have HI9:Hid (qC wz w2 b5 b top sE Q w9):=HI.o.keep HG.o ⟨Save.of hb9,HI.o.rd.stay hb9⟩
        obtain⟨c0,c1,c2⟩:=Gx HI9.o.box
        have hc:=uG w9 Q HI9.o.own.at
        rw[show nJ Q=q by rw[jE,HQC.o,hq.o]] at hc
        have HC:=AQ hc
        clear hd9 hb9 hc HKE
        go_wp2_with fail
        refine(HC.o).mono ?_
        rintro e w10 ⟨rfl,hb10⟩
        have HB10:Hid (Below wz.heap.size wz w10):=HI9.o.low.trans (hb10.mono (HI9.o.low.size))
        have HX10:=AQ (And.intro (aG HZ.o.1 HB10.o) (And.intro (aG HI9.o.box hb10) (HI9.o.own.stay hb10)))
        have hRR:R<w2.heap.size:=by have h1:=HZ.o.2.1;have h2:=HG.o.g5;have h3:=HG.o.l5;omega
        have HBW:Hid (Below w.heap.size w w10):=HZ.o.2.2.trans (HB10.o.mono HZ.o.2.2.size)
        clear hb10 HC c0 c1 c2
        cases q with
        |
         true=>
         have e1:Hid (uz l=0):=by rw[Hid,uz,HOK.o,←hq.o];rfl
         have e2:Hid (xk l=zU l):=by rw[Hid,xk,HOK.o,←hq.o];rfl
         obtain⟨c0,c1,c2⟩:gU w10 b5 Q:=Gx HX10.o.2.1
         go_wp2_with ((with_reducible refine ay (o:=⟨none, .store _ (.tmp 2) _,_,_,_,_⟩) iW (.tmp 2) (.tmp 104) AA AA AA AA AA HX10.o.1 AA AA AA ?_);intro w12 hg12 hs12)
         refine bodyPost_ret (jS iW rfl (by rfl) hg12 rfl) rfl ⟨Q, ?_,by rw[HQC.o,e2.o],(fD.above HX10.o.2.2 hs12 hRR).fresh.low (by have:=HRR.o;omega),HBW.o.trans (hs12.below HBW.o.size (fun k hk=>by have:=HRR.o;omega))⟩
         rw[e1.o];rfl
        |
         false=>
         have e1:Hid (uz l=110):=by rw[Hid,uz,HOK.o,←hq.o];rfl
         have e2:Hid (xk l=⟨[],[],[]⟩):=by rw[Hid,xk,HOK.o,←hq.o];rfl
         go_wp2_with ((with_reducible refine ay (o:=⟨none, .store _ (.tmp 2) _,_,_,_,_⟩) iW (.tmp 2) (.tmp 103) AA AA AA AA AA HX10.o.1 AA AA AA ?_);intro w12 hg12 hs12)
         refine bodyPost_ret (jS iW rfl (by rfl) hg12 rfl) rfl ⟨⟨none,[],0,none,[],0,none,[],0⟩, ?_,by rw[e2.o];rfl,ou _ _,HBW.o.trans (hs12.below HBW.o.size (fun k hk=>by have:=HRR.o;omega))⟩
         rw[e1.o];rfl
       ·have e1:Hid (uz l=110):=by rw[Hid,uz,HOK.o,decide_eq_false hf0];rfl
        have e2:Hid (xk l=⟨[],[],[]⟩):=by rw[Hid,xk,HOK.o,decide_eq_false hf0];rfl
        have t1:((f:Int) !=0)=true:=by simpa using hf0
        clear hf0
        go_wp2_with fail
        refine(HKE.o).mono ?_
        rintro e w9 ⟨rfl,hd9⟩
        have HB9:Hid (Below wz.heap.size wz w9):=HI.o.low.trans (hd9.below _)
        have HX9:=AQ (aG HZ.o.1 HB9.o)
        have HBW:Hid (Below w.heap.size w w9):=HZ.o.2.2.trans (HB9.o.mono HZ.o.2.2.size)
        clear hd9
        go_wp2_with ((with_reducible refine ay (o:=⟨none, .store _ (.tmp 2) _,_,_,_,_⟩) iW (.tmp 2) (.tmp 103) AA AA AA AA AA HX9.o AA AA AA ?_);intro w12 hg12 hs12)
        refine bodyPost_ret (jS iW rfl (by rfl) hg12 rfl) rfl ⟨⟨none,[],0,none,[],0,none,[],0⟩, ?_,by rw[e2.o];rfl,ou _ _,HBW.o.trans (hs12.below HBW.o.size (fun k hk=>by have:=HRR.o;omega))⟩
        rw[e1.o];rfl
open Go Go.RowKit Go.Cit
theorem Qd {w:World} {b i:Nat} {U:List UInt8} {T:TypeId} {fr:Nat×Nat} (h:w.heap[b]? =some (.cells (U.map vb).toArray T fr)) (x:UInt8):(w.setCell ⟨b,i,none⟩ (vb x)).heap[b]? =some (.cells ((U.set i x).map vb).toArray T fr):=by
 simp[World.setCell,Array.getElem?_modify,h,List.map_set]
theorem OD (X Z:List UInt8) (i:Nat) (hi:i<X.length) (hz:X.length≤Z.length):(X.take i++Z.drop i).set i X[i]=X.take (i+1)++Z.drop (i+1):=by
 have hl:(X.take i).length=i:=by rw[List.length_take];omega
 rw[List.set_append_right _ _ AL,hl,Nat.sub_self,List.drop_eq_getElem_cons (show i<Z.length by omega),List.set_cons_zero,List.take_succ_eq_append_getElem hi,List.append_assoc]
 rfl
theorem P8 (s:St):(s.read 32 pW aH)=((s.read 32 fAll []).1++aH.drop (s.read 32 fAll []).1.length,(s.read 32 fAll []).2)∧(s.read 32 fAll []).1.length≤32:=by
 unfold St.read
 rcases oD s 32 with⟨x,s',h1,h2,h3⟩ |⟨s',h1,h3⟩
 ·rw[h1]
  have:aH.drop x.length=[]:=List.drop_eq_nil_of_le (by simp[aH];omega)
  simp[pW,fAll,this];omega
 ·rw[h1];simp
theorem Gs {base top w b s} (h:iP base top w b s) (ht:top≤w.heap.size) (hb:b<w.heap.size):
 Calls Tryz.prog 64 #[.pointer (some ⟨b,0,none⟩)] w fun r w'=>r= .returned (.agg ((s.read 32 pW aH).1.map vb).toArray)∧iP base top w' b (s.read 32 pW aH).2∧Save (· ≠b) w w':=by
 have HM:=AQ (P8 s)
 have HA:=AQ (fun ρ d ty ps af w=>jO ρ d ty ps (af:=af) w)
 have HZ:=AQ (bP aH rfl)
 have g1:Below w.heap.size w (w.alloc (.cells (aH.map vb).toArray 53)):=(Below.refl _ _).alloc (Nat.le_refl _) _
 have g2:Below w.heap.size w ((w.alloc (.cells (aH.map vb).toArray 53)).alloc (.cells (aH.map vb).toArray 53)):=g1.alloc AO _
 have k2:((w.alloc (.cells (aH.map vb).toArray 53)).alloc (.cells (aH.map vb).toArray 53)).heap[w.heap.size]? =some (.cells (aH.map vb).toArray 53 (0,0)):=(Below.heap_alloc _ _ _ AO).trans (heap_alloc_new w _)
 have k3:((w.alloc (.cells (aH.map vb).toArray 53)).alloc (.cells (aH.map vb).toArray 53)).heap[w.heap.size+1]? =some (.cells (aH.map vb).toArray 53 (0,0)):=by
  have:=heap_alloc_new (w.alloc (.cells (aH.map vb).toArray 53)) (.cells (aH.map vb).toArray 53);simpa using this
 have hk:=uO (h.stay g2) 32 AP
 rw[show((32:Nat):Int)=32 from rfl] at hk
 have HX0:Hid ((s.read 32 fAll []).1.length≤32):=HM.o.2
 have HM:=AQ HM.o.1
 obtain⟨q,hq⟩:=AU (s.read 32 fAll [])
 obtain⟨ok,hok⟩:=AU ((s.next 32).1.isSome)
 rw[←hq.o,←hok.o] at hk
 rw[←hq.o] at HM HX0
 obtain⟨q1,q2⟩:=q
 obtain⟨W,hW⟩:=AU (((w.alloc (.cells (aH.map vb).toArray 53)).alloc (.cells (aH.map vb).toArray 53)))
 have SZ:Hid (W.heap.size=w.heap.size+2):=by rw[Hid,hW.o];simp
 rw[←hW.o] at k2 k3 hk g2
 have K2:=AQ k2
 have K3:=AQ k3
 obtain⟨Z,hZ⟩:=AU ((aH.map vb).toArray)
 have HA2:=HA
 rw[←hZ.o] at HA2 hW HZ
 clear k2 k3 g1 h HA
 go_enter Tryz.func64,Tryz.ntmps64
 go_wp2_with (first |((with_reducible refine aj (o:=⟨some 2, .alloc _,_,_,_,_⟩) AA (HA2.o _ _ _ _ _ _) ?_)) |((with_reducible refine aj (o:=⟨some 3, .alloc _,_,_,_,_⟩) AA (HA2.o _ _ _ _ _ _) ?_)))
 rw[←hW.o]
 refine Calls.mono hk ?_
 rintro r w1 ⟨a1,X,c1,HX,rfl,hm,hR,hS⟩
 have hs1:=hS.size
 have s0:=SZ.o
 have K2b:=AQ ((hS.block w.heap.size AL AL).trans K2.o)
 have K3b:=AQ ((hS.block (w.heap.size+1) AL AL).trans K3.o)
 have hXl:X.length≤32:=by rw[HX.o];exact HX0.o
 have HT:Hid (((s.read 32 pW aH).1=X++aH.drop X.length)∧(s.read 32 pW aH).2=q2):=by rw[Hid,HM.o,HX.o];exact⟨rfl,rfl⟩
 have hnew:∀g,Go.Cit.blk a1=some g→g≠w.heap.size+1:=fun g hg=>by have:=hm.new g hg;omega
 clear hk
 go_wp2_with fail
 go_loopw [6] (fun i wx=>∃(t:Nat) (U:List UInt8),Hid (U=X.take t++aH.drop t)∧t≤X.length∧i= .int .i64 t∧Hid (wx.heap[w.heap.size+1]? =some (.cells (U.map vb).toArray 53 (0,0)))∧Save (· ≠w.heap.size+1) w1 wx) (fun i _=>X.length-(intOf i).toNat)
 case atStart=>exact⟨0,aH,by rw[Hid];simp,Nat.zero_le _,rfl,K3b,Save.refl _ _⟩
 case round=>
  clear K3b
  obtain⟨t,U,HU,ht2,rfl,K3c,S2⟩:=hrel
  have hUl:U.length=32:=by rw[HU.o];simp[aH];omega
  have rX:=hm.row.save S2 hnew
  by_cases hlt:t<X.length
  ·have i0:=rX.index bt.slice bt.sz t hlt
   have e0:=rX.cell t hlt
   have f0:wr.frozen? ⟨w.heap.size+1,t,none⟩=false:=by simp[World.frozen?,K3c.o]
   have d0:wr.cell? ⟨w.heap.size+1,t,none⟩=some (vb (U[t]'AL)):=by rw[World.cell?,K3c.o];exact(show(U.map vb).toArray[t]? =_ by simp[List.getElem?_eq_getElem (show t<U.length by omega)])
   have HN:Hid ((wr.setCell ⟨w.heap.size+1,t,none⟩ (vb X[t])).heap[w.heap.size+1]? =some (.cells ((U.set t X[t]).map vb).toArray 53 (0,0))):=Qd K3c.o X[t]
   have HM2:Hid (U.set t X[t]=X.take (t+1)++aH.drop (t+1)):=by rw[Hid,HU.o];exact OD _ _ _ hlt (by simpa[aH] using hXl)
   go_wp2_with fail
   go_roundw
   case rel=>exact⟨t+1,_,HM2,hlt,by go_num,HN,S2.trans Save.set⟩
   case measure=>simp[intOf];omega
  ·have HU2:Hid (U=X++aH.drop X.length):=by rw[Hid,HU.o,show t=X.length by omega,List.take_length]
   have HC:=AQ (bP U hUl)
   have K2c:=AQ ((S2.block w.heap.size AL AL).trans K2b.o)
   have hUT:Hid (((s.read 32 pW aH).1.map vb).toArray=(U.map vb).toArray):=by rw[Hid,HT.o.1,HU2.o]
   rw[←hZ.o] at K2c
   generalize (U.map vb).toArray=T at *
   go_wp2_with (first |((with_reducible refine dD (o:=⟨some 24, .load 53 (.tmp 3),_,_,_,_⟩) dP (.tmp 3) AA AA AA K3c.o HC.o.1 ?_)) |((with_reducible refine ay (o:=⟨none, .store 53 (.tmp 2) (.tmp 24),_,_,_,_⟩) dP (.tmp 2) (.tmp 24) AA AA AA AA AA K2c.o HZ.o.1 HC.o.1 HC.o.2 ?_);intro w4 hb4 hS4))
   have hs2:=S2.size
   refine bodyPost_ret (ig dP rfl rfl hb4 HC.o.1) rfl ⟨by rw[hUT.o], ?_, ?_⟩
   ·rw[HT.o.2];exact(hR.save S2 AL (fun g _ hg=>by omega)).save hS4 AL (fun g _ hg=>by omega)
   ·have hS5:Save (fun k=>k<w.heap.size∧k≠b) w w4:=(Save.of g2).trans ((hS.less (fun k _ hk=>hk.2)).trans ((S2.less (fun k _ hk=>by omega)).trans (hS4.less (fun k _ hk=>by omega))))
    exact hS5.less (fun k hk hkb=>⟨hk,hkb⟩)
end Go.Proofs.YtlholdllibghbaaGreat
