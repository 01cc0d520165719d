/- config.Parse: its closures: walked. -/
import Derived.Test.YtlholdllibghbaaGreatG06
import Derived.Test.YtlholdllibghbaaGreatG16
import Derived.Test.YtlholdllibghbaaGreatG15
import Derived.Test.YtlholdllibghbaaGreatKit
set_option maxRecDepth 100000
set_option maxHeartbeats 8000000
namespace Go.Proofs.YtlholdllibghbaaGreat
open Go Go.RowKit Go.Cit
def St.int (s:St):I64×St:=(wH (s.read 8 jW 0).1,(s.read 8 jW 0).2)
def bW (s:St):qm×St:=(⟨s.int.1,s.int.2.int.1⟩,s.int.2.int.2)
def dN (s:St):Ch×St:=(⟨s.int.1,s.int.2.int.1,s.int.2.int.2.int.1,s.int.2.int.2.int.2.int.1,s.int.2.int.2.int.2.int.2.int.1⟩,s.int.2.int.2.int.2.int.2.int.2)
def fC (s:St):Pt×St:=(⟨s.int.1,⟨s.int.2.int.1,s.int.2.int.2.int.1⟩,(s.int.2.int.2.int.2.read 1 iJ false).1,(s.int.2.int.2.int.2.read 1 iJ false).2.bytes.1⟩,(s.int.2.int.2.int.2.read 1 iJ false).2.bytes.2)
theorem I5 (n:Int): -9223372036854775808≤wrap64 n∧wrap64 n≤9223372036854775807:=by unfold wrap64;omega
theorem Na (s:St): -9223372036854775808≤(s.read 8 jW 0).1∧(s.read 8 jW 0).1≤9223372036854775807:=by
 unfold St.read
 split
 ·split
  ·exact I5 _
  ·exact⟨by show(-9223372036854775808:Int)≤0;decide,by show(0:Int)≤9223372036854775807;decide⟩
 ·exact⟨by show(-9223372036854775808:Int)≤0;decide,by show(0:Int)≤9223372036854775807;decide⟩
theorem J3 (s:St):s.int.1.1=(s.read 8 jW 0).1:=jq (Na s)
theorem eF {base top w b s} (h:dU base top w b s):Calls Tryz.prog 57 #[.pointer (some ⟨b,0,none⟩)] w fun r w'=>r= .returned (.int .i64 s.int.1.1)∧dU base top w' b s.int.2∧Save (· ≠b) w w':=by
 obtain⟨a,c,h⟩:=h
 have:=Jy h
 rw[J3]
 exact this
theorem DK {base top w b s} (h:dU base top w b s):Calls Tryz.prog 137 #[.pointer (some ⟨b,0,none⟩)] w fun r w'=>r= .returned (.bool (s.read 1 iJ false).1)∧dU base top w' b (s.read 1 iJ false).2∧Save (· ≠b) w w':=by
 obtain⟨a,c,h⟩:=h
 exact FD h
theorem tq {base top w b s} (h:dU base top w b s):Calls Tryz.prog 60 #[.pointer (some ⟨b,0,none⟩)] w (Got base top w b s.bytes):=by
 obtain⟨a,c,h⟩:=h
 exact Ef h
theorem nY {base top w b s} (h:dU base top w b s) (most:Int):Calls Tryz.prog 172 #[.pointer (some ⟨b,0,none⟩), .int .i64 most] w fun r w'=>r= .returned (.int .i64 (s.count most).1)∧dU base top w' b (s.count most).2∧Save (· ≠b) w w':=by
 obtain⟨a,c,h⟩:=h
 exact ET h most
theorem xP {base top w b s} (h:dU base top w b s):Calls Tryz.prog 61 #[.pointer (some ⟨b,0,none⟩)] w fun r w'=>r= .returned (.int .i64 s.fin)∧w=w':=by
 obtain⟨a,c,h⟩:=h
 exact GY h
theorem dU.lt {base top w b s} (h:dU base top w b s):b<w.heap.size:=by obtain⟨_,_,h⟩:=h;exact h.lt
theorem Q5:fO Tryz.prog 77 2:=⟨⟨_,Tryz.underlying77,rfl⟩,by kernel_rfl⟩
def dJ (w:World) (g b:Nat):Prop:=w.heap[g]? =some (.cells #[.pointer (some ⟨b,0,none⟩)] 100 (0,0))
theorem dJ.ne {base top w b s g} (h:dJ w g b) (k:dU base top w b s):g≠b:=by
 rintro rfl
 obtain⟨_,_,k⟩:=k
 have:=k.blk
 rw[h] at this;simp at this
theorem dJ.save {w w':World} {g b:Nat} (h:dJ w g b) (hs:Save (· ≠b) w w') (hne:g≠b):dJ w' g b:=(hs.block g (Array.getElem?_eq_some_iff.1 h).1 hne).trans h
theorem dJ.cell {w:World} {g b:Nat} (h:dJ w g b):w.cell? ⟨g,0,none⟩=some (.pointer (some ⟨b,0,none⟩)):=au h 0 rfl
theorem gu {b p:Nat} {w w3 w4:World} (h1:Save (· ≠b) w w3) (h2:Save (· ≠p) w3 w4) (hp:w.heap.size≤p):Save (· ≠b) w w4:=
 ⟨h2.os.trans h1.os,h2.tape.trans h1.tape,h2.output.trans h1.output,Nat.le_trans h1.size h2.size,fun k hk hs=>(h2.block k (Nat.lt_of_lt_of_le hk h1.size) AL).trans (h1.block k hk hs)⟩
theorem dU.newer {base top w w' b s p} (h:dU base top w b s) (hs:Save (· ≠p) w w') (hp:top≤p) (hb:b≠p):dU base top w' b s:=h.save hs hb fun g _ hg=>by omega
theorem dJ.newer {w w':World} {g b p:Nat} (h:dJ w g b) (hs:Save (· ≠p) w w') (hne:g≠p):dJ w' g b:=(hs.block g (Array.getElem?_eq_some_iff.1 h).1 hne).trans h
theorem dJ.lt {w:World} {g b:Nat} (h:dJ w g b):g<w.heap.size:=(Array.getElem?_eq_some_iff.1 h).1
def bY {α:Type} (f:St→α×St):Nat→St→List α×St
 | 0,s=>([],s)
 | n+1,s=>((bY f n s).1++ [(f (bY f n s).2).1],(f (bY f n s).2).2)
def iF {α:Type} (f:St→α×St) (most:Int) (s:St):List α×St:=bY f (s.count most).1.toNat (s.count most).2
theorem kM {α:Type} (f:St→α×St):∀(n:Nat) (s:St),(bY f n s).1.length=n
 | 0,_=>rfl
 | n+1,s=>by rw[bY,List.length_append,kM f n s];rfl
theorem count_range (s:St) (most:Int) (h:0≤most):0≤(s.count most).1∧(s.count most).1≤most:=by
 unfold St.count
 split
 ·split
  ·exact⟨by omega,by omega⟩
  ·exact⟨Int.le_refl _,h⟩
 ·exact⟨Int.le_refl _,h⟩
theorem LQ {base top w b s} (h:dU base top w b s) (htop:top≤w.heap.size) (g:Nat) (hg:dJ w g b):Calls Tryz.prog 134 (#[]++ #[.pointer (some ⟨g,0,none⟩)]) w fun e w'=>e= .returned (.agg #[.int .i64 (bW s).1.len.1, .int .i64 (bW s).1.part.1])∧dU base top w' b (bW s).2∧Save (· ≠b) w w':=by
 show Calls Tryz.prog 134 #[.pointer (some ⟨g,0,none⟩)] w _
 have hgb:=hg.ne h
 obtain⟨w1,hw1⟩:=AV (w.alloc (.cells #[.int .i64 0, .int .i64 0] 77))
 obtain⟨p,hp⟩:=AV (w.heap.size)
 have hb1:Below w.heap.size w w1:=by rw[hw1];exact(Below.refl _ w).alloc (Nat.le_refl _) _
 have hx:w1.heap[p]? =some (.cells #[.int .i64 0, .int .i64 0] 77 (0,0)):=by rw[hw1,hp];exact heap_alloc_new _ _
 have hblt:=h.lt
 have hpb:p≠b:=by omega
 have hpw:w.heap.size≤p:=by omega
 have hg1:dJ w1 g b:=aG hg hb1
 have c0:=hg1.cell
 have HK:=AQ (eF (h.stay hb1))
 have HS:=AQ (And.intro hb1 (And.intro hx hg1))
 obtain⟨n,hn⟩:=AU s.int.1.1
 obtain⟨n2,hn2⟩:=AU s.int.2.int.1.1
 rw[←hn.o] at HK
 clear h hg hb1 hx hg1
 go_enter Tryz.func134,Tryz.ntmps134
 go_upto_region 1 with fail
 rw[←hw1,←hp]
 have HPP:=AQ hp
 clear hw1 hp
 go_wp2_with fail
 refine(HK.o).mono ?_
 rintro e w2 ⟨rfl,hR,hS⟩
 have hg2:dJ w2 g b:=HS.o.2.2.save hS hgb
 have HK2:=AQ (eF hR)
 rw[←hn2.o] at HK2
 have hx2:=(hS.block p (Array.getElem?_eq_some_iff.1 HS.o.2.1).1 hpb).trans HS.o.2.1
 have HS2:=AQ (And.intro hS (And.intro hx2 hg2))
 have c0:=hg2.cell
 clear hR hS hg2 hx2 HK
 go_wp2_with fail
 refine(HK2.o).mono ?_
 rintro e w3 ⟨rfl,hR,hS⟩
 have hx3:=(hS.block p (Array.getElem?_eq_some_iff.1 HS2.o.2.1).1 hpb).trans HS2.o.2.1
 have HS3:=AQ (And.intro hR (And.intro ((Save.of HS.o.1).trans (HS2.o.1.trans hS)) hx3))
 clear hR hS hx3 HK2 c0
 go_wp2_with ((with_reducible refine ay (o:=⟨none, .store _ (.tmp 1) _,_,_,_,_⟩) Q5 (.tmp 1) (.tmp 8) AA AA AA AA AA HS3.o.2.2 AA AA AA ?_);intro w4 hg4 hs4)
 refine bodyPost_ret (ig Q5 rfl (by rfl) hg4 rfl) rfl ⟨by rw[hn.o,hn2.o];rfl,HS3.o.1.newer hs4 (Nat.le_trans htop hpw) AL,gu HS3.o.2.1 hs4 hpw⟩
theorem KP {base top w b s} (h:dU base top w b s) (htop:top≤w.heap.size) (g:Nat) (hg:dJ w g b):Calls Tryz.prog 136 (#[]++ #[.pointer (some ⟨g,0,none⟩)]) w fun e w'=>∃x:dL,e= .returned (.agg (cA x))∧x.pt=(fC s).1∧Row w' x.a x.img x.c∧(x.img≠ []→∀g,blk x.a=some g→w.heap.size≤g)∧dU base top w' b (fC s).2∧Save (· ≠b) w w':=by
 show Calls Tryz.prog 136 #[.pointer (some ⟨g,0,none⟩)] w _
 have hgb:=hg.ne h
 have hglt:=hg.lt
 have hblt:=h.lt
 obtain⟨w1,hw1⟩:=AV (w.alloc (.cells #[.int .i64 0, .int .i64 0, .int .i64 0, .bool false, .slice none 0 0] 46))
 obtain⟨p,hp⟩:=AV (w.heap.size)
 have hb1:Below w.heap.size w w1:=by rw[hw1];exact(Below.refl _ w).alloc (Nat.le_refl _) _
 have hx:w1.heap[p]? =some (.cells #[.int .i64 0, .int .i64 0, .int .i64 0, .bool false, .slice none 0 0] 46 (0,0)):=by rw[hw1,hp];exact heap_alloc_new _ _
 have hpb:p≠b:=by omega
 have hpw:w.heap.size≤p:=by omega
 have hg1:dJ w1 g b:=aG hg hb1
 have hR:=h.stay hb1
 have HS1:=AQ (And.intro (Save.of (S:=(· ≠b)) hb1) (And.intro hx hg1))
 clear h hg hb1 hx hg1
 go_enter Tryz.func136,Tryz.ntmps136
 go_upto_region 1 with fail
 rw[←hw1,←hp]
 have HPP:=AQ hp
 clear hw1 hp
 obtain⟨n0,hn0⟩:=AU ((s).int.1.1)
 obtain⟨n1,hn1⟩:=AU (((s).int.2).int.1.1)
 obtain⟨n2,hn2⟩:=AU ((((s).int.2).int.2).int.1.1)
 obtain⟨n3,hn3⟩:=AU ((((((s).int.2).int.2).int.2).read 1 iJ false).1)
 have c0:=HS1.o.2.2.cell
 have HK:=AQ (eF hR)
 rw[←hn0.o] at HK
 clear hR
 go_wp2_with fail
 refine(HK.o).mono ?_
 rintro e v0 ⟨rfl,hR,hS⟩
 have hx:=(hS.block p (Array.getElem?_eq_some_iff.1 HS1.o.2.1).1 hpb).trans HS1.o.2.1
 have hgv:dJ v0 g b:=HS1.o.2.2.save hS hgb
 have hSS:=HS1.o.1.trans hS
 obtain⟨p2,hp2⟩:=AV (v0.heap.size)
 obtain⟨x0,hx0⟩:=AV (v0.alloc (.cells #[.int .i64 n0, .int .i64 0, .int .i64 0, .bool false, .slice none 0 0] 46))
 have hb0:Below v0.heap.size v0 x0:=by rw[hx0];exact(Below.refl _ _).alloc (Nat.le_refl _) _
 have hq:x0.heap[p2]? =some (.cells #[.int .i64 n0, .int .i64 0, .int .i64 0, .bool false, .slice none 0 0] 46 (0,0)):=by rw[hx0,hp2];exact heap_alloc_new _ _
 have hp2w:w.heap.size≤p2:=by rw[hp2];exact hSS.size
 have hp2p:p2≠p:=by have:=(Array.getElem?_eq_some_iff.1 hx).1;omega
 have hR:=hR.stay hb0
 have HS2:=AQ (And.intro (hSS.trans (Save.of hb0)) (And.intro (aG hx hb0) (And.intro (show dJ x0 g b from aG hgv hb0) hq)))
 clear hx hgv hSS hS hb0 hq HS1 HK c0
 go_upto_region 2 with fail
 rw[←hx0,←hp2]
 have HPQ:=AQ hp2
 clear hx0 hp2
 have c0:=HS2.o.2.2.1.cell
 have HK:=AQ (eF hR)
 rw[←hn1.o] at HK
 clear hR
 go_wp2_with fail
 refine(HK.o).mono ?_
 rintro e v1 ⟨rfl,hR,hS⟩
 have hx:=(hS.block p (Array.getElem?_eq_some_iff.1 HS2.o.2.1).1 hpb).trans HS2.o.2.1
 have hgv:dJ v1 g b:=HS2.o.2.2.1.save hS hgb
 have hSS:=HS2.o.1.trans hS
 have hq:=(hS.block p2 (Array.getElem?_eq_some_iff.1 HS2.o.2.2.2).1 AL).trans HS2.o.2.2.2
 have d0:=au hq 1 rfl
 have f0:=bD hq 1
 obtain⟨x1,hx1⟩:=AV (v1.setCell ⟨p2,1,none⟩ (.int .i64 n1))
 have hs:Save (· ≠p2) v1 x1:=by rw[hx1];exact Save.set
 have hq2:x1.heap[p2]? =some (.cells #[.int .i64 n0, .int .i64 n1, .int .i64 0, .bool false, .slice none 0 0] 46 (0,0)):=by rw[hx1];exact aX _ hq
 have hR:=hR.newer hs (Nat.le_trans htop hp2w) AL
 have HS3:=AQ (And.intro (gu hSS hs hp2w) (And.intro ((hs.block p (Array.getElem?_eq_some_iff.1 hx).1 AL).trans hx) (And.intro (hgv.newer hs AL) hq2)))
 clear hx hgv hSS hS hs hq hq2 HS2 HK c0
 go_upto_region 3 with fail
 rw[←hx1]
 clear hx1 d0 f0
 have c0:=HS3.o.2.2.1.cell
 have HK:=AQ (eF hR)
 rw[←hn2.o] at HK
 clear hR
 go_wp2_with fail
 refine(HK.o).mono ?_
 rintro e v2 ⟨rfl,hR,hS⟩
 have hx:=(hS.block p (Array.getElem?_eq_some_iff.1 HS3.o.2.1).1 hpb).trans HS3.o.2.1
 have hgv:dJ v2 g b:=HS3.o.2.2.1.save hS hgb
 have hSS:=HS3.o.1.trans hS
 have hq:=(hS.block p2 (Array.getElem?_eq_some_iff.1 HS3.o.2.2.2).1 AL).trans HS3.o.2.2.2
 have d0:=au hq 2 rfl
 have f0:=bD hq 2
 obtain⟨x2,hx2⟩:=AV (v2.setCell ⟨p2,2,none⟩ (.int .i64 n2))
 have hs:Save (· ≠p2) v2 x2:=by rw[hx2];exact Save.set
 have hq2:x2.heap[p2]? =some (.cells #[.int .i64 n0, .int .i64 n1, .int .i64 n2, .bool false, .slice none 0 0] 46 (0,0)):=by rw[hx2];exact aX _ hq
 have hR:=hR.newer hs (Nat.le_trans htop hp2w) AL
 have HS4:=AQ (And.intro (gu hSS hs hp2w) (And.intro ((hs.block p (Array.getElem?_eq_some_iff.1 hx).1 AL).trans hx) (And.intro (hgv.newer hs AL) hq2)))
 clear hx hgv hSS hS hs hq hq2 HS3 HK c0
 go_upto_region 4 with fail
 rw[←hx2]
 clear hx2 d0 f0
 have c0:=HS4.o.2.2.1.cell
 have HK:=AQ (DK hR)
 rw[←hn3.o] at HK
 clear hR
 go_wp2_with fail
 refine(HK.o).mono ?_
 rintro e v3 ⟨rfl,hR,hS⟩
 have hx:=(hS.block p (Array.getElem?_eq_some_iff.1 HS4.o.2.1).1 hpb).trans HS4.o.2.1
 have hgv:dJ v3 g b:=HS4.o.2.2.1.save hS hgb
 have hSS:=HS4.o.1.trans hS
 have hq:=(hS.block p2 (Array.getElem?_eq_some_iff.1 HS4.o.2.2.2).1 AL).trans HS4.o.2.2.2
 have d0:=au hq 3 rfl
 have f0:=bD hq 3
 obtain⟨x3,hx3⟩:=AV (v3.setCell ⟨p2,3,none⟩ (.bool n3))
 have hs:Save (· ≠p2) v3 x3:=by rw[hx3];exact Save.set
 have hq2:x3.heap[p2]? =some (.cells #[.int .i64 n0, .int .i64 n1, .int .i64 n2, .bool n3, .slice none 0 0] 46 (0,0)):=by rw[hx3];exact aX _ hq
 have hR:=hR.newer hs (Nat.le_trans htop hp2w) AL
 have HS5:=AQ (And.intro (gu hSS hs hp2w) (And.intro ((hs.block p (Array.getElem?_eq_some_iff.1 hx).1 AL).trans hx) (And.intro (hgv.newer hs AL) hq2)))
 clear hx hgv hSS hS hs hq hq2 HS4 HK c0
 go_upto_region 5 with fail
 rw[←hx3]
 clear hx3 d0 f0
 have c0:=HS5.o.2.2.1.cell
 have HK:=AQ (tq hR)
 clear hR
 go_wp2_with fail
 refine(HK.o).mono ?_
 rintro e v4 ⟨aY,Y,cY,HY,rfl,hM,hR,hS⟩
 have hx:=(hS.block p (Array.getElem?_eq_some_iff.1 HS5.o.2.1).1 hpb).trans HS5.o.2.1
 have hgv:dJ v4 g b:=HS5.o.2.2.1.save hS hgb
 have hSS:=HS5.o.1.trans hS
 have hq:=(hS.block p2 (Array.getElem?_eq_some_iff.1 HS5.o.2.2.2).1 AL).trans HS5.o.2.2.2
 have d0:=au hq 4 rfl
 have f0:=bD hq 4
 obtain⟨x4,hx4⟩:=AV (v4.setCell ⟨p2,4,none⟩ (.slice aY Y.length cY))
 have hs:Save (· ≠p2) v4 x4:=by rw[hx4];exact Save.set
 have hq2:x4.heap[p2]? =some (.cells #[.int .i64 n0, .int .i64 n1, .int .i64 n2, .bool n3, .slice aY Y.length cY] 46 (0,0)):=by rw[hx4];exact aX _ hq
 have hR:=hR.newer hs (Nat.le_trans htop hp2w) AL
 have HS6:=AQ (And.intro (gu hSS hs hp2w) (And.intro ((hs.block p (Array.getElem?_eq_some_iff.1 hx).1 AL).trans hx) (And.intro (hgv.newer hs AL) hq2)))
 have HM:Hid (Row x4 aY Y cY∧(Y≠ []→∀g,blk aY=some g→p2<g)):=by
  have hnew:∀g,blk aY=some g→p2<g:=fun g hg=>by have:=hM.new g hg;have:=(Array.getElem?_eq_some_iff.1 HS5.o.2.2.2).1;omega
  exact⟨hM.row.save hs (fun g hg=>by have:=hnew g hg;omega),fun _=>hnew⟩
 clear hM
 clear hx hgv hSS hS hs hq hq2 HS5 HK c0
 have HR:=AQ hR
 clear hR
 go_upto_region 6 with fail
 rw[←hx4]
 clear hx4 d0 f0
 have e0:=au HS6.o.2.2.2 0 rfl
 have e1:=au HS6.o.2.2.2 1 rfl
 have e2:=au HS6.o.2.2.2 2 rfl
 have e3:=au HS6.o.2.2.2 3 rfl
 have e4:=au HS6.o.2.2.2 4 rfl
 go_wp2_with ((with_reducible refine ay (o:=⟨none, .store _ (.tmp 1) _,_,_,_,_⟩) rowP (.tmp 1) (.tmp 20) AA AA AA AA AA HS6.o.2.1 AA AA AA ?_);intro w9 hg9 hs9)
 refine bodyPost_ret (ig rowP rfl (by rfl) hg9 rfl) rfl ⟨⟨⟨n0, ?_⟩,⟨⟨n1, ?_⟩,⟨n2, ?_⟩⟩,n3,aY,Y,cY⟩,rfl, ?_,HM.o.1.save' hs9 (fun h g hg=>by have:=HM.o.2 h g hg;have:=HPQ.o;have:=HPP.o;omega),(fun h g hg=>Nat.le_trans hp2w (Nat.le_of_lt (HM.o.2 h g hg))),HR.o.newer hs9 (Nat.le_trans htop hpw) AL,gu HS6.o.1 hs9 hpw⟩
 ·rw[hn0.o];exact s.int.1.2
 ·rw[hn1.o];exact s.int.2.int.1.2
 ·rw[hn2.o];exact s.int.2.int.2.int.1.2
 ·simp only[dL.pt,fC,Pt.mk.injEq,Reg.mk.injEq]
  exact⟨Subtype.ext hn0.o,⟨Subtype.ext hn1.o,Subtype.ext hn2.o⟩,hn3.o,HY.o⟩
theorem Lu {base top w b s} (h:dU base top w b s) (htop:top≤w.heap.size) (g:Nat) (hg:dJ w g b):Calls Tryz.prog 139 (#[]++ #[.pointer (some ⟨g,0,none⟩)]) w fun e w'=>e= .returned (.agg (Rx (dN s).1))∧dU base top w' b (dN s).2∧Save (· ≠b) w w':=by
 show Calls Tryz.prog 139 #[.pointer (some ⟨g,0,none⟩)] w _
 have hgb:=hg.ne h
 have hglt:=hg.lt
 have hblt:=h.lt
 obtain⟨w1,hw1⟩:=AV (w.alloc (.cells #[.int .i64 0, .int .i64 0, .int .i64 0, .int .i64 0, .int .i64 0] 48))
 obtain⟨p,hp⟩:=AV (w.heap.size)
 have hb1:Below w.heap.size w w1:=by rw[hw1];exact(Below.refl _ w).alloc (Nat.le_refl _) _
 have hx:w1.heap[p]? =some (.cells #[.int .i64 0, .int .i64 0, .int .i64 0, .int .i64 0, .int .i64 0] 48 (0,0)):=by rw[hw1,hp];exact heap_alloc_new _ _
 have hpb:p≠b:=by omega
 have hpw:w.heap.size≤p:=by omega
 have hg1:dJ w1 g b:=aG hg hb1
 have hR:=h.stay hb1
 have HS1:=AQ (And.intro (Save.of (S:=(· ≠b)) hb1) (And.intro hx hg1))
 clear h hg hb1 hx hg1
 go_enter Tryz.func139,Tryz.ntmps139
 go_upto_region 1 with fail
 rw[←hw1,←hp]
 have HPP:=AQ hp
 clear hw1 hp
 obtain⟨n0,hn0⟩:=AU ((s).int.1.1)
 obtain⟨n1,hn1⟩:=AU (((s).int.2).int.1.1)
 obtain⟨n2,hn2⟩:=AU ((((s).int.2).int.2).int.1.1)
 obtain⟨n3,hn3⟩:=AU (((((s).int.2).int.2).int.2).int.1.1)
 obtain⟨n4,hn4⟩:=AU ((((((s).int.2).int.2).int.2).int.2).int.1.1)
 have c0:=HS1.o.2.2.cell
 have HK:=AQ (eF hR)
 rw[←hn0.o] at HK
 clear hR
 go_wp2_with fail
 refine(HK.o).mono ?_
 rintro e v0 ⟨rfl,hR,hS⟩
 have hx:=(hS.block p (Array.getElem?_eq_some_iff.1 HS1.o.2.1).1 hpb).trans HS1.o.2.1
 have hgv:dJ v0 g b:=HS1.o.2.2.save hS hgb
 have hSS:=HS1.o.1.trans hS
 obtain⟨p2,hp2⟩:=AV (v0.heap.size)
 obtain⟨x0,hx0⟩:=AV (v0.alloc (.cells #[.int .i64 n0, .int .i64 0, .int .i64 0, .int .i64 0, .int .i64 0] 48))
 have hb0:Below v0.heap.size v0 x0:=by rw[hx0];exact(Below.refl _ _).alloc (Nat.le_refl _) _
 have hq:x0.heap[p2]? =some (.cells #[.int .i64 n0, .int .i64 0, .int .i64 0, .int .i64 0, .int .i64 0] 48 (0,0)):=by rw[hx0,hp2];exact heap_alloc_new _ _
 have hp2w:w.heap.size≤p2:=by rw[hp2];exact hSS.size
 have hp2p:p2≠p:=by have:=(Array.getElem?_eq_some_iff.1 hx).1;omega
 have hR:=hR.stay hb0
 have HS2:=AQ (And.intro (hSS.trans (Save.of hb0)) (And.intro (aG hx hb0) (And.intro (show dJ x0 g b from aG hgv hb0) hq)))
 clear hx hgv hSS hS hb0 hq HS1 HK c0
 go_upto_region 2 with fail
 rw[←hx0,←hp2]
 have HPQ:=AQ hp2
 clear hx0 hp2
 have c0:=HS2.o.2.2.1.cell
 have HK:=AQ (eF hR)
 rw[←hn1.o] at HK
 clear hR
 go_wp2_with fail
 refine(HK.o).mono ?_
 rintro e v1 ⟨rfl,hR,hS⟩
 have hx:=(hS.block p (Array.getElem?_eq_some_iff.1 HS2.o.2.1).1 hpb).trans HS2.o.2.1
 have hgv:dJ v1 g b:=HS2.o.2.2.1.save hS hgb
 have hSS:=HS2.o.1.trans hS
 have hq:=(hS.block p2 (Array.getElem?_eq_some_iff.1 HS2.o.2.2.2).1 AL).trans HS2.o.2.2.2
 have d0:=au hq 1 rfl
 have f0:=bD hq 1
 obtain⟨x1,hx1⟩:=AV (v1.setCell ⟨p2,1,none⟩ (.int .i64 n1))
 have hs:Save (· ≠p2) v1 x1:=by rw[hx1];exact Save.set
 have hq2:x1.heap[p2]? =some (.cells #[.int .i64 n0, .int .i64 n1, .int .i64 0, .int .i64 0, .int .i64 0] 48 (0,0)):=by rw[hx1];exact aX _ hq
 have hR:=hR.newer hs (Nat.le_trans htop hp2w) AL
 have HS3:=AQ (And.intro (gu hSS hs hp2w) (And.intro ((hs.block p (Array.getElem?_eq_some_iff.1 hx).1 AL).trans hx) (And.intro (hgv.newer hs AL) hq2)))
 clear hx hgv hSS hS hs hq hq2 HS2 HK c0
 go_upto_region 3 with fail
 rw[←hx1]
 clear hx1 d0 f0
 have c0:=HS3.o.2.2.1.cell
 have HK:=AQ (eF hR)
 rw[←hn2.o] at HK
 clear hR
 go_wp2_with fail
 refine(HK.o).mono ?_
 rintro e v2 ⟨rfl,hR,hS⟩
 have hx:=(hS.block p (Array.getElem?_eq_some_iff.1 HS3.o.2.1).1 hpb).trans HS3.o.2.1
 have hgv:dJ v2 g b:=HS3.o.2.2.1.save hS hgb
 have hSS:=HS3.o.1.trans hS
 have hq:=(hS.block p2 (Array.getElem?_eq_some_iff.1 HS3.o.2.2.2).1 AL).trans HS3.o.2.2.2
 have d0:=au hq 2 rfl
 have f0:=bD hq 2
 obtain⟨x2,hx2⟩:=AV (v2.setCell ⟨p2,2,none⟩ (.int .i64 n2))
 have hs:Save (· ≠p2) v2 x2:=by rw[hx2];exact Save.set
 have hq2:x2.heap[p2]? =some (.cells #[.int .i64 n0, .int .i64 n1, .int .i64 n2, .int .i64 0, .int .i64 0] 48 (0,0)):=by rw[hx2];exact aX _ hq
 have hR:=hR.newer hs (Nat.le_trans htop hp2w) AL
 have HS4:=AQ (And.intro (gu hSS hs hp2w) (And.intro ((hs.block p (Array.getElem?_eq_some_iff.1 hx).1 AL).trans hx) (And.intro (hgv.newer hs AL) hq2)))
 clear hx hgv hSS hS hs hq hq2 HS3 HK c0
 go_upto_region 4 with fail
 rw[←hx2]
 clear hx2 d0 f0
 have c0:=HS4.o.2.2.1.cell
 have HK:=AQ (eF hR)
 rw[←hn3.o] at HK
 clear hR
 go_wp2_with fail
 refine(HK.o).mono ?_
 rintro e v3 ⟨rfl,hR,hS⟩
 have hx:=(hS.block p (Array.getElem?_eq_some_iff.1 HS4.o.2.1).1 hpb).trans HS4.o.2.1
 have hgv:dJ v3 g b:=HS4.o.2.2.1.save hS hgb
 have hSS:=HS4.o.1.trans hS
 have hq:=(hS.block p2 (Array.getElem?_eq_some_iff.1 HS4.o.2.2.2).1 AL).trans HS4.o.2.2.2
 have d0:=au hq 3 rfl
 have f0:=bD hq 3
 obtain⟨x3,hx3⟩:=AV (v3.setCell ⟨p2,3,none⟩ (.int .i64 n3))
 have hs:Save (· ≠p2) v3 x3:=by rw[hx3];exact Save.set
 have hq2:x3.heap[p2]? =some (.cells #[.int .i64 n0, .int .i64 n1, .int .i64 n2, .int .i64 n3, .int .i64 0] 48 (0,0)):=by rw[hx3];exact aX _ hq
 have hR:=hR.newer hs (Nat.le_trans htop hp2w) AL
 have HS5:=AQ (And.intro (gu hSS hs hp2w) (And.intro ((hs.block p (Array.getElem?_eq_some_iff.1 hx).1 AL).trans hx) (And.intro (hgv.newer hs AL) hq2)))
 clear hx hgv hSS hS hs hq hq2 HS4 HK c0
 go_upto_region 5 with fail
 rw[←hx3]
 clear hx3 d0 f0
 have c0:=HS5.o.2.2.1.cell
 have HK:=AQ (eF hR)
 rw[←hn4.o] at HK
 clear hR
 go_wp2_with fail
 refine(HK.o).mono ?_
 rintro e v4 ⟨rfl,hR,hS⟩
 have hx:=(hS.block p (Array.getElem?_eq_some_iff.1 HS5.o.2.1).1 hpb).trans HS5.o.2.1
 have hgv:dJ v4 g b:=HS5.o.2.2.1.save hS hgb
 have hSS:=HS5.o.1.trans hS
 have hq:=(hS.block p2 (Array.getElem?_eq_some_iff.1 HS5.o.2.2.2).1 AL).trans HS5.o.2.2.2
 have d0:=au hq 4 rfl
 have f0:=bD hq 4
 obtain⟨x4,hx4⟩:=AV (v4.setCell ⟨p2,4,none⟩ (.int .i64 n4))
 have hs:Save (· ≠p2) v4 x4:=by rw[hx4];exact Save.set
 have hq2:x4.heap[p2]? =some (.cells #[.int .i64 n0, .int .i64 n1, .int .i64 n2, .int .i64 n3, .int .i64 n4] 48 (0,0)):=by rw[hx4];exact aX _ hq
 have hR:=hR.newer hs (Nat.le_trans htop hp2w) AL
 have HS6:=AQ (And.intro (gu hSS hs hp2w) (And.intro ((hs.block p (Array.getElem?_eq_some_iff.1 hx).1 AL).trans hx) (And.intro (hgv.newer hs AL) hq2)))
 clear hx hgv hSS hS hs hq hq2 HS5 HK c0
 have HR:=AQ hR
 clear hR
 go_upto_region 6 with fail
 rw[←hx4]
 clear hx4 d0 f0
 have e0:=au HS6.o.2.2.2 0 rfl
 have e1:=au HS6.o.2.2.2 1 rfl
 have e2:=au HS6.o.2.2.2 2 rfl
 have e3:=au HS6.o.2.2.2 3 rfl
 have e4:=au HS6.o.2.2.2 4 rfl
 go_wp2_with ((with_reducible refine ay (o:=⟨none, .store _ (.tmp 1) _,_,_,_,_⟩) QZ (.tmp 1) (.tmp 18) AA AA AA AA AA HS6.o.2.1 AA AA AA ?_);intro w9 hg9 hs9)
 refine bodyPost_ret (ig QZ rfl (by rfl) hg9 rfl) rfl ⟨by rw[hn0.o,hn1.o,hn2.o,hn3.o,hn4.o];rfl,HR.o.newer hs9 (Nat.le_trans htop hpw) AL,gu HS6.o.1 hs9 hpw⟩
end Go.Proofs.YtlholdllibghbaaGreat
