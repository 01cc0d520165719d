/- Texts of the proof, one behind the other: PrintAll, Parse1. No condition but those that each names. -/
import Derived.Test.YtlholdllibghbaaGreatG16
import Derived.Test.YtlholdllibghbaaGreatG06
import Derived.Test.YtlholdllibghbaaGreatKit
set_option maxRecDepth 100000
set_option maxHeartbeats 8000000
namespace Go.Proofs.YtlholdllibghbaaGreat
open Go Go.RowKit Go.Cit
def qE (V:aN):List UInt8:=((int8 V.ws.length++V.ws.flatMap iO)++(int8 V.ps.length++V.ps.flatMap iY))++(int8 V.cs.length++V.cs.flatMap xG)
def jB (V:aN):List UInt8:=if nP V then qE V else []
def Eo (V:aN):Int:=if nP V then 0 else 2
theorem eF (n:Int):(int8 n).length=8:=aB _ _
theorem vG:∀(l:List nU),(l.flatMap iO).length=16*l.length
 | []=>rfl
 | x::r=>by rw[List.flatMap_cons,List.length_append,vG r,List.length_cons];simp[iO,eF];omega
theorem yt:∀(l:List Ch),(l.flatMap xG).length=40*l.length
 | []=>rfl
 | x::r=>by rw[List.flatMap_cons,List.length_append,yt r,List.length_cons];simp[xG,eF];omega
theorem yh:∀(l:List cO),l.any jV=false→(l.flatMap iY).length≤541*l.length
 | [],_=>by simp
 |
  x::r,h=>by
  rw[List.any_cons,Bool.or_eq_false_iff] at h
  have h1:=h.1
  unfold jV at h1
  have h1:=of_decide_eq_false h1
  rw[List.flatMap_cons,List.length_append,List.length_cons]
  have:=yh r h.2
  have h2:(iY x).length=29+x.img.length:=by simp[iY,eF,iI,bD];omega
  omega
theorem qZ {V:aN} (h:nP V=true):V.ws.length≤12∧V.ps.length≤6∧V.cs.length≤8∧V.ps.any jV=false:=by
 unfold nP at h
 simp only[Bool.and_eq_true,decide_eq_true_eq,Bool.not_eq_true'] at h
 exact⟨h.1.1.1,h.1.1.2,h.1.2,h.2⟩
theorem Wr.old {base N:Nat} {w b a l c e} (h:Wr base w b a l c e) (hN:N≤base):∀k,k<N→Off b a k:=fun k hk=>⟨by have:=h.ge;omega,fun e=>by have:=(h.own.aJ e.symm).1;omega⟩
theorem Gq (w:World) (V:aN) (h:V.At w) (hs:bP V):Calls Tryz.prog 107 #[.agg #[.slice V.wa V.ws.length V.wc, .slice V.pa V.ps.length V.pc, .slice V.ca V.cs.length V.cc]] w fun e w'=>∃a' c',e= .returned (.tuple #[.slice a' (jB V).length c', .int .i64 (Eo V)])∧Mine w.heap.size w' a' (jB V) c'∧Below w.heap.size w w':=by
 obtain⟨w0,hw0⟩:=AV (w.alloc (.cells #[.slice V.wa V.ws.length V.wc, .slice V.pa V.ps.length V.pc, .slice V.ca V.cs.length V.cc] 26))
 have B0:Below w.heap.size w w0:=by rw[hw0];exact(Below.refl _ w).alloc (Nat.le_refl _) _
 have hI:gJ w0 w.heap.size V:=by rw[hw0];exact dn w V _
 have HV:=AQ (h.stay B0)
 have HI:=AQ hI
 have HB0:=AQ B0
 obtain⟨g,hg⟩:=AU (nP V)
 have hc:=wC w0 V (h.stay B0)
 rw[←hg.o] at hc
 have HC:=AQ hc
 clear h B0 hI hc
 obtain⟨c0,c1,c2⟩:=HI.o
 obtain⟨PB,hPB⟩:=AU (jB V)
 obtain⟨PE,hPE⟩:=AU (Eo V)
 rw[←hPB.o,←hPE.o]
 go_enter Tryz.func107,Tryz.ntmps107
 go_wp2_with fail
 rw[←hw0]
 clear hw0
 refine(HC.o).mono ?_
 rintro e w1 ⟨rfl,hb1⟩
 have HB1:=AQ hb1
 clear hb1 c0 c1 c2 HC
 cases g with
 |
  false=>
  have e1:Hid (PB=[]):=by rw[Hid,hPB.o];unfold jB;rw[←hg.o];rfl
  have e2:Hid (PE=2):=by rw[Hid,hPE.o];unfold Eo;rw[←hg.o];rfl
  go_wp2_with fail
  go_ret2
  exact⟨none,0,by rw[e1.o,e2.o];rfl,by rw[e1.o];exact Mine.nil _ _,HB0.o.trans (HB1.o.mono HB0.o.size)⟩
 |
  true=>
  have e1:Hid (PB=qE V):=by rw[Hid,hPB.o];unfold jB;rw[←hg.o];rfl
  have e2:Hid (PE=0):=by rw[Hid,hPE.o];unfold Eo;rw[←hg.o];rfl
  have hcan:=qZ hg.o.symm
  have hlw:=vG V.ws
  have hlc:=yt V.cs
  have hlp:=yh V.ps hcan.2.2.2
  have HL:Hid ((V.ws.flatMap iO).length≤192∧(V.ps.flatMap iY).length≤3246∧(V.cs.flatMap xG).length≤320):=⟨by omega,by omega,by omega⟩
  clear hcan hlw hlc hlp
  have HN:=AQ (pY w1)
  go_wp2_with fail
  refine(HN.o).mono ?_
  rintro e w2 ⟨rfl,hW,hb2⟩
  obtain⟨b,hb⟩:=AV (w1.heap.size)
  rw[←hb] at hW
  have hb02:=HB1.o.trans (hb2.mono HB1.o.size)
  have hNb:w0.heap.size≤b:=by rw[hb];exact HB1.o.size
  have hb12:b≤w2.heap.size:=by rw[hb];exact hb2.size
  obtain⟨w3,hw3⟩:=AV (w2.alloc (.cells #[.pointer (some ⟨b,0,none⟩)] 94))
  obtain⟨g,hgg⟩:=AV (w2.heap.size)
  have hb3:Below w2.heap.size w2 w3:=by rw[hw3];exact(Below.refl _ _).alloc (Nat.le_refl _) _
  have hgx:w3.heap[g]? =some (.cells #[.pointer (some ⟨b,0,none⟩)] 94 (0,0)):=by rw[hw3,hgg];exact heap_alloc_new _ _
  have hW3:=hW.stay hb3
  have hb03:=hb02.trans (hb3.mono hb02.size)
  have HW3:=AQ (And.intro hW3 (And.intro hgx hb03))
  have HNB:=AQ (And.intro hNb (Nat.le_trans hb12 hb3.size))
  have hk:=F5 hW3 (Nat.le_trans hb12 hb3.size) g hgx hb03 hNb HV.o.win (by have:=HL.o.1;show 0+8+_≤_;omega)
  have HK:=AQ hk
  have hp:w3.cell? ⟨g,0,none⟩=some (.pointer (some ⟨b,0,none⟩)):=aA hgx 0 rfl
  obtain⟨c0,c1,c2⟩:=HI.o.keep hb03
  have HGO:Hid (g<w3.heap.size):=(Array.getElem?_eq_some_iff.1 hgx).1
  clear hW hb2 hb02 hNb hb12 hb3 hgx hW3 hb03 hk HN
  go_upto_region 4 with fail
  rw[←hb,←hw3,←hgg]
  have HZ3:Hid (w1.heap.size≤w3.heap.size):=by rw[←hb];exact HNB.o.2
  have HB9:Hid (b≤w1.heap.size):=by rw[hb];exact Nat.le_refl _
  clear hb hw3 hgg
  go_wp2_with fail
  refine(HK.o).mono ?_
  rintro e w4 ⟨rfl,a4,X4,k4,H4,hW,hS,hN⟩
  have hBel:=HW3.o.1.old HNB.o.1
  have hb4:Below w0.heap.size w0 w4:=HW3.o.2.2.trans (hS.below HW3.o.2.2.size hBel)
  have hgo:Off b none g:=⟨by rintro rfl;have:=HW3.o.1.blk;rw[HW3.o.2.1] at this;simp at this,fun e=>own_ne HW3.o.1.own HW3.o.2.1 AP e.symm⟩
  have hg4:w4.heap[g]? =some (.cells #[.pointer (some ⟨b,0,none⟩)] 94 (0,0)):=(hS.block g (Array.getElem?_eq_some_iff.1 HW3.o.2.1).1 hgo).trans HW3.o.2.1
  have HW4:=AQ (And.intro hW (And.intro hg4 hb4))
  have HZ4:Hid (w1.heap.size≤w4.heap.size):=Nat.le_trans HZ3.o hS.size
  have hk:=F6 hW (Nat.le_trans HB9.o HZ4.o) g hg4 hb4 HNB.o.1 HV.o.pts HV.o.img (by have:=HL.o.2.1;rw[H4.o];simp only[List.length_append,List.length_nil,eF];have:=HL.o.1;omega)
  have HK:=AQ hk
  have hp:w4.cell? ⟨g,0,none⟩=some (.pointer (some ⟨b,0,none⟩)):=aA hg4 0 rfl
  obtain⟨c0,c1,c2⟩:=HI.o.keep hb4
  clear hW hS hN hBel hb4 hgo hg4 hk HW3
  go_wp2_with fail
  refine(HK.o).mono ?_
  rintro e w5 ⟨rfl,a5,X5,k5,H5,hW,hS,hN⟩
  have hBel:=HW4.o.1.old HNB.o.1
  have hb5:Below w0.heap.size w0 w5:=HW4.o.2.2.trans (hS.below HW4.o.2.2.size hBel)
  have hgo:Off b a4 g:=⟨by rintro rfl;have:=HW4.o.1.blk;rw[HW4.o.2.1] at this;simp at this,fun e=>own_ne HW4.o.1.own HW4.o.2.1 AP e.symm⟩
  have hg5:w5.heap[g]? =some (.cells #[.pointer (some ⟨b,0,none⟩)] 94 (0,0)):=(hS.block g (Array.getElem?_eq_some_iff.1 HW4.o.2.1).1 hgo).trans HW4.o.2.1
  have HW5:=AQ (And.intro hW (And.intro hg5 hb5))
  have HZ5:Hid (w1.heap.size≤w5.heap.size):=Nat.le_trans HZ4.o hS.size
  have hk:=GR hW (Nat.le_trans HB9.o HZ5.o) g hg5 hb5 HNB.o.1 HV.o.mW (by have:=HL.o.2.2;rw[H5.o,H4.o];simp only[List.length_append,List.length_nil,eF];have:=HL.o.1;have:=HL.o.2.1;omega)
  have HK:=AQ hk
  have hp:w5.cell? ⟨g,0,none⟩=some (.pointer (some ⟨b,0,none⟩)):=aA hg5 0 rfl
  obtain⟨c0,c1,c2⟩:=HI.o.keep hb5
  clear hW hS hN hBel hb5 hgo hg5 hk HW4
  go_wp2_with fail
  refine(HK.o).mono ?_
  rintro e w6 ⟨rfl,a6,X6,k6,H6,hW,hS,hN⟩
  have hBel:=HW5.o.1.old HNB.o.1
  have hb6:Below w0.heap.size w0 w6:=HW5.o.2.2.trans (hS.below HW5.o.2.2.size hBel)
  have hgo:Off b a5 g:=⟨by rintro rfl;have:=HW5.o.1.blk;rw[HW5.o.2.1] at this;simp at this,fun e=>own_ne HW5.o.1.own HW5.o.2.1 AP e.symm⟩
  have hg6:w6.heap[g]? =some (.cells #[.pointer (some ⟨b,0,none⟩)] 94 (0,0)):=(hS.block g (Array.getElem?_eq_some_iff.1 HW5.o.2.1).1 hgo).trans HW5.o.2.1
  have HW6:=AQ (And.intro hW (And.intro hg6 hb6))
  have HZ6:Hid (w1.heap.size≤w6.heap.size):=Nat.le_trans HZ5.o hS.size
  have HX:Hid (X6=PB):=by rw[Hid,e1.o,H6.o,H5.o,H4.o];simp[qE]
  have hp:w6.cell? ⟨g,0,none⟩=some (.pointer (some ⟨b,0,none⟩)):=aA hg6 0 rfl
  have HD:=AQ (ug hW)
  have HB6:=AQ hb6
  clear hW hS hN hBel hb6 hgo hg6 HW5 c0 c1 c2
  go_wp2_with fail
  refine(HD.o).mono ?_
  rintro e w7 ⟨a7,X7,c7,H7,rfl,hM,hb7⟩
  have HM:=AQ hM
  have HB7:=AQ (HB6.o.trans (hb7.mono HB6.o.size))
  have HX7:Hid (X7=PB):=by rw[Hid,H7.o,HX.o]
  clear hM hb7
  go_wp2_with fail
  go_ret2
  exact⟨a7,c7,by rw[←HX7.o,e2.o];rfl,by rw[←HX7.o];exact HM.o.low (Nat.le_trans HB0.o.size (Nat.le_trans HB1.o.size HZ6.o)),HB0.o.trans (HB7.o.mono HB0.o.size)⟩
open Go Go.RowKit Go.Cit
def St.int (s:St):I64×St:=(vW (s.read 8 rZ 0).1,(s.read 8 rZ 0).2)
def eY (s:St):nU×St:=(⟨s.int.1,s.int.2.int.1⟩,s.int.2.int.2)
def gK (s:St):Ch×St:=(⟨s.int.1,s.int.2.int.1,s.int.2.int.2.int.1,s.int.2.int.2.int.2.int.1,s.int.2.int.2.int.2.int.2.int.1⟩,s.int.2.int.2.int.2.int.2.int.2)
def jE (s:St):Pt×St:=(⟨s.int.1,⟨s.int.2.int.1,s.int.2.int.2.int.1⟩,(s.int.2.int.2.int.2.read 1 jT false).1,(s.int.2.int.2.int.2.read 1 jT false).2.bytes.1⟩,(s.int.2.int.2.int.2.read 1 jT false).2.bytes.2)
theorem Hy (n:Int): -9223372036854775808≤wrap64 n∧wrap64 n≤9223372036854775807:=by unfold wrap64;omega
theorem LX (s:St): -9223372036854775808≤(s.read 8 rZ 0).1∧(s.read 8 rZ 0).1≤9223372036854775807:=by
 unfold St.read
 split
 ·split
  ·exact Hy _
  ·exact⟨by show(-9223372036854775808:Int)≤0;decide,by show(0:Int)≤9223372036854775807;decide⟩
 ·exact⟨by show(-9223372036854775808:Int)≤0;decide,by show(0:Int)≤9223372036854775807;decide⟩
theorem Qh (s:St):s.int.1.1=(s.read 8 rZ 0).1:=jr (LX s)
theorem dX {base top w b s} (h:dS base top w b s):Calls Tryz.prog 57 #[.pointer (some ⟨b,0,none⟩)] w fun r w'=>r= .returned (.int .i64 s.int.1.1)∧dS base top w' b s.int.2∧Save (· ≠b) w w':=by
 obtain⟨a,c,h⟩:=h
 have:=G7 h
 rw[Qh]
 exact this
theorem CX {base top w b s} (h:dS base top w b s):Calls Tryz.prog 137 #[.pointer (some ⟨b,0,none⟩)] w fun r w'=>r= .returned (.bool (s.read 1 jT false).1)∧dS base top w' b (s.read 1 jT false).2∧Save (· ≠b) w w':=by
 obtain⟨a,c,h⟩:=h
 exact Fv h
theorem sN {base top w b s} (h:dS base top w b s):Calls Tryz.prog 60 #[.pointer (some ⟨b,0,none⟩)] w (Got base top w b s.bytes):=by
 obtain⟨a,c,h⟩:=h
 exact D6 h
theorem nZ {base top w b s} (h:dS base top w b s) (most:Int):Calls Tryz.prog 172 #[.pointer (some ⟨b,0,none⟩), .int .i64 most] w fun r w'=>r= .returned (.int .i64 (s.count most).1)∧dS base top w' b (s.count most).2∧Save (· ≠b) w w':=by
 obtain⟨a,c,h⟩:=h
 exact D9 h most
theorem xK {base top w b s} (h:dS base top w b s):Calls Tryz.prog 61 #[.pointer (some ⟨b,0,none⟩)] w fun r w'=>r= .returned (.int .i64 s.fin)∧w=w':=by
 obtain⟨a,c,h⟩:=h
 exact F7 h
theorem dS.lt {base top w b s} (h:dS base top w b s):b<w.heap.size:=by obtain⟨_,_,h⟩:=h;exact h.lt
theorem Qx:fF Tryz.prog 77 2:=⟨⟨_,Tryz.underlying77,rfl⟩,by kernel_rfl⟩
def dB (w:World) (g b:Nat):Prop:=w.heap[g]? =some (.cells #[.pointer (some ⟨b,0,none⟩)] 100 (0,0))
theorem dB.ne {base top w b s g} (h:dB w g b) (k:dS base top w b s):g≠b:=by
 rintro rfl
 obtain⟨_,_,k⟩:=k
 have:=k.blk
 rw[h] at this;simp at this
theorem dB.save {w w':World} {g b:Nat} (h:dB w g b) (hs:Save (· ≠b) w w') (hne:g≠b):dB w' g b:=(hs.block g (Array.getElem?_eq_some_iff.1 h).1 hne).trans h
theorem dB.cell {w:World} {g b:Nat} (h:dB w g b):w.cell? ⟨g,0,none⟩=some (.pointer (some ⟨b,0,none⟩)):=aA h 0 rfl
theorem fQ {b p:Nat} {w w3 w4:World} (h1:Save (· ≠b) w w3) (h2:Save (· ≠p) w3 w4) (hp:w.heap.size≤p):Save (· ≠b) w w4:=
 ⟨h2.os.trans h1.os,h2.tape.trans h1.tape,h2.output.trans h1.output,Nat.le_trans h1.size h2.size,fun k hk hs=>(h2.block k (Nat.lt_of_lt_of_le hk h1.size) AL).trans (h1.block k hk hs)⟩
theorem dS.newer {base top w w' b s p} (h:dS base top w b s) (hs:Save (· ≠p) w w') (hp:top≤p) (hb:b≠p):dS base top w' b s:=h.save hs hb fun g _ hg=>by omega
theorem dB.newer {w w':World} {g b p:Nat} (h:dB w g b) (hs:Save (· ≠p) w w') (hne:g≠p):dB w' g b:=(hs.block g (Array.getElem?_eq_some_iff.1 h).1 hne).trans h
theorem dB.lt {w:World} {g b:Nat} (h:dB w g b):g<w.heap.size:=(Array.getElem?_eq_some_iff.1 h).1
def iF {α:Type} (f:St→α×St):Nat→St→List α×St
 | 0,s=>([],s)
 | n+1,s=>((iF f n s).1++ [(f (iF f n s).2).1],(f (iF f n s).2).2)
def iV {α:Type} (f:St→α×St) (most:Int) (s:St):List α×St:=iF f (s.count most).1.toNat (s.count most).2
theorem rU {α:Type} (f:St→α×St):∀(n:Nat) (s:St),(iF f n s).1.length=n
 | 0,_=>rfl
 | n+1,s=>by rw[iF,List.length_append,rU f n s];rfl
theorem count_range (s:St) (most:Int) (h:0≤most):0≤(s.count most).1∧(s.count most).1≤most:=by
 unfold St.count
 split
 ·split
  ·exact⟨by omega,by omega⟩
  ·exact⟨Int.le_refl _,h⟩
 ·exact⟨Int.le_refl _,h⟩
theorem Ku {base top w b s} (h:dS base top w b s) (htop:top≤w.heap.size) (g:Nat) (hg:dB w g b):Calls Tryz.prog 134 (#[]++ #[.pointer (some ⟨g,0,none⟩)]) w fun e w'=>e= .returned (.agg #[.int .i64 (eY s).1.len.1, .int .i64 (eY s).1.part.1])∧dS base top w' b (eY s).2∧Save (· ≠b) w w':=by
 show Calls Tryz.prog 134 #[.pointer (some ⟨g,0,none⟩)] w _
 have hgb:=hg.ne h
 obtain⟨w1,hw1⟩:=AV (w.alloc (.cells #[.int .i64 0, .int .i64 0] 77))
 obtain⟨p,hp⟩:=AV (w.heap.size)
 have hb1:Below w.heap.size w w1:=by rw[hw1];exact(Below.refl _ w).alloc (Nat.le_refl _) _
 have hx:w1.heap[p]? =some (.cells #[.int .i64 0, .int .i64 0] 77 (0,0)):=by rw[hw1,hp];exact heap_alloc_new _ _
 have hblt:=h.lt
 have hpb:p≠b:=by omega
 have hpw:w.heap.size≤p:=by omega
 have hg1:dB w1 g b:=aG hg hb1
 have c0:=hg1.cell
 have HK:=AQ (dX (h.stay hb1))
 have HS:=AQ (And.intro hb1 (And.intro hx hg1))
 obtain⟨n,hn⟩:=AU s.int.1.1
 obtain⟨n2,hn2⟩:=AU s.int.2.int.1.1
 rw[←hn.o] at HK
 clear h hg hb1 hx hg1
 go_enter Tryz.func134,Tryz.ntmps134
 go_upto_region 1 with fail
 rw[←hw1,←hp]
 have HPP:=AQ hp
 clear hw1 hp
 go_wp2_with fail
 refine(HK.o).mono ?_
 rintro e w2 ⟨rfl,hR,hS⟩
 have hg2:dB w2 g b:=HS.o.2.2.save hS hgb
 have HK2:=AQ (dX hR)
 rw[←hn2.o] at HK2
 have hx2:=(hS.block p (Array.getElem?_eq_some_iff.1 HS.o.2.1).1 hpb).trans HS.o.2.1
 have HS2:=AQ (And.intro hS (And.intro hx2 hg2))
 have c0:=hg2.cell
 clear hR hS hg2 hx2 HK
 go_wp2_with fail
 refine(HK2.o).mono ?_
 rintro e w3 ⟨rfl,hR,hS⟩
 have hx3:=(hS.block p (Array.getElem?_eq_some_iff.1 HS2.o.2.1).1 hpb).trans HS2.o.2.1
 have HS3:=AQ (And.intro hR (And.intro ((Save.of HS.o.1).trans (HS2.o.1.trans hS)) hx3))
 clear hR hS hx3 HK2 c0
 go_wp2_with ((with_reducible refine ay (o:=⟨none, .store _ (.tmp 1) _,_,_,_,_⟩) Qx (.tmp 1) (.tmp 8) AA AA AA AA AA HS3.o.2.2 AA AA AA ?_);intro w4 hg4 hs4)
 refine bodyPost_ret (gV Qx rfl (by rfl) hg4 rfl) rfl ⟨by rw[hn.o,hn2.o];rfl,HS3.o.1.newer hs4 (Nat.le_trans htop hpw) AL,fQ HS3.o.2.1 hs4 hpw⟩
theorem Lu {base top w b s} (h:dS base top w b s) (htop:top≤w.heap.size) (g:Nat) (hg:dB w g b):Calls Tryz.prog 136 (#[]++ #[.pointer (some ⟨g,0,none⟩)]) w fun e w'=>∃x:cO,e= .returned (.agg (cA x))∧x.pt=(jE s).1∧Row w' x.a x.img x.c∧(x.img≠ []→∀g,blk x.a=some g→w.heap.size≤g)∧dS base top w' b (jE s).2∧Save (· ≠b) w w':=by
 show Calls Tryz.prog 136 #[.pointer (some ⟨g,0,none⟩)] w _
 have hgb:=hg.ne h
 have hglt:=hg.lt
 have hblt:=h.lt
 obtain⟨w1,hw1⟩:=AV (w.alloc (.cells #[.int .i64 0, .int .i64 0, .int .i64 0, .bool false, .slice none 0 0] 46))
 obtain⟨p,hp⟩:=AV (w.heap.size)
 have hb1:Below w.heap.size w w1:=by rw[hw1];exact(Below.refl _ w).alloc (Nat.le_refl _) _
 have hx:w1.heap[p]? =some (.cells #[.int .i64 0, .int .i64 0, .int .i64 0, .bool false, .slice none 0 0] 46 (0,0)):=by rw[hw1,hp];exact heap_alloc_new _ _
 have hpb:p≠b:=by omega
 have hpw:w.heap.size≤p:=by omega
 have hg1:dB w1 g b:=aG hg hb1
 have hR:=h.stay hb1
 have HS1:=AQ (And.intro (Save.of (S:=(· ≠b)) hb1) (And.intro hx hg1))
 clear h hg hb1 hx hg1
 go_enter Tryz.func136,Tryz.ntmps136
 go_upto_region 1 with fail
 rw[←hw1,←hp]
 have HPP:=AQ hp
 clear hw1 hp
 obtain⟨n0,hn0⟩:=AU ((s).int.1.1)
 obtain⟨n1,hn1⟩:=AU (((s).int.2).int.1.1)
 obtain⟨n2,hn2⟩:=AU ((((s).int.2).int.2).int.1.1)
 obtain⟨n3,hn3⟩:=AU ((((((s).int.2).int.2).int.2).read 1 jT false).1)
 have c0:=HS1.o.2.2.cell
 have HK:=AQ (dX hR)
 rw[←hn0.o] at HK
 clear hR
 go_wp2_with fail
 refine(HK.o).mono ?_
 rintro e v0 ⟨rfl,hR,hS⟩
 have hx:=(hS.block p (Array.getElem?_eq_some_iff.1 HS1.o.2.1).1 hpb).trans HS1.o.2.1
 have hgv:dB v0 g b:=HS1.o.2.2.save hS hgb
 have hSS:=HS1.o.1.trans hS
 obtain⟨p2,hp2⟩:=AV (v0.heap.size)
 obtain⟨x0,hx0⟩:=AV (v0.alloc (.cells #[.int .i64 n0, .int .i64 0, .int .i64 0, .bool false, .slice none 0 0] 46))
 have hb0:Below v0.heap.size v0 x0:=by rw[hx0];exact(Below.refl _ _).alloc (Nat.le_refl _) _
 have hq:x0.heap[p2]? =some (.cells #[.int .i64 n0, .int .i64 0, .int .i64 0, .bool false, .slice none 0 0] 46 (0,0)):=by rw[hx0,hp2];exact heap_alloc_new _ _
 have hp2w:w.heap.size≤p2:=by rw[hp2];exact hSS.size
 have hp2p:p2≠p:=by have:=(Array.getElem?_eq_some_iff.1 hx).1;omega
 have hR:=hR.stay hb0
 have HS2:=AQ (And.intro (hSS.trans (Save.of hb0)) (And.intro (aG hx hb0) (And.intro (show dB x0 g b from aG hgv hb0) hq)))
 clear hx hgv hSS hS hb0 hq HS1 HK c0
 go_upto_region 2 with fail
 rw[←hx0,←hp2]
 have HPQ:=AQ hp2
 clear hx0 hp2
 have c0:=HS2.o.2.2.1.cell
 have HK:=AQ (dX hR)
 rw[←hn1.o] at HK
 clear hR
 go_wp2_with fail
 refine(HK.o).mono ?_
 rintro e v1 ⟨rfl,hR,hS⟩
 have hx:=(hS.block p (Array.getElem?_eq_some_iff.1 HS2.o.2.1).1 hpb).trans HS2.o.2.1
 have hgv:dB v1 g b:=HS2.o.2.2.1.save hS hgb
 have hSS:=HS2.o.1.trans hS
 have hq:=(hS.block p2 (Array.getElem?_eq_some_iff.1 HS2.o.2.2.2).1 AL).trans HS2.o.2.2.2
 have d0:=aA hq 1 rfl
 have f0:=dM hq 1
 obtain⟨x1,hx1⟩:=AV (v1.setCell ⟨p2,1,none⟩ (.int .i64 n1))
 have hs:Save (· ≠p2) v1 x1:=by rw[hx1];exact Save.set
 have hq2:x1.heap[p2]? =some (.cells #[.int .i64 n0, .int .i64 n1, .int .i64 0, .bool false, .slice none 0 0] 46 (0,0)):=by rw[hx1];exact dP _ hq
 have hR:=hR.newer hs (Nat.le_trans htop hp2w) AL
 have HS3:=AQ (And.intro (fQ hSS hs hp2w) (And.intro ((hs.block p (Array.getElem?_eq_some_iff.1 hx).1 AL).trans hx) (And.intro (hgv.newer hs AL) hq2)))
 clear hx hgv hSS hS hs hq hq2 HS2 HK c0
 go_upto_region 3 with fail
 rw[←hx1]
 clear hx1 d0 f0
 have c0:=HS3.o.2.2.1.cell
 have HK:=AQ (dX hR)
 rw[←hn2.o] at HK
 clear hR
 go_wp2_with fail
 refine(HK.o).mono ?_
 rintro e v2 ⟨rfl,hR,hS⟩
 have hx:=(hS.block p (Array.getElem?_eq_some_iff.1 HS3.o.2.1).1 hpb).trans HS3.o.2.1
 have hgv:dB v2 g b:=HS3.o.2.2.1.save hS hgb
 have hSS:=HS3.o.1.trans hS
 have hq:=(hS.block p2 (Array.getElem?_eq_some_iff.1 HS3.o.2.2.2).1 AL).trans HS3.o.2.2.2
 have d0:=aA hq 2 rfl
 have f0:=dM hq 2
 obtain⟨x2,hx2⟩:=AV (v2.setCell ⟨p2,2,none⟩ (.int .i64 n2))
 have hs:Save (· ≠p2) v2 x2:=by rw[hx2];exact Save.set
 have hq2:x2.heap[p2]? =some (.cells #[.int .i64 n0, .int .i64 n1, .int .i64 n2, .bool false, .slice none 0 0] 46 (0,0)):=by rw[hx2];exact dP _ hq
 have hR:=hR.newer hs (Nat.le_trans htop hp2w) AL
 have HS4:=AQ (And.intro (fQ hSS hs hp2w) (And.intro ((hs.block p (Array.getElem?_eq_some_iff.1 hx).1 AL).trans hx) (And.intro (hgv.newer hs AL) hq2)))
 clear hx hgv hSS hS hs hq hq2 HS3 HK c0
 go_upto_region 4 with fail
 rw[←hx2]
 clear hx2 d0 f0
 have c0:=HS4.o.2.2.1.cell
 have HK:=AQ (CX hR)
 rw[←hn3.o] at HK
 clear hR
 go_wp2_with fail
 refine(HK.o).mono ?_
 rintro e v3 ⟨rfl,hR,hS⟩
 have hx:=(hS.block p (Array.getElem?_eq_some_iff.1 HS4.o.2.1).1 hpb).trans HS4.o.2.1
 have hgv:dB v3 g b:=HS4.o.2.2.1.save hS hgb
 have hSS:=HS4.o.1.trans hS
 have hq:=(hS.block p2 (Array.getElem?_eq_some_iff.1 HS4.o.2.2.2).1 AL).trans HS4.o.2.2.2
 have d0:=aA hq 3 rfl
 have f0:=dM hq 3
 obtain⟨x3,hx3⟩:=AV (v3.setCell ⟨p2,3,none⟩ (.bool n3))
 have hs:Save (· ≠p2) v3 x3:=by rw[hx3];exact Save.set
 have hq2:x3.heap[p2]? =some (.cells #[.int .i64 n0, .int .i64 n1, .int .i64 n2, .bool n3, .slice none 0 0] 46 (0,0)):=by rw[hx3];exact dP _ hq
 have hR:=hR.newer hs (Nat.le_trans htop hp2w) AL
 have HS5:=AQ (And.intro (fQ hSS hs hp2w) (And.intro ((hs.block p (Array.getElem?_eq_some_iff.1 hx).1 AL).trans hx) (And.intro (hgv.newer hs AL) hq2)))
 clear hx hgv hSS hS hs hq hq2 HS4 HK c0
 go_upto_region 5 with fail
 rw[←hx3]
 clear hx3 d0 f0
 have c0:=HS5.o.2.2.1.cell
 have HK:=AQ (sN hR)
 clear hR
 go_wp2_with fail
 refine(HK.o).mono ?_
 rintro e v4 ⟨aY,Y,cY,HY,rfl,hM,hR,hS⟩
 have hx:=(hS.block p (Array.getElem?_eq_some_iff.1 HS5.o.2.1).1 hpb).trans HS5.o.2.1
 have hgv:dB v4 g b:=HS5.o.2.2.1.save hS hgb
 have hSS:=HS5.o.1.trans hS
 have hq:=(hS.block p2 (Array.getElem?_eq_some_iff.1 HS5.o.2.2.2).1 AL).trans HS5.o.2.2.2
 have d0:=aA hq 4 rfl
 have f0:=dM hq 4
 obtain⟨x4,hx4⟩:=AV (v4.setCell ⟨p2,4,none⟩ (.slice aY Y.length cY))
 have hs:Save (· ≠p2) v4 x4:=by rw[hx4];exact Save.set
 have hq2:x4.heap[p2]? =some (.cells #[.int .i64 n0, .int .i64 n1, .int .i64 n2, .bool n3, .slice aY Y.length cY] 46 (0,0)):=by rw[hx4];exact dP _ hq
 have hR:=hR.newer hs (Nat.le_trans htop hp2w) AL
 have HS6:=AQ (And.intro (fQ hSS hs hp2w) (And.intro ((hs.block p (Array.getElem?_eq_some_iff.1 hx).1 AL).trans hx) (And.intro (hgv.newer hs AL) hq2)))
 have HM:Hid (Row x4 aY Y cY∧(Y≠ []→∀g,blk aY=some g→p2<g)):=by
  have hnew:∀g,blk aY=some g→p2<g:=fun g hg=>by have:=hM.new g hg;have:=(Array.getElem?_eq_some_iff.1 HS5.o.2.2.2).1;omega
  exact⟨hM.row.save hs (fun g hg=>by have:=hnew g hg;omega),fun _=>hnew⟩
 clear hM
 clear hx hgv hSS hS hs hq hq2 HS5 HK c0
 have HR:=AQ hR
 clear hR
 go_upto_region 6 with fail
 rw[←hx4]
 clear hx4 d0 f0
 have e0:=aA HS6.o.2.2.2 0 rfl
 have e1:=aA HS6.o.2.2.2 1 rfl
 have e2:=aA HS6.o.2.2.2 2 rfl
 have e3:=aA HS6.o.2.2.2 3 rfl
 have e4:=aA HS6.o.2.2.2 4 rfl
 go_wp2_with ((with_reducible refine ay (o:=⟨none, .store _ (.tmp 1) _,_,_,_,_⟩) rowP (.tmp 1) (.tmp 20) AA AA AA AA AA HS6.o.2.1 AA AA AA ?_);intro w9 hg9 hs9)
 refine bodyPost_ret (gV rowP rfl (by rfl) hg9 rfl) rfl ⟨⟨⟨n0, ?_⟩,⟨⟨n1, ?_⟩,⟨n2, ?_⟩⟩,n3,aY,Y,cY⟩,rfl, ?_,HM.o.1.save' hs9 (fun h g hg=>by have:=HM.o.2 h g hg;have:=HPQ.o;have:=HPP.o;omega),(fun h g hg=>Nat.le_trans hp2w (Nat.le_of_lt (HM.o.2 h g hg))),HR.o.newer hs9 (Nat.le_trans htop hpw) AL,fQ HS6.o.1 hs9 hpw⟩
 ·rw[hn0.o];exact s.int.1.2
 ·rw[hn1.o];exact s.int.2.int.1.2
 ·rw[hn2.o];exact s.int.2.int.2.int.1.2
 ·simp only[cO.pt,jE,Pt.mk.injEq,Reg.mk.injEq]
  exact⟨Subtype.ext hn0.o,⟨Subtype.ext hn1.o,Subtype.ext hn2.o⟩,hn3.o,HY.o⟩
theorem Le {base top w b s} (h:dS base top w b s) (htop:top≤w.heap.size) (g:Nat) (hg:dB w g b):Calls Tryz.prog 139 (#[]++ #[.pointer (some ⟨g,0,none⟩)]) w fun e w'=>e= .returned (.agg (RH (gK s).1))∧dS base top w' b (gK s).2∧Save (· ≠b) w w':=by
 show Calls Tryz.prog 139 #[.pointer (some ⟨g,0,none⟩)] w _
 have hgb:=hg.ne h
 have hglt:=hg.lt
 have hblt:=h.lt
 obtain⟨w1,hw1⟩:=AV (w.alloc (.cells #[.int .i64 0, .int .i64 0, .int .i64 0, .int .i64 0, .int .i64 0] 48))
 obtain⟨p,hp⟩:=AV (w.heap.size)
 have hb1:Below w.heap.size w w1:=by rw[hw1];exact(Below.refl _ w).alloc (Nat.le_refl _) _
 have hx:w1.heap[p]? =some (.cells #[.int .i64 0, .int .i64 0, .int .i64 0, .int .i64 0, .int .i64 0] 48 (0,0)):=by rw[hw1,hp];exact heap_alloc_new _ _
 have hpb:p≠b:=by omega
 have hpw:w.heap.size≤p:=by omega
 have hg1:dB w1 g b:=aG hg hb1
 have hR:=h.stay hb1
 have HS1:=AQ (And.intro (Save.of (S:=(· ≠b)) hb1) (And.intro hx hg1))
 clear h hg hb1 hx hg1
 go_enter Tryz.func139,Tryz.ntmps139
 go_upto_region 1 with fail
 rw[←hw1,←hp]
 have HPP:=AQ hp
 clear hw1 hp
 obtain⟨n0,hn0⟩:=AU ((s).int.1.1)
 obtain⟨n1,hn1⟩:=AU (((s).int.2).int.1.1)
 obtain⟨n2,hn2⟩:=AU ((((s).int.2).int.2).int.1.1)
 obtain⟨n3,hn3⟩:=AU (((((s).int.2).int.2).int.2).int.1.1)
 obtain⟨n4,hn4⟩:=AU ((((((s).int.2).int.2).int.2).int.2).int.1.1)
 have c0:=HS1.o.2.2.cell
 have HK:=AQ (dX hR)
 rw[←hn0.o] at HK
 clear hR
 go_wp2_with fail
 refine(HK.o).mono ?_
 rintro e v0 ⟨rfl,hR,hS⟩
 have hx:=(hS.block p (Array.getElem?_eq_some_iff.1 HS1.o.2.1).1 hpb).trans HS1.o.2.1
 have hgv:dB v0 g b:=HS1.o.2.2.save hS hgb
 have hSS:=HS1.o.1.trans hS
 obtain⟨p2,hp2⟩:=AV (v0.heap.size)
 obtain⟨x0,hx0⟩:=AV (v0.alloc (.cells #[.int .i64 n0, .int .i64 0, .int .i64 0, .int .i64 0, .int .i64 0] 48))
 have hb0:Below v0.heap.size v0 x0:=by rw[hx0];exact(Below.refl _ _).alloc (Nat.le_refl _) _
 have hq:x0.heap[p2]? =some (.cells #[.int .i64 n0, .int .i64 0, .int .i64 0, .int .i64 0, .int .i64 0] 48 (0,0)):=by rw[hx0,hp2];exact heap_alloc_new _ _
 have hp2w:w.heap.size≤p2:=by rw[hp2];exact hSS.size
 have hp2p:p2≠p:=by have:=(Array.getElem?_eq_some_iff.1 hx).1;omega
 have hR:=hR.stay hb0
 have HS2:=AQ (And.intro (hSS.trans (Save.of hb0)) (And.intro (aG hx hb0) (And.intro (show dB x0 g b from aG hgv hb0) hq)))
 clear hx hgv hSS hS hb0 hq HS1 HK c0
 go_upto_region 2 with fail
 rw[←hx0,←hp2]
 have HPQ:=AQ hp2
 clear hx0 hp2
 have c0:=HS2.o.2.2.1.cell
 have HK:=AQ (dX hR)
 rw[←hn1.o] at HK
 clear hR
 go_wp2_with fail
 refine(HK.o).mono ?_
 rintro e v1 ⟨rfl,hR,hS⟩
 have hx:=(hS.block p (Array.getElem?_eq_some_iff.1 HS2.o.2.1).1 hpb).trans HS2.o.2.1
 have hgv:dB v1 g b:=HS2.o.2.2.1.save hS hgb
 have hSS:=HS2.o.1.trans hS
 have hq:=(hS.block p2 (Array.getElem?_eq_some_iff.1 HS2.o.2.2.2).1 AL).trans HS2.o.2.2.2
 have d0:=aA hq 1 rfl
 have f0:=dM hq 1
 obtain⟨x1,hx1⟩:=AV (v1.setCell ⟨p2,1,none⟩ (.int .i64 n1))
 have hs:Save (· ≠p2) v1 x1:=by rw[hx1];exact Save.set
 have hq2:x1.heap[p2]? =some (.cells #[.int .i64 n0, .int .i64 n1, .int .i64 0, .int .i64 0, .int .i64 0] 48 (0,0)):=by rw[hx1];exact dP _ hq
 have hR:=hR.newer hs (Nat.le_trans htop hp2w) AL
 have HS3:=AQ (And.intro (fQ hSS hs hp2w) (And.intro ((hs.block p (Array.getElem?_eq_some_iff.1 hx).1 AL).trans hx) (And.intro (hgv.newer hs AL) hq2)))
 clear hx hgv hSS hS hs hq hq2 HS2 HK c0
 go_upto_region 3 with fail
 rw[←hx1]
 clear hx1 d0 f0
 have c0:=HS3.o.2.2.1.cell
 have HK:=AQ (dX hR)
 rw[←hn2.o] at HK
 clear hR
 go_wp2_with fail
 refine(HK.o).mono ?_
 rintro e v2 ⟨rfl,hR,hS⟩
 have hx:=(hS.block p (Array.getElem?_eq_some_iff.1 HS3.o.2.1).1 hpb).trans HS3.o.2.1
 have hgv:dB v2 g b:=HS3.o.2.2.1.save hS hgb
 have hSS:=HS3.o.1.trans hS
 have hq:=(hS.block p2 (Array.getElem?_eq_some_iff.1 HS3.o.2.2.2).1 AL).trans HS3.o.2.2.2
 have d0:=aA hq 2 rfl
 have f0:=dM hq 2
 obtain⟨x2,hx2⟩:=AV (v2.setCell ⟨p2,2,none⟩ (.int .i64 n2))
 have hs:Save (· ≠p2) v2 x2:=by rw[hx2];exact Save.set
 have hq2:x2.heap[p2]? =some (.cells #[.int .i64 n0, .int .i64 n1, .int .i64 n2, .int .i64 0, .int .i64 0] 48 (0,0)):=by rw[hx2];exact dP _ hq
 have hR:=hR.newer hs (Nat.le_trans htop hp2w) AL
 have HS4:=AQ (And.intro (fQ hSS hs hp2w) (And.intro ((hs.block p (Array.getElem?_eq_some_iff.1 hx).1 AL).trans hx) (And.intro (hgv.newer hs AL) hq2)))
 clear hx hgv hSS hS hs hq hq2 HS3 HK c0
 go_upto_region 4 with fail
 rw[←hx2]
 clear hx2 d0 f0
 have c0:=HS4.o.2.2.1.cell
 have HK:=AQ (dX hR)
 rw[←hn3.o] at HK
 clear hR
 go_wp2_with fail
 refine(HK.o).mono ?_
 rintro e v3 ⟨rfl,hR,hS⟩
 have hx:=(hS.block p (Array.getElem?_eq_some_iff.1 HS4.o.2.1).1 hpb).trans HS4.o.2.1
 have hgv:dB v3 g b:=HS4.o.2.2.1.save hS hgb
 have hSS:=HS4.o.1.trans hS
 have hq:=(hS.block p2 (Array.getElem?_eq_some_iff.1 HS4.o.2.2.2).1 AL).trans HS4.o.2.2.2
 have d0:=aA hq 3 rfl
 have f0:=dM hq 3
 obtain⟨x3,hx3⟩:=AV (v3.setCell ⟨p2,3,none⟩ (.int .i64 n3))
 have hs:Save (· ≠p2) v3 x3:=by rw[hx3];exact Save.set
 have hq2:x3.heap[p2]? =some (.cells #[.int .i64 n0, .int .i64 n1, .int .i64 n2, .int .i64 n3, .int .i64 0] 48 (0,0)):=by rw[hx3];exact dP _ hq
 have hR:=hR.newer hs (Nat.le_trans htop hp2w) AL
 have HS5:=AQ (And.intro (fQ hSS hs hp2w) (And.intro ((hs.block p (Array.getElem?_eq_some_iff.1 hx).1 AL).trans hx) (And.intro (hgv.newer hs AL) hq2)))
 clear hx hgv hSS hS hs hq hq2 HS4 HK c0
 go_upto_region 5 with fail
 rw[←hx3]
 clear hx3 d0 f0
 have c0:=HS5.o.2.2.1.cell
 have HK:=AQ (dX hR)
 rw[←hn4.o] at HK
 clear hR
 go_wp2_with fail
 refine(HK.o).mono ?_
 rintro e v4 ⟨rfl,hR,hS⟩
 have hx:=(hS.block p (Array.getElem?_eq_some_iff.1 HS5.o.2.1).1 hpb).trans HS5.o.2.1
 have hgv:dB v4 g b:=HS5.o.2.2.1.save hS hgb
 have hSS:=HS5.o.1.trans hS
 have hq:=(hS.block p2 (Array.getElem?_eq_some_iff.1 HS5.o.2.2.2).1 AL).trans HS5.o.2.2.2
 have d0:=aA hq 4 rfl
 have f0:=dM hq 4
 obtain⟨x4,hx4⟩:=AV (v4.setCell ⟨p2,4,none⟩ (.int .i64 n4))
 have hs:Save (· ≠p2) v4 x4:=by rw[hx4];exact Save.set
 have hq2:x4.heap[p2]? =some (.cells #[.int .i64 n0, .int .i64 n1, .int .i64 n2, .int .i64 n3, .int .i64 n4] 48 (0,0)):=by rw[hx4];exact dP _ hq
 have hR:=hR.newer hs (Nat.le_trans htop hp2w) AL
 have HS6:=AQ (And.intro (fQ hSS hs hp2w) (And.intro ((hs.block p (Array.getElem?_eq_some_iff.1 hx).1 AL).trans hx) (And.intro (hgv.newer hs AL) hq2)))
 clear hx hgv hSS hS hs hq hq2 HS5 HK c0
 have HR:=AQ hR
 clear hR
 go_upto_region 6 with fail
 rw[←hx4]
 clear hx4 d0 f0
 have e0:=aA HS6.o.2.2.2 0 rfl
 have e1:=aA HS6.o.2.2.2 1 rfl
 have e2:=aA HS6.o.2.2.2 2 rfl
 have e3:=aA HS6.o.2.2.2 3 rfl
 have e4:=aA HS6.o.2.2.2 4 rfl
 go_wp2_with ((with_reducible refine ay (o:=⟨none, .store _ (.tmp 1) _,_,_,_,_⟩) QD (.tmp 1) (.tmp 18) AA AA AA AA AA HS6.o.2.1 AA AA AA ?_);intro w9 hg9 hs9)
 refine bodyPost_ret (gV QD rfl (by rfl) hg9 rfl) rfl ⟨by rw[hn0.o,hn1.o,hn2.o,hn3.o,hn4.o];rfl,HR.o.newer hs9 (Nat.le_trans htop hpw) AL,fQ HS6.o.1 hs9 hpw⟩
end Go.Proofs.YtlholdllibghbaaGreat
