/- Texts of the proof, one behind the other: Valid, TyG, Vals, PhaseSt. No condition but those that each names. -/
import Derived.Test.YtlholdllibghbaaGreatG09
import Derived.Test.YtlholdllibghbaaGreatG06
import Derived.Test.YtlholdllibghbaaGreatG08
import Derived.Test.YtlholdllibghbaaGreatKit
set_option maxRecDepth 100000
set_option maxHeartbeats 8000000
namespace Go.Proofs.YtlholdllibghbaaGreat
open Go Go.RowKit Go.Cit
structure gU (W:World) (B:Nat) (V:aO):Prop where
 c0:W.cell? ⟨B,0,none⟩=some (.slice V.wa V.ws.length V.wc)
 c1:W.cell? ⟨B,1,none⟩=some (.slice V.pa V.ps.length V.pc)
 c2:W.cell? ⟨B,2,none⟩=some (.slice V.ca V.cs.length V.cc)
theorem gU.keep {W W':World} {B:Nat} {V:aO} (h:gU W B V) (hb:Below W.heap.size W W'):gU W' B V:=⟨Go.Cit.keep hb h.c0,Go.Cit.keep hb h.c1,Go.Cit.keep hb h.c2⟩
theorem gU.lt {W:World} {B:Nat} {V:aO} (h:gU W B V):B<W.heap.size:=World.block_lt_of_cell? W _ h.c0
theorem dK (w:World) (V:aO) (T:TypeId):gU (w.alloc (.cells #[.slice V.wa V.ws.length V.wc, .slice V.pa V.ps.length V.pc, .slice V.ca V.cs.length V.cc] T)) w.heap.size V:=⟨(PW w _ _ _ T).1,(PW w _ _ _ T).2.1,(PW w _ _ _ T).2.2⟩
def pF (V:aO) (x:qm):Bool:=decide (x.part.1≠0) && !jd V.ps x.part.1
theorem DW (W:World) (V:aO) (h:V.At W) (hs:cu V) (B:Nat) (hB:gU W B V) (x:qm):
 Calls Tryz.prog 248 (#[.agg #[.int .i64 x.len.1, .int .i64 x.part.1]]++ #[.pointer (some ⟨B,0,none⟩)]) W fun e w'=>e= .returned (.bool (pF V x))∧Below W.heap.size W w':=by
 show Calls Tryz.prog 248 #[.agg #[.int .i64 x.len.1, .int .i64 x.part.1], .pointer (some ⟨B,0,none⟩)] W _
 obtain⟨R,HR⟩:=AU (pF V x)
 obtain⟨m,hm⟩:=AU (jd V.ps x.part.1)
 rw[←HR.o]
 have hlt:=hB.lt
 have hne:B≠W.heap.size:=by omega
 have B0:∀C,Below W.heap.size W (W.alloc (.cells C 77)):=fun C=>(Below.refl _ W).alloc (Nat.le_refl _) _
 have HC:=AQ (wM _ V (h.stay (B0 #[.int .i64 x.len.1, .int .i64 x.part.1])) hs x.part.1)
 rw[←hm.o] at HC
 have hk:=hB.keep (B0 #[.int .i64 x.len.1, .int .i64 x.part.1])
 obtain⟨c0,c1,c2⟩:=hk
 have HB0:=AQ B0
 clear B0 hB h
 by_cases hp:x.part.1=0
 ·have HP:=AQ hp
  go_enter Tryz.func248,Tryz.ntmps248
  go_wp2_with fail
  go_ret
  exact⟨aJ (by rw[HR.o,pF,decide_eq_false (by simpa using HP.o)];rfl),by first |exact HB0.o _ |(rw[←HP.o];exact HB0.o _)⟩
 ·have HP:=AQ hp
  go_enter Tryz.func248,Tryz.ntmps248
  go_wp2_with fail
  refine(HC.o).mono ?_
  rintro e w2 ⟨rfl,hb2⟩
  have HB2:=AQ ((HB0.o _).trans (hb2.mono (HB0.o _).size))
  clear hb2
  go_wp2_with fail
  go_ret
  exact⟨aJ (by rw[HR.o,pF,←hm.o,show(x.part.1 !=0)=true from bne_iff_ne.2 HP.o,decide_eq_true HP.o]),HB2.o⟩
def gG (V:aO):Bool:= !DU V.ws || V.ws.any (pF V)
theorem BH (w:World) (V:aO) (h:V.At w) (hs:cu V):Calls Tryz.prog 225 #[.agg #[.slice V.wa V.ws.length V.wc, .slice V.pa V.ps.length V.pc, .slice V.ca V.cs.length V.cc]] w fun e w'=>e= .returned (.bool (gG V))∧Below w.heap.size w w':=by
 obtain⟨R,HR⟩:=AU (gG V)
 obtain⟨m,hm⟩:=AU (DU V.ws)
 obtain⟨n,hn⟩:=AU (V.ws.any (pF V))
 rw[←HR.o]
 have B0:Below w.heap.size w (w.alloc (.cells #[.slice V.wa V.ws.length V.wc, .slice V.pa V.ps.length V.pc, .slice V.ca V.cs.length V.cc] 26)):=(Below.refl _ w).alloc (Nat.le_refl _) _
 have hI:=dK w V 26
 have hV:=h.stay B0
 have HC:=AQ (JH _ V.wa V.ws V.wc hV.win)
 rw[←hm.o] at HC
 have HI:=AQ (And.intro hI (And.intro hV B0))
 obtain⟨c0,c1,c2⟩:=hI
 clear h hV B0
 have HF:Hid (R=(!m || n)):=by rw[Hid,HR.o,hm.o,hn.o];rfl
 cases m with
 |
  false=>
  go_enter Tryz.func225,Tryz.ntmps225
  go_wp2_with fail
  refine(HC.o).mono ?_
  rintro e w2 ⟨rfl,hb2⟩
  have HB2:=AQ (HI.o.2.2.trans (hb2.mono HI.o.2.2.size))
  clear hb2
  go_wp2_with fail
  go_ret
  exact⟨aJ (by rw[HF.o];rfl),HB2.o⟩
 |
  true=>
  go_enter Tryz.func225,Tryz.ntmps225
  go_wp2_with fail
  refine(HC.o).mono ?_
  rintro e w2 ⟨rfl,hb2⟩
  have hI2:=HI.o.1.keep hb2
  have hV2:=HI.o.2.1.stay hb2
  have HD:=AQ (EY (p:=pF V) 248 #[.pointer (some ⟨w.heap.size,0,none⟩)] (enters_of Tryz.func248 AB rfl) w2 V.wa V.ws V.wc hV2.win
   (fun W i hi hb=>(DW W V (hV2.stay hb) hs w.heap.size (hI2.keep hb) V.ws[i]).mono fun e w' ⟨he,hb'⟩=>⟨he,hb.trans (hb'.mono hb.size)⟩))
  rw[←hn.o] at HD
  have HB2:=AQ (HI.o.2.2.trans (hb2.mono HI.o.2.2.size))
  obtain⟨c0,c1,c2⟩:=hI2
  clear hb2 hV2
  go_wp2_with fail
  refine(HD.o).mono ?_
  rintro e w3 ⟨rfl,hb3⟩
  have HB3:=AQ (HB2.o.trans (hb3.mono HB2.o.size))
  clear hb3
  go_wp2_with fail
  go_ret
  exact⟨aJ (by rw[HF.o];simp),HB3.o⟩
def wV (x:dL):Bool:= !kE x.reg || decide (x.reg.size.1<x.img.length)
theorem EG (W:World) (x:dL):Calls Tryz.prog 250 (#[.agg #[.int .i64 x.id.1, .int .i64 x.reg.base.1, .int .i64 x.reg.size.1, .bool x.keep, .slice x.a x.img.length x.c]]++ #[]) W fun e w'=>e= .returned (.bool (wV x))∧Below W.heap.size W w':=by
 show Calls Tryz.prog 250 #[.agg #[.int .i64 x.id.1, .int .i64 x.reg.base.1, .int .i64 x.reg.size.1, .bool x.keep, .slice x.a x.img.length x.c]] W _
 obtain⟨R,HR⟩:=AU (wV x)
 obtain⟨m,hm⟩:=AU (kE x.reg)
 rw[←HR.o]
 have B0:Below W.heap.size W (W.alloc (.cells #[.int .i64 x.id.1, .int .i64 x.reg.base.1, .int .i64 x.reg.size.1, .bool x.keep, .slice x.a x.img.length x.c] 46)):=(Below.refl _ W).alloc (Nat.le_refl _) _
 have HC:=AQ (kT (W.alloc (.cells #[.int .i64 x.id.1, .int .i64 x.reg.base.1, .int .i64 x.reg.size.1, .bool x.keep, .slice x.a x.img.length x.c] 46)) x.reg)
 rw[←hm.o] at HC
 have HN:Hid ((W.alloc (.cells #[.int .i64 x.id.1, .int .i64 x.reg.base.1, .int .i64 x.reg.size.1, .bool x.keep, .slice x.a x.img.length x.c] 46)).heap[W.heap.size]? =some (.cells #[.int .i64 x.id.1, .int .i64 x.reg.base.1, .int .i64 x.reg.size.1, .bool x.keep, .slice x.a x.img.length x.c] 46 (0,0))):=heap_alloc_new _ _
 have HB0:=AQ B0
 clear B0
 have HF:Hid (R=(!m || decide (x.reg.size.1<x.img.length))):=by rw[Hid,HR.o,hm.o];rfl
 cases m with
 |
  false=>
  go_enter Tryz.func250,Tryz.ntmps250
  go_wp2_with fail
  refine(HC.o).mono ?_
  rintro e w2 ⟨rfl,hb2⟩
  have HB2:=AQ (HB0.o.trans (hb2.mono HB0.o.size))
  clear hb2
  go_wp2_with fail
  go_ret
  exact⟨aJ (by rw[HF.o];rfl),HB2.o⟩
 |
  true=>
  go_enter Tryz.func250,Tryz.ntmps250
  go_wp2_with fail
  refine(HC.o).mono ?_
  rintro e w2 ⟨rfl,hb2⟩
  have e2:=(hb2.block W.heap.size AO).trans HN.o
  have k2:=au e2 2 rfl
  have k4:=au e2 4 rfl
  have HB2:=AQ (HB0.o.trans (hb2.mono HB0.o.size))
  clear hb2 e2
  go_wp2_with fail
  all_goals
   go_ret
   refine⟨aJ ?_,HB2.o⟩
   rw[HF.o]
   simp
def fB (ps:List dL):Bool:=ps.any wV
theorem BR (w:World) (V:aO) (h:V.At w):Calls Tryz.prog 227 #[.agg #[.slice V.wa V.ws.length V.wc, .slice V.pa V.ps.length V.pc, .slice V.ca V.cs.length V.cc]] w fun e w'=>e= .returned (.bool (fB V.ps))∧Below w.heap.size w w':=by
 have B0:Below w.heap.size w (w.alloc (.cells #[.slice V.wa V.ws.length V.wc, .slice V.pa V.ps.length V.pc, .slice V.ca V.cs.length V.cc] 26)):=(Below.refl _ w).alloc (Nat.le_refl _) _
 obtain⟨c0,c1,c2⟩:=dK w V 26
 have HD:=AQ (vI (p:=wV) 250 #[] (enters_of Tryz.func250 AB rfl) _ V.pa V.ps V.pc (h.stay B0).pts
  (fun W i hi hb=>(EG W V.ps[i]).mono fun e w' ⟨he,hb'⟩=>⟨he,hb.trans (hb'.mono hb.size)⟩))
 obtain⟨n,hn⟩:=AU (fB V.ps)
 rw[show V.ps.any wV=n from hn.o.symm] at HD
 rw[←hn.o]
 have HB0:=AQ B0
 clear B0 h
 go_enter Tryz.func227,Tryz.ntmps227
 go_wp2_with fail
 refine(HD.o).mono ?_
 rintro e w3 ⟨rfl,hb3⟩
 have HB3:=AQ (HB0.o.trans (hb3.mono HB0.o.size))
 clear hb3
 go_wp2_with fail
 go_ret
 exact⟨rfl,HB3.o⟩
def wE (V:aO) (x:Ch):Bool:= !jd V.ps x.src.1 || !jd V.ps x.dst.1
theorem FM (W:World) (V:aO) (h:V.At W) (hs:cu V) (B:Nat) (hB:gU W B V) (x:Ch):
 Calls Tryz.prog 254 (#[.agg #[.int .i64 x.id.1, .int .i64 x.src.1, .int .i64 x.dst.1, .int .i64 x.cap.1, .int .i64 x.size.1]]++ #[.pointer (some ⟨B,0,none⟩)]) W fun e w'=>e= .returned (.bool (wE V x))∧Below W.heap.size W w':=by
 show Calls Tryz.prog 254 #[.agg #[.int .i64 x.id.1, .int .i64 x.src.1, .int .i64 x.dst.1, .int .i64 x.cap.1, .int .i64 x.size.1], .pointer (some ⟨B,0,none⟩)] W _
 obtain⟨R,HR⟩:=AU (wE V x)
 obtain⟨m,hm⟩:=AU (jd V.ps x.src.1)
 obtain⟨n,hn⟩:=AU (jd V.ps x.dst.1)
 rw[←HR.o]
 have hlt:=hB.lt
 have hne:B≠W.heap.size:=by omega
 have B0:Below W.heap.size W (W.alloc (.cells #[.int .i64 x.id.1, .int .i64 x.src.1, .int .i64 x.dst.1, .int .i64 x.cap.1, .int .i64 x.size.1] 48)):=(Below.refl _ W).alloc (Nat.le_refl _) _
 have HN:Hid ((W.alloc (.cells #[.int .i64 x.id.1, .int .i64 x.src.1, .int .i64 x.dst.1, .int .i64 x.cap.1, .int .i64 x.size.1] 48)).heap[W.heap.size]? =some (.cells #[.int .i64 x.id.1, .int .i64 x.src.1, .int .i64 x.dst.1, .int .i64 x.cap.1, .int .i64 x.size.1] 48 (0,0))):=heap_alloc_new _ _
 have hV:=h.stay B0
 have HC:=AQ (wM _ V hV hs x.src.1)
 rw[←hm.o] at HC
 have hk:=hB.keep B0
 have HI:=AQ (And.intro hk (And.intro hV B0))
 obtain⟨c0,c1,c2⟩:=hk
 clear B0 hB h hV
 have HF:Hid (R=(!m || !n)):=by rw[Hid,HR.o,hm.o,hn.o];rfl
 cases m with
 |
  false=>
  go_enter Tryz.func254,Tryz.ntmps254
  go_wp2_with fail
  refine(HC.o).mono ?_
  rintro e w2 ⟨rfl,hb2⟩
  have HB2:=AQ (HI.o.2.2.trans (hb2.mono HI.o.2.2.size))
  clear hb2
  go_wp2_with fail
  go_ret
  exact⟨aJ (by rw[HF.o];rfl),HB2.o⟩
 |
  true=>
  go_enter Tryz.func254,Tryz.ntmps254
  go_wp2_with fail
  refine(HC.o).mono ?_
  rintro e w2 ⟨rfl,hb2⟩
  have HB2:=AQ (HI.o.2.2.trans (hb2.mono HI.o.2.2.size))
  have HD:=AQ (wM w2 V (HI.o.2.1.stay hb2) hs x.dst.1)
  rw[←hn.o] at HD
  have e2:=(hb2.block W.heap.size AO).trans HN.o
  have k2:=au e2 2 rfl
  obtain⟨c0,c1,c2⟩:=HI.o.1.keep hb2
  clear hb2 e2
  go_wp2_with fail
  refine(HD.o).mono ?_
  rintro e w3 ⟨rfl,hb3⟩
  have HB3:=AQ (HB2.o.trans (hb3.mono HB2.o.size))
  clear hb3
  go_wp2_with fail
  go_ret
  exact⟨aJ (by rw[HF.o];rfl),HB3.o⟩
def fH (V:aO):Bool:=decide (8<V.cs.length) || (decide (uH V.cs≠0) || V.cs.any (wE V))
theorem Ag (w:World) (V:aO) (h:V.At w) (hs:cu V):Calls Tryz.prog 229 #[.agg #[.slice V.wa V.ws.length V.wc, .slice V.pa V.ps.length V.pc, .slice V.ca V.cs.length V.cc]] w fun e w'=>e= .returned (.bool (fH V))∧Below w.heap.size w w':=by
 obtain⟨R,HR⟩:=AU (fH V)
 obtain⟨m,hm⟩:=AU (uH V.cs)
 obtain⟨n,hn⟩:=AU (V.cs.any (wE V))
 rw[←HR.o]
 have B0:Below w.heap.size w (w.alloc (.cells #[.slice V.wa V.ws.length V.wc, .slice V.pa V.ps.length V.pc, .slice V.ca V.cs.length V.cc] 26)):=(Below.refl _ w).alloc (Nat.le_refl _) _
 have hI:=dK w V 26
 have hV:=h.stay B0
 have HC:=AQ (FY _ V.ca V.cs V.cc hV.kL)
 rw[←hm.o] at HC
 have HI:=AQ (And.intro hI (And.intro hV B0))
 have hlen:=hV.kL.bK
 obtain⟨c0,c1,c2⟩:=hI
 clear h hV B0
 have HF:Hid (R=(decide (8<V.cs.length) || (decide (m≠0) || n))):=by rw[Hid,HR.o,hm.o,hn.o];rfl
 by_cases h8:8<V.cs.length
 ·go_enter Tryz.func229,Tryz.ntmps229
  go_wp2_with fail
  go_ret
  exact⟨aJ (by rw[HF.o,decide_eq_true h8];rfl),HI.o.2.2⟩
 have H8:=AQ h8
 by_cases h0:m=0
 ·have H0:=AQ h0
  subst h0
  go_enter Tryz.func229,Tryz.ntmps229
  go_wp2_with fail
  refine(HC.o).mono ?_
  rintro e w2 ⟨rfl,hb2⟩
  have hI2:=HI.o.1.keep hb2
  have hV2:=HI.o.2.1.stay hb2
  have HD:=AQ (DZ (p:=wE V) 254 #[.pointer (some ⟨w.heap.size,0,none⟩)] (enters_of Tryz.func254 AB rfl) w2 V.ca V.cs V.cc hV2.kL
   (fun W i hi hb=>(FM W V (hV2.stay hb) hs w.heap.size (hI2.keep hb) V.cs[i]).mono fun e w' ⟨he,hb'⟩=>⟨he,hb.trans (hb'.mono hb.size)⟩))
  rw[←hn.o] at HD
  have HB2:=AQ (HI.o.2.2.trans (hb2.mono HI.o.2.2.size))
  obtain⟨c0,c1,c2⟩:=hI2
  clear hb2 hV2
  go_wp2_with fail
  refine(HD.o).mono ?_
  rintro e w3 ⟨rfl,hb3⟩
  have HB3:=AQ (HB2.o.trans (hb3.mono HB2.o.size))
  clear hb3
  go_wp2_with fail
  go_ret
  exact⟨aJ (by rw[HF.o,show decide ((8:Int)<(V.cs.length:Int))=decide (8<V.cs.length) from decide_eq_decide.2 AL];simp),HB3.o⟩
 ·have H0:=AQ h0
  go_enter Tryz.func229,Tryz.ntmps229
  go_wp2_with fail
  refine(HC.o).mono ?_
  rintro e w2 ⟨rfl,hb2⟩
  have HB2:=AQ (HI.o.2.2.trans (hb2.mono HI.o.2.2.size))
  clear hb2
  go_wp2_with fail
  go_ret
  exact⟨aJ (by rw[HF.o,decide_eq_false H8.o,decide_eq_true H0.o];rfl),HB2.o⟩
def qE:Int→List dL→Bool
 | _,[]=>true
 | last,x::r=>decide (last<x.id.1∧x.id.1≤6) && qE x.id.1 r
def gY (ps:List dL):Bool:=decide (ps.length<1∨6<ps.length) || !qE 0 ps
theorem KT (ps:List dL) (m:Int) (k:Nat) (h:k<ps.length):qE m (ps.drop k)=(decide (m<ps[k].id.1∧ps[k].id.1≤6) && qE ps[k].id.1 (ps.drop (k+1))):=by
 rw[List.drop_eq_getElem_cons h];rfl
theorem Ho (w:World) (V:aO) (h:V.At w):Calls Tryz.prog 226 #[.agg #[.slice V.wa V.ws.length V.wc, .slice V.pa V.ps.length V.pc, .slice V.ca V.cs.length V.cc]] w fun e w'=>e= .returned (.bool (gY V.ps))∧Below w.heap.size w w':=by
 obtain⟨R,HR⟩:=AU (gY V.ps)
 rw[←HR.o]
 obtain⟨w0,hw0⟩:=AV (w.alloc (.cells #[.slice V.wa V.ws.length V.wc, .slice V.pa V.ps.length V.pc, .slice V.ca V.cs.length V.cc] 26))
 have B0:Below w.heap.size w w0:=by rw[hw0];exact(Below.refl _ w).alloc (Nat.le_refl _) _
 have hI:gU w0 w.heap.size V:=by rw[hw0];exact dK w V _
 have hlen:=h.pts.bK
 have HV:=AQ (h.stay B0)
 have HI:=AQ (And.intro hI B0)
 obtain⟨c0,c1,c2⟩:=hI
 clear h B0
 by_cases h1:V.ps.length<1
 ·have HF:Hid (R=true):=by rw[Hid,HR.o,gY,decide_eq_true AL];rfl
  go_enter Tryz.func226,Tryz.ntmps226
  go_wp2_with fail
  rw[←hw0]
  clear hw0
  go_wp2_with fail
  go_ret
  exact⟨aJ HF.o.symm,HI.o.2⟩
 by_cases h2:6<V.ps.length
 ·have HF:Hid (R=true):=by rw[Hid,HR.o,gY,decide_eq_true AL];rfl
  go_enter Tryz.func226,Tryz.ntmps226
  go_wp2_with fail
  rw[←hw0]
  clear hw0
  go_wp2_with fail
  go_ret
  exact⟨aJ HF.o.symm,HI.o.2⟩
 have HR:Hid (R= !qE 0 V.ps):=by rw[Hid,HR.o,gY,decide_eq_false AL];rfl
 go_enter Tryz.func226,Tryz.ntmps226
 go_wp2_with fail
 rw[←hw0]
 clear hw0
 go_wp2_with fail
 go_loopw [3,19] (fun s i wr=>∃(k:Nat) (m:Int),Hid (qE 0 V.ps=qE m (V.ps.drop k))∧k≤V.ps.length∧s= .int .i64 m∧i= .int .i64 k∧Below w0.heap.size w0 wr) (fun _ i _=>V.ps.length-(intOf i).toNat)
 case atStart=>exact⟨0,0,rfl,by omega,rfl,rfl,Below.refl _ _⟩
 case round=>
  obtain⟨k,m,ha,hk,rfl,rfl,B⟩:=hrel
  by_cases hlt:k<V.ps.length
  ·have i0:=HV.o.pts.index Di k hlt
   obtain⟨u0,u1,u2,u3,u4⟩:=dh HV.o.pts B k hlt
   have HD:=AQ (KT V.ps m k hlt)
   obtain⟨x,hx⟩:∃x:dL,Hid (x=V.ps[k]):=⟨V.ps[k],rfl⟩
   rw[←hx.o] at u0 u1 u2 u3 u4 HD
   have HB:Hid (∀C,Below w0.heap.size w0 (wr.alloc (.cells C 46))):=fun C=>B.alloc B.size _
   clear B
   by_cases hq:m<x.id.1∧x.id.1≤6
   ·obtain⟨q1,q2⟩:=hq
    have HA:Hid (qE 0 V.ps=qE x.id.1 (V.ps.drop (k+1))):=by rw[Hid,ha.o,HD.o,decide_eq_true ⟨q1,q2⟩];rfl
    go_wp2_with fail
    go_roundw
    case rel=>exact⟨k+1,x.id.1,HA.o,by omega,rfl,by go_num,HB.o _⟩
    case measure=>simp[intOf];omega
   ·have HF:Hid (R=true):=by rw[Hid,HR.o,ha.o,HD.o,decide_eq_false hq];rfl
    have HQ:=AQ hq
    clear hq
    go_wp2_with fail
    all_goals first
     | (go_ret;exact⟨aJ HF.o.symm,HI.o.2.trans ((HB.o _).mono HI.o.2.size)⟩)
     | (exfalso;have:=HQ.o;omega)
  ·have hk2:k=V.ps.length:=by omega
   have HF:Hid (R=false):=by rw[Hid,HR.o,ha.o,hk2,List.drop_length];rfl
   clear hk2
   go_wp2_with fail
   go_ret
   exact⟨aJ HF.o.symm,HI.o.2.trans (B.mono HI.o.2.size)⟩
end Go.Proofs.YtlholdllibghbaaGreat
namespace Go.Cit
open Go Go.RowKit
section
variable {P:Program} {ops:Array Oper} {Q:Exit→Act→World→Prop}
structure pJ (ops:Array Oper) (T:Nat→Value→World→Prop) (a0:Act) (w0:World) (o:Oper) (a:Act) (w:World):Prop where
 below:Below w0.heap.size w0 w
 slot:∀d,iC ops o d=true→T d (a.eval (.tmp d)) w
 old:∀d,jc ops d=true→a.eval (.tmp d)=a0.eval (.tmp d)
 lit:∀v,a.eval (.const v)=v
 fn:∀f,a.eval (.func f)= .func (.func f) #[] #[]
theorem xI {o:Oper} {a:Act} (d:Nat) (b:Bool) (h:rD ops o d b=true) (hv:a.eval (.tmp d)= .bool !b):Region.wanted o (yielded ops a.tmps)=false:=by
 unfold Region.wanted
 unfold rD at h
 split at h
 ·exact absurd h AP
 ·rename_i j c hg
  rw[hg]
  simp only[Bool.and_eq_true,decide_eq_true_eq] at h
  obtain⟨rfl,h⟩:=h
  split at h
  ·rename_i p hp
   simp only[decide_eq_true_eq] at h
   have hd:d<a.tmps.size:=by
    rcases Nat.lt_or_ge d a.tmps.size with h' |h'
    ·exact h'
    ·simp[Act.eval,Array.getD,Nat.not_lt.2 h',undef] at hv
   have e:a.tmps[d]? =some (.bool !c):=by
    rw[Array.getElem?_eq_getElem hd,←hv]
    simp[Act.eval,Array.getD,hd]
   cases c<;>simp[yielded,hp,h,e]
  ·exact absurd h AP
theorem pJ.s {ops:Array Oper} {T:Nat→Value→World→Prop} {a0:Act} {w0:World} {o:Oper} {a:Act} {w:World} (h:pJ ops T a0 w0 o a w) (d:Nat) (e:iC ops o d=true:=by kernel_rfl):T d (a.eval (.tmp d)) w:=h.slot d e
theorem pJ.o {ops:Array Oper} {T:Nat→Value→World→Prop} {a0:Act} {w0:World} {o:Oper} {a:Act} {w:World} (h:pJ ops T a0 w0 o a w) (d:Nat) (e:jc ops d=true:=by kernel_rfl):a.eval (.tmp d)=a0.eval (.tmp d):=h.old d e
theorem pJ.yes {ops:Array Oper} {T:Nat→Value→World→Prop} {a0:Act} {w0:World} {o:Oper} {a:Act} {w:World} (h:pJ ops T a0 w0 o a w) (d:Nat) (b:Bool) (e1:rD ops o d b=true:=by kernel_rfl) (e2:iC ops o d=true:=by kernel_rfl) (e3:∀v,T d v w→v= .bool b:=by exact fun _ h=>h):Wanted ops o a:=CP d b e1 (e3 _ (h.slot d e2))
theorem pJ.no {A R:Prop} {ops:Array Oper} {T:Nat→Value→World→Prop} {a0:Act} {w0:World} {o:Oper} {a:Act} {w:World} (h:pJ ops T a0 w0 o a w) (d:Nat) (b:Bool) (e1:rD ops o d b=true:=by kernel_rfl) (e2:iC ops o d=true:=by kernel_rfl) (e3:∀v,T d v w→v= .bool !b:=by exact fun _ h=>h) (e4:R:=by rfl):A∨(Region.wanted o (yielded ops a.tmps)=false∧R):= .inr ⟨xI d b e1 (e3 _ (h.slot d e2)),e4⟩
end
end Go.Cit
namespace Go.Cit
open Go Go.RowKit
def setB (ops:Array Oper) (n d:Nat):Bool:=(List.range n).any fun j=>match ops[j]? with |some p=>decide (p.dst=some d) |none=>false
def Qo (ops:Array Oper) (n:Nat):Bool:=ops.all fun o=>match o.dst with |some d=>decide (d<n) |none=>true
def zf (a0:Act) (Y:Nat→Value):List Nat→Prop
 | []=>True
 | d::l=>a0.eval (.tmp d)=Y d∧zf a0 Y l
theorem zf.get {a0:Act} {Y:Nat→Value}:∀ {l:List Nat},zf a0 Y l→∀d,l.contains d=true→a0.eval (.tmp d)=Y d
 | [],_,d,h=>by simp at h
 |
  e::l,⟨h1,h2⟩,d,h=>by
  by_cases he:d=e
  ·rw[he];exact h1
  ·exact h2.get d (by simpa[he] using h)
structure rW (ops:Array Oper) (X:Nat→Value) (a0:Act) (n:Nat) (a:Act):Prop where
 defers:a.defers=a0.defers
 size:a.tmps.size=a0.tmps.size
 slot:∀d,setB ops n d=true→a.eval (.tmp d)=X d
 old:∀d,setB ops n d=false→a.eval (.tmp d)=a0.eval (.tmp d)
structure lU (ops:Array Oper) (X Y:Nat→Value) (olds:List Nat) (n:Nat) (a:Act):Prop where
 slot:∀d,setB ops n d=true→a.eval (.tmp d)=X d
 old:∀d,setB ops n d=false→olds.contains d=true→a.eval (.tmp d)=Y d
theorem lU.s {ops:Array Oper} {X Y:Nat→Value} {olds:List Nat} {n:Nat} {a:Act} (h:lU ops X Y olds n a) (d:Nat) (e:setB ops n d=true:=by kernel_rfl):a.eval (.tmp d)=X d:=h.slot d e
theorem lU.o {ops:Array Oper} {X Y:Nat→Value} {olds:List Nat} {n:Nat} {a:Act} (h:lU ops X Y olds n a) (d:Nat) (e:setB ops n d=false:=by kernel_rfl) (e':olds.contains d=true:=by kernel_rfl):a.eval (.tmp d)=Y d:=h.old d e e'
def Ih (X:Nat→Value) (o:Oper) (v:Value):Prop:=match o.dst with |some d=>v=X d |none=>True
def jY (P:Program) (w0:World) (post:Value→Prop) (ρ:Operand→Value) (o:Oper):Prop:=
 ∃v,post v∧∀q:After w0,Oper.quietUpon P (fun w'=>∃q:After w0,w'=q.to) q.to v ((execOp ρ o).run P q.to)
theorem Dc (ops:Array Oper) (n d:Nat):setB ops (n+1) d=(setB ops n d || match ops[n]? with |some p=>decide (p.dst=some d) |none=>false):=by
 unfold setB;rw[List.range_succ,List.any_append];simp
section
variable {P:Program} {w:World}
theorem rW.step {ops:Array Oper} {X:Nat→Value} {a0 a:Act} {n:Nat} {o:Oper} {v:Value} (h:rW ops X a0 n a) (ho:ops[n]? =some o) (hf:Qo ops a0.tmps.size=true) (hv:Ih X o v):rW ops X a0 (n+1) (a.put o.dst v):=by
 refine⟨by rw[put_defers];exact h.defers,by rw[iR];exact h.size,fun d hd=> ?_,fun d hd=> ?_⟩
 ·by_cases he:o.dst=some d
  ·have hlt:d<a.tmps.size:=by
    rw[h.size]
    unfold Qo at hf
    rw[Array.all_eq_true] at hf
    obtain⟨hn,rfl⟩:=Array.getElem?_eq_some_iff.1 ho
    have:=hf n hn
    rw[he] at this
    simpa using this
   rw[he]
   refine(dM a d v hlt).trans ?_
   unfold Ih at hv
   rw[he] at hv
   exact hv
  ·refine(bH a o.dst d v he).trans (h.slot d ?_)
   rw[Dc,ho] at hd
   simpa[he] using hd
 ·rw[Dc,ho] at hd
  simp only[Bool.or_eq_false_iff,decide_eq_false_iff_not] at hd
  exact(bH a o.dst d v hd.2).trans (h.old d hd.1)
theorem Ia {X:Nat→Value} {a0 a:Act} {l:List Oper} {n:Nat} {G:Prop} (hl:∀j,([]:List Oper)[j]? =l.toArray[n+j]?) (hk:rW l.toArray X a0 n a) (hend:fF l.toArray a0 a→(∀d,jc l.toArray d=false→a.eval (.tmp d)=X d)→G):G:=by
 have hn:l.length≤n:=by
  have:=hl 0
  simp only[List.getElem?_nil,Nat.add_zero] at this
  have:=Array.getElem?_eq_none_iff.1 this.symm
  simpa using this
 have hset:∀d,setB l.toArray n d= !jc l.toArray d:=by
  intro d
  rw[Bool.eq_iff_iff]
  unfold setB jc
  rw[List.any_eq_true,Bool.not_eq_true',Array.all_eq_false]
  constructor
  ·rintro⟨j,_,hj⟩
   split at hj
   ·rename_i p hp
    obtain⟨hlt,he⟩:=Array.getElem?_eq_some_iff.1 hp
    exact⟨j,hlt,by rw[he];simpa using hj⟩
   ·exact absurd hj AP
  ·rintro⟨j,hlt,hj⟩
   refine⟨j,List.mem_range.2 (by simp at hlt;omega), ?_⟩
   rw[Array.getElem?_eq_getElem hlt]
   simpa using hj
 refine hend ⟨hk.defers,hk.size,fun d hd=>hk.old d ?_⟩ fun d hd=>hk.slot d ?_
 ·rw[hset]
  simp only[Bool.not_eq_false']
  unfold jc
  rw[Array.all_eq_true]
  intro j hj
  simpa using hd j _ (Array.getElem?_eq_getElem hj)
 ·rw[hset,hd];rfl
theorem ni {id:Nat} {Q:Exit→Act→World→Prop} {a0:Act} {l:List Oper} (X Y:Nat→Value) (olds:List Nat) (hm:P.follows .mixedOrders=true) (hB:Region.lexB .any l.toArray=true) (hf:Qo l.toArray a0.tmps.size=true) (hY:zf a0 Y olds)
 (hop:dB (fun n o=>∀a,lU l.toArray X Y olds n a→(Wanted l.toArray o a∧jY P w (Ih X o) a.eval o)∨(Region.wanted o (yielded l.toArray a.tmps)=false∧Ih X o undef)) l 0)
 (hend:∀a (q:After w),fF l.toArray a0 a→(∀d,jc l.toArray d=false→a.eval (.tmp d)=X d)→Q .normal a q.to):(Code.region id l.toArray true).wp P Q a0 w:=by
 refine wp_region_quiet (C:=fun w'=>∃q:After w,w'=q.to) hm hB ⟨⟨_,(Below.refl _ w).drew⟩,rfl⟩ ?_
 have key:∀(l2:List Oper) (n:Nat) (a:Act),(∀j,l2[j]? =l.toArray[n+j]?)→rW l.toArray X a0 n a→dB (fun n o=>∀a,lU l.toArray X Y olds n a→(Wanted l.toArray o a∧jY P w (Ih X o) a.eval o)∨(Region.wanted o (yielded l.toArray a.tmps)=false∧Ih X o undef)) l2 n→
  wpQuiet P l.toArray (fun w'=>∃q:After w,w'=q.to) (fun a'=>∀w',(∃q:After w,w'=q.to)→Q .normal a' w') l2 a:=by
  intro l2
  induction l2 with
  |
   nil=>
   intro n a hl hk _
   refine wpQuiet_nil ?_
   rintro _ ⟨q,rfl⟩
   exact Ia hl hk (hend a q)
  |
   cons o l2 ih=>
   intro n a hl hk hall
   have ho:l.toArray[n]? =some o:=by simpa using (hl 0).symm
   have hl2:∀j,l2[j]? =l.toArray[n+1+j]? :=fun j=>by have:=hl (j+1);simpa[Nat.add_assoc,Nat.add_comm 1 j] using this
   obtain⟨h1,h2⟩:=hall
   refine wpQuiet_step fun K hK=> ?_
   rcases h1 a ⟨hk.slot,fun d hd ho=>(hk.old d hd).trans (hY.get d ho)⟩ with⟨hw,v,hv,hq⟩ |⟨hw,hv⟩
   ·rw[if_pos (show Region.wanted o (yielded l.toArray a.tmps)=true from hw)]
    refine⟨v, ?_,hK _ (ih (n+1) _ hl2 (hk.step ho hf hv) h2)⟩
    rintro _ ⟨q,rfl⟩
    exact hq q
   ·rw[if_neg (by rw[hw];decide)]
    exact hK _ (ih (n+1) _ hl2 (hk.step ho hf hv) h2)
 exact key l 0 a0 (fun j=>by simp) ⟨rfl,rfl,fun d hd=>by simp[setB] at hd,fun _ _=>rfl⟩ hop
theorem fQ {id:Nat} {Q:Exit→Act→World→Prop} {a0:Act} {l:List Oper} (X Y:Nat→Value) (olds:List Nat) (hf:Qo l.toArray a0.tmps.size=true) (hY:zf a0 Y olds)
 (hop:dB (fun n o=>∀a,lU l.toArray X Y olds n a→(Wanted l.toArray o a∧jY P w (Ih X o) a.eval o)∨(Region.wanted o (yielded l.toArray a.tmps)=false∧Ih X o undef)) l 0)
 (hend:∀a (q:After w),fF l.toArray a0 a→(∀d,jc l.toArray d=false→a.eval (.tmp d)=X d)→Q .normal a q.to):(Code.region id l.toArray false).wp P Q a0 w:=by
 refine wp_region_lit ?_
 have key:∀(l2:List Oper) (n:Nat) (a:Act) (q:After w),(∀j,l2[j]? =l.toArray[n+j]?)→rW l.toArray X a0 n a→dB (fun n o=>∀a,lU l.toArray X Y olds n a→(Wanted l.toArray o a∧jY P w (Ih X o) a.eval o)∨(Region.wanted o (yielded l.toArray a.tmps)=false∧Ih X o undef)) l2 n→
  wpList P l.toArray Q l2 a q.to:=by
  intro l2
  induction l2 with
  |
   nil=>
   intro n a q hl hk _
   refine wpList_nil ?_
   exact Ia hl hk (hend a q)
  |
   cons o l2 ih=>
   intro n a q hl hk hall
   have ho:l.toArray[n]? =some o:=by simpa using (hl 0).symm
   have hl2:∀j,l2[j]? =l.toArray[n+1+j]? :=fun j=>by have:=hl (j+1);simpa[Nat.add_assoc,Nat.add_comm 1 j] using this
   obtain⟨h1,h2⟩:=hall
   refine wpList_step fun K hK=> ?_
   rcases h1 a ⟨hk.slot,fun d hd ho=>(hk.old d hd).trans (hY.get d ho)⟩ with⟨hw,v,hv,hq⟩ |⟨hw,hv⟩
   ·rw[if_pos (show Region.wanted o (yielded l.toArray a.tmps)=true from hw)]
    have hq:=hq q
    have hgo:∀p:After w,K (a.put o.dst v) p.to:=fun p=>hK _ _ (ih (n+1) _ p hl2 (hk.step ho hf hv) h2)
    unfold Oper.wp
    generalize (execOp a.eval o).run P q.to=r at hq
    match r,hq with
    | .ok (.value u) w',⟨h1,h2⟩=>subst h1 h2;exact hgo q
    | .ok .skip w',⟨h1,h2⟩=>subst h1 h2;exact hgo q
    |
     .ok (.enter f args) w',⟨h1,h2⟩=>
     subst h1
     refine Calls.mono h2 ?_
     rintro e w'' ⟨rfl,p,rfl⟩
     exact hgo p
   ·rw[if_neg (by rw[hw];decide)]
    exact hK _ _ (ih (n+1) _ q hl2 (hk.step ho hf hv) h2)
 exact key l 0 a0 ⟨w,Below.refl _ _⟩ (fun j=>by simp) ⟨rfl,rfl,fun d hd=>by simp[setB] at hd,fun _ _=>rfl⟩ hop
end
theorem lU.yes {ops:Array Oper} {X Y:Nat→Value} {olds:List Nat} {n:Nat} {a:Act} (h:lU ops X Y olds n a) {o:Oper} (d:Nat) (b:Bool) (e1:rD ops o d b=true:=by kernel_rfl) (e2:setB ops n d=true:=by kernel_rfl) (e3:X d= .bool b:=by rfl):Wanted ops o a:=CP d b e1 ((h.slot d e2).trans e3)
theorem lU.no {A R:Prop} {ops:Array Oper} {X Y:Nat→Value} {olds:List Nat} {n:Nat} {a:Act} (h:lU ops X Y olds n a) {o:Oper} (d:Nat) (b:Bool) (e1:rD ops o d b=true:=by kernel_rfl) (e2:setB ops n d=true:=by kernel_rfl) (e3:X d= .bool !b:=by rfl) (e4:R:=by rfl):A∨(Region.wanted o (yielded ops a.tmps)=false∧R):= .inr ⟨xI d b e1 ((h.slot d e2).trans e3),e4⟩
section
variable {P:Program} {w:World} {o:Oper} {ρ:Operand→Value} {post:Value→Prop}
theorem yt {v:Value} (hr:∀q:After w,(execOp ρ o).run P q.to= .ok (.value v) q.to) (hp:post v):jY P w post ρ o:=
 ⟨v,hp,fun q=>by rw[hr q];exact⟨rfl,rfl⟩⟩
theorem bZ (x:Operand) (h:o.op= .move x) (hp:post (ρ x)):jY P w post ρ o:=yt (v:=ρ x) (fun q=>by unfold execOp;rw[h];rfl) hp
theorem nH (x:Operand) (h:o.op= .assign x) (hp:post (ρ x)):jY P w post ρ o:=yt (v:=ρ x) (fun q=>by unfold execOp;rw[h];rfl) hp
theorem eP {T:TypeId} {k:Nat} (x:Operand) (h:o.op= .fieldAddr T x k) {p v:Value} (hx:ρ x=p) (hr:∀w,(Instr.fieldAt T p k).run P w= .ok v w) (hp:post v):jY P w post ρ o:=
 yt (fun q=>by unfold execOp;rw[h];dsimp only;rw[hx,Sem.run_bind,hr];rfl) hp
theorem dG {T:TypeId} (x:Operand) (h:o.op= .load T x) {p v:Value} (hx:ρ x=p) (hr:∀q:After w,(Instr.loadAt T p).run P q.to= .ok v q.to) (hp:post v):jY P w post ρ o:=
 yt (fun q=>by unfold execOp;rw[h];dsimp only;rw[hx,Sem.run_bind,hr];rfl) hp
theorem jG {op:BinOp} {ty u:TypeId} {x y:Operand} (h:o.op= .binOp op ty x y u) {v1 v2 v:Value} (hx:ρ x=v1) (hy:ρ y=v2)
 (hr:∀w,(do eqGuard op ty x y v1 v2;binOp op ty v1 v2:Sem Value).run P w= .ok v w) (hp:post v):jY P w post ρ o:=by
 refine yt (v:=v) (fun q=> ?_) hp
 unfold execOp;rw[h];dsimp only;rw[hx,hy]
 have:=hr q.to
 generalize (do eqGuard op ty x y v1 v2;binOp op ty v1 v2:Sem Value)=s at this
 rw[Sem.run_bind,this];rfl
theorem FK {ty:TypeId} {x:Operand} (h:o.op= .unOp .not ty x) (b:Bool) (hx:ρ x= .bool b) (hp:post (.bool !b)):jY P w post ρ o:=
 yt (fun q=>by unfold execOp;rw[h];dsimp only;rw[hx];rfl) hp
theorem aT {c x y:Operand} (h:o.op= .pick c x y) (b:Bool) (hc:ρ c= .bool b) (hp:post (if b then ρ x else ρ y)):jY P w post ρ o:=
 yt (fun q=>by unfold execOp;rw[h];dsimp only;rw[hc];rfl) hp
theorem q_len {ty:TypeId} {x:Operand} (h:o.op= .call {callee:= .builtin .len,args:= #[x],argTypes:= #[ty]}) (hty:P.underlying ty=some (.slice (P.elem ty))) {a:Option Addr} {n c:Nat} (hx:ρ x= .slice a n c) (hp:post (.int .i64 n)):jY P w post ρ o:=
 yt (fun q=>by
  unfold execOp;rw[h];dsimp only;unfold resolve;dsimp only
  simp[hx,invoke,run_len_slice q.to ty o.type a n c hty,Result.andThen,go_sem,builtin]) hp
theorem iD {f:FuncId} {xs:Array Operand} {ts:Array TypeId} (h:o.op= .call {callee:= .value (.func f),args:=xs,argTypes:=ts}) (hf:ρ (.func f)= .func (.func f) #[] #[])
 (args:Array Value) (hcf:∀w,(callFunc f args).run P w= .ok (.enter f args) w) (ha:xs.map ρ=args) {v:Value} (hc:∀q:After w,Calls P f args q.to fun e w'=>e= .returned v∧Below q.to.heap.size q.to w') (hp:post v):jY P w post ρ o:=by
 refine⟨v,hp,fun q=> ?_⟩
 unfold execOp;rw[h];dsimp only;unfold resolve;dsimp only;rw[hf,ha]
 have e:args++ #[]=args:=by simp
 have e2:(invoke (.fn (.func f) #[]) args:Sem Next).run P q.to= .ok (.enter f args) q.to:=by
  unfold invoke;dsimp only;rw[e];exact hcf q.to
 simp only[Deferred.ofValue,Sem.run_bind,Sem.run_pure,Result.andThen,Array.empty_append,e2]
 exact⟨rfl,aZ (hc q)⟩
end
theorem fV (l:List Value) (ds:_) (k:Nat) (v:Value):Act.put ⟨l.toArray,ds⟩ (some k) v=⟨(l.set k v).toArray,ds⟩:=by
 simp[Act.put]
theorem bM {P:Program} {T:TypeId} {w:World} {p:Addr} {v:Value} (hT:∀w,(isAgg T).run P w= .ok false w) (h:w.cell? p=some v):(Instr.loadAt T (.pointer (some p))).run P w= .ok v w:=by
 unfold Instr.loadAt Instr.sureAddr loadVar
 simp[go_sem,hT,Result.andThen,h]
end Go.Cit
namespace Go.Cit
open Go Go.RowKit
section
variable {P:Program} {ops:Array Oper} {Q:Exit→Act→World→Prop}
theorem PI {C:(Nat→Bool)→Act→World→Prop} {G:Nat→World→World→Prop} {Γ:Nat→Value→World→Prop} {a0:Act}
 (hs:jg ops a0.tmps.size=true)
 (hΓ:∀δ i j v a w w',i≠j→Closed ops δ→δ j=true→δ i=false→C δ a w→G i w w'→Γ j v w→Γ j v w')
 (hop:∀δ i o a w,ops[i]? =some o→δ i=false→Closed ops δ→Closed ops (upd δ i)→C δ a w→fF ops a0 a→(∀e∈o.after,Region.binds .any e=true→∀p d,ops[e.on]? =some p→p.dst=some d→Γ e.on (a.tmps.getD d undef) w)→
  wpOp P ops Q i (fun a' w'=>∃v,a'=a.put o.dst v∧G i w w'∧C (upd δ i) a' w'∧Γ i v w') a w)
 (hend:∀δ a w,(∀i,i<ops.size→δ i=true)→C δ a w→fF ops a0 a→(∀i o d,ops[i]? =some o→o.dst=some d→Γ i (a.tmps.getD d undef) w)→Q .normal a w):
 ∀(fuel:Nat) (listed:Array Bool) (δ:Nat→Bool) (a:Act) (w:World),tN listed ops.size≤fuel→listed.size=ops.size→(∀i,δ i=listed.getD i false)→Closed ops δ→C δ a w→fF ops a0 a→
  (∀i o d,δ i=true→ops[i]? =some o→o.dst=some d→Γ i (a.tmps.getD d undef) w)→wpAny P .any ops Q fuel listed a w:=by
 have hready:∀(listed:Array Bool),listed.size=ops.size→Region.ready .any ops listed=[]→∀i,i<ops.size→listed.getD i false=true:=by
  intro listed hsz hr i
  induction i using Nat.strongRecOn with
  |
   ind i ih=>
   intro hi
   cases hl:listed.getD i true with
   |
    true=>
    have hi':i<listed.size:=by omega
    simpa[Array.getD,hi'] using hl
   |
    false=>
    exfalso
    have hm:i∈Region.ready .any ops listed:=by
     rw[mem_ready]
     refine⟨hl,ops[i],by simp[hi],fun e he hb=> ?_⟩
     have:=(bG hs (i:=i) (o:=ops[i]) (by simp[hi])).1 e he hb
     exact ih e.on this AL
    rw[hr] at hm
    simp at hm
 intro fuel
 induction fuel with
 |
  zero=>
  intro listed δ a w hf hsz hδ hcl hc hsame hg
  have hall:=nS (Nat.le_zero.1 hf)
  have hr:Region.ready .any ops listed=[]:=by
   apply List.eq_nil_iff_forall_not_mem.2
   intro i hi
   rw[mem_ready] at hi
   obtain⟨h0,o,ho,_⟩:=hi
   rw[hall i (Array.getElem?_eq_some_iff.1 ho).1] at h0
   simp at h0
  exact⟨hr,hend δ a w (fun i hi=>by rw[hδ];exact hready listed hsz hr i hi) hc hsame fun i o d ho hd=>hg i o d (by rw[hδ];exact hready listed hsz hr i (Array.getElem?_eq_some_iff.1 ho).1) ho hd⟩
 |
  succ fuel ih=>
  intro listed δ a w hf hsz hδ hcl hc hsame hg
  refine⟨fun hr=>hend δ a w (fun i hi=>by rw[hδ];exact hready listed hsz hr i hi) hc hsame fun i o d ho hd=>hg i o d (by rw[hδ];exact hready listed hsz hr i (Array.getElem?_eq_some_iff.1 ho).1) ho hd,fun i hi=> ?_⟩
  obtain⟨h0,o,ho,hdep⟩:=mem_ready.1 hi
  have hlt:i<ops.size:=(Array.getElem?_eq_some_iff.1 ho).1
  have hδi:δ i=false:=by
   rw[hδ]
   have hi':i<listed.size:=by omega
   simpa[Array.getD,hi'] using h0
  have hcl':Closed ops (upd δ i):=by
   intro j p hp hj e he hb
   by_cases hij:i=j
   ·subst hij
    obtain rfl:o=p:=by rw[ho] at hp;exact Option.some.inj hp
    unfold upd
    split
    ·rfl
    ·rw[hδ];exact hdep e he hb
   ·rw[aA _ hij] at hj
    have:=hcl j p hp hj e he hb
    unfold upd
    split
    ·rfl
    ·exact this
  have hgive:=hop δ i o a w ho hδi hcl hcl' hc hsame (fun e he hb p d hp hd=>hg e.on p d (by rw[hδ];exact hdep e he hb) hp hd)
  refine wpOp_mono (fun a' w' hk=> ?_) hgive
  obtain⟨v,rfl,hG,hc',hv⟩:=hk
  refine ih _ (upd δ i) _ _ ?_ (by simpa using hsz) ?_ hcl' hc' ?_ ?_
  ·have:=pI (n:=ops.size) hlt AL h0
   omega
  ·intro j
   by_cases hij:i=j
   ·subst hij
    rw[upd_same]
    have hi':i<listed.size:=by omega
    simp[hi']
   ·rw[aA _ hij,getD_set_ne false hij];exact hδ j
  ·refine⟨by rw[put_defers];exact hsame.1,by rw[iR];exact hsame.2.1,fun d hd=> ?_⟩
   rw[bH _ _ _ _ (hd i o ho)]
   exact hsame.2.2 d hd
  ·intro j p d hj hp hd
   by_cases hij:i=j
   ·subst hij
    obtain rfl:o=p:=by rw[ho] at hp;exact Option.some.inj hp
    rw[hd,dM _ _ _ (by rw[hsame.2.1];exact(bG hs ho).2.1 d hd)]
    exact hv
   ·rw[aA _ hij] at hj
    have hne:o.dst≠some d:=by
     rcases Nat.lt_or_gt_of_ne hij with h |h
     ·intro e;exact(bG hs hp).2.2 i o d ho h hd e
     ·intro e;exact(bG hs ho).2.2 j p d hp h e hd
    rw[bH _ _ _ _ hne]
    exact hΓ δ i j _ _ w w' hij hcl hj hδi hc hG (hg j p d hj hp hd)
structure oQ (ops:Array Oper) (C:(Nat→Bool)→Act→World→Prop) (T:Nat→Value→World→Prop) (a0:Act) (i:Nat) (o:Oper) (δ:Nat→Bool) (a:Act) (w:World):Prop where
 yet:δ i=false
 closed:Closed ops δ
 next:Closed ops (upd δ i)
 inv:C δ a w
 same:fF ops a0 a
 slot:∀d,iC ops o d=true→T d (a.eval (.tmp d)) w
 old:∀d,jc ops d=true→a.eval (.tmp d)=a0.eval (.tmp d)
 lit:∀v,a.eval (.const v)=v
 fn:∀f,a.eval (.func f)= .func (.func f) #[] #[]
theorem oQ.s {ops:Array Oper} {C:(Nat→Bool)→Act→World→Prop} {T:Nat→Value→World→Prop} {a0:Act} {i:Nat} {o:Oper} {δ:Nat→Bool} {a:Act} {w:World} (h:oQ ops C T a0 i o δ a w) (d:Nat) (e:iC ops o d=true:=by kernel_rfl):T d (a.eval (.tmp d)) w:=h.slot d e
theorem oQ.o {ops:Array Oper} {C:(Nat→Bool)→Act→World→Prop} {T:Nat→Value→World→Prop} {a0:Act} {i:Nat} {o:Oper} {δ:Nat→Bool} {a:Act} {w:World} (h:oQ ops C T a0 i o δ a w) (d:Nat) (e:jc ops d=true:=by kernel_rfl):a.eval (.tmp d)=a0.eval (.tmp d):=h.old d e
theorem Tq {a0:Act} {w:World} (C:(Nat→Bool)→Act→World→Prop) (G:Nat→World→World→Prop) (T:Nat→Value→World→Prop)
 (hs:jg ops a0.tmps.size=true)
 (h0:∀w',Below w.heap.size w w'→w'.heap=w.heap→C (fun _=>false) a0 w')
 (hΓ:∀δ i j o v a w w',ops[j]? =some o→i≠j→Closed ops δ→δ j=true→δ i=false→C δ a w→G i w w'→tyP T o v w→tyP T o v w')
 (hop:dB (fun n o=>∀δ a wx,oQ ops C T a0 n o δ a wx→Wanted ops o a∧bQ P (fun v w'=>G n wx w'∧C (upd δ n) (a.put o.dst v) w'∧tyP T o v w') ((execOp a.eval o).run P wx)) ops.toList 0)
 (hend:∀δ a wx,(∀i,i<ops.size→δ i=true)→C δ a wx→fF ops a0 a→(∀d,jc ops d=false→T d (a.eval (.tmp d)) wx)→Q .normal a wx):
 wpAny P .any ops Q ops.size (Array.replicate ops.size false) a0 {w with drawn:=w.drawn+1}:=by
 refine PI (C:=C) (G:=G) (Γ:=fun i v wx=>∀o,ops[i]? =some o→tyP T o v wx) hs ?_ ?_ ?_ _ _ (fun _=>false) _ _ ?_ AO ?_ ?_ (h0 _ ⟨rfl,rfl,rfl,Nat.le_refl _,fun _ _=>rfl⟩ rfl) ⟨rfl,rfl,fun _ _=>rfl⟩ ?_
 ·intro δ i j v a w w' hij hcl hj hi hc hG h o ho
  exact hΓ δ i j o v a w w' ho hij hcl hj hi hc hG (h o ho)
 ·intro δ i o a wx ho hi hcl hcl' hc hsame hdep
  have hk:oQ ops C T a0 i o δ a wx:=by
   refine⟨hi,hcl,hcl',hc,hsame,fun d hd=> ?_,fun d hd=> ?_,fun _=>rfl,fun _=>rfl⟩
   ·unfold iC at hd
    rw[Array.any_eq_true] at hd
    obtain⟨k,hk,he⟩:=hd
    rw[Bool.and_eq_true] at he
    obtain⟨hb,hp⟩:=he
    split at hp
    ·rename_i p hpp
     simp only[decide_eq_true_eq] at hp
     have:=hdep _ (Array.getElem_mem hk) hb p d hpp hp p hpp
     unfold tyP at this
     rw[hp] at this
     exact this
    ·exact absurd hp AP
   ·refine hsame.2.2 d fun j p hp hpd=> ?_
    unfold jc at hd
    rw[Array.all_eq_true] at hd
    obtain⟨hj,hjp⟩:=Array.getElem?_eq_some_iff.1 hp
    have:=hd j hj
    rw[hjp] at this
    simp[hpd] at this
  have h:=dB.get _ _ hop i o (by simpa using ho) δ a wx (by rw[Nat.zero_add];exact hk)
  unfold wpOp
  rw[ho]
  dsimp only
  rw[if_pos (show Region.wanted o (yielded ops a.tmps)=true from h.1)]
  refine Or.inl ?_
  unfold Oper.wp
  have h2:=h.2
  rw[Nat.zero_add] at h2
  generalize (execOp a.eval o).run P wx=r at h2
  have hgo:∀v w',(G i wx w'∧C (upd δ i) (a.put o.dst v) w'∧tyP T o v w')→∃v',a.put o.dst v=a.put o.dst v'∧G i wx w'∧C (upd δ i) (a.put o.dst v) w'∧∀o',some o=some o'→tyP T o' v' w':=by
   rintro v w' ⟨h1,h2,h3⟩
   refine⟨v,rfl,h1,h2,fun o' ho'=> ?_⟩
   obtain rfl:o=o':=Option.some.inj ho'
   exact h3
  match r,h2 with
  | .ok (.value v) w',h2=>exact hgo v w' h2
  | .ok .skip w',h2=>exact hgo undef w' h2
  |
   .ok (.enter f args) w',h2=>
   refine Calls.mono h2 ?_
   rintro e w'' ⟨v,rfl,hv⟩
   exact hgo v w'' hv
 ·intro δ a wx hall hc hsame hΓ
  refine hend δ a wx hall hc hsame fun d hd=> ?_
  unfold jc at hd
  rw[Array.all_eq_false] at hd
  obtain⟨j,hj,hp⟩:=hd
  have hpd:ops[j].dst=some d:=by simpa using hp
  have:=hΓ j ops[j] d (by simp[hj]) hpd ops[j] (by simp[hj])
  unfold tyP at this
  rw[hpd] at this
  exact this
 ·exact Nat.le_trans (List.length_filter_le _ _) AO
 ·intro i;simp[Array.getD]
 ·intro i o ho hi;exact absurd hi Bool.false_ne_true
 ·intro i o d hl;exact absurd hl Bool.false_ne_true
theorem mJ {id:Nat} {a0:Act} {w:World} (C:(Nat→Bool)→Act→World→Prop) (G:Nat→World→World→Prop) (T:Nat→Value→World→Prop)
 (hm:P.follows .mixedOrders=true) (hs:jg ops a0.tmps.size=true)
 (h0:∀w',Below w.heap.size w w'→w'.heap=w.heap→C (fun _=>false) a0 w')
 (hΓ:∀δ i j o v a w w',ops[j]? =some o→i≠j→Closed ops δ→δ j=true→δ i=false→C δ a w→G i w w'→tyP T o v w→tyP T o v w')
 (hop:dB (fun n o=>∀δ a wx,oQ ops C T a0 n o δ a wx→Wanted ops o a∧bQ P (fun v w'=>G n wx w'∧C (upd δ n) (a.put o.dst v) w'∧tyP T o v w') ((execOp a.eval o).run P wx)) ops.toList 0)
 (hend:∀δ a wx,(∀i,i<ops.size→δ i=true)→C δ a wx→fF ops a0 a→(∀d,jc ops d=false→T d (a.eval (.tmp d)) wx)→Q .normal a wx):
 (Code.region id ops true).wp P Q a0 w:=wp_region_any hm (Tq C G T hs h0 hΓ hop hend)
end
end Go.Cit
