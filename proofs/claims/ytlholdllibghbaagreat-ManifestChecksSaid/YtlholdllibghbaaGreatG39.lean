/- Texts of the proof, one behind the other: Kept, Surv, RefChk, RefAll0. No condition but those that each names. -/
import Derived.Test.YtlholdllibghbaaGreatG15
import Derived.Test.YtlholdllibghbaaGreatG13
import Derived.Test.YtlholdllibghbaaGreatG10
import Derived.Deep.CutBlock
import Derived.Deep.DeepCutAuto
import Derived.Test.YtlholdllibghbaaGreatG33
import Derived.Test.YtlholdllibghbaaGreatKit
set_option maxRecDepth 100000
set_option maxHeartbeats 8000000
namespace Go.Proofs.YtlholdllibghbaaGreat
open Go Go.RowKit Go.Cit
def Yf (p1 p2:Nat) (h1 h2 k1 k2:Bool):Nat→Value
 | 24=>(.bool h1)
 | 25=>(.bool h1)
 | 26=>(bif h1 then (.bool h2) else undef)
 | 27=>(.bool (h1 && h2))
 | 28=>(.bool (h1 && h2))
 | 29=>(bif (h1 && h2) then (.pointer (some ⟨p1,3,none⟩)) else undef)
 | 30=>(bif (h1 && h2) then (.bool k1) else undef)
 | 31=>(.bool ((h1 && h2) && k1))
 | 32=>(.bool ((h1 && h2) && k1))
 | 33=>(bif ((h1 && h2) && k1) then (.pointer (some ⟨p2,3,none⟩)) else undef)
 | 34=>(bif ((h1 && h2) && k1) then (.bool k2) else undef)
 | 35=>(.bool (((h1 && h2) && k1) && k2))
 | 6=>(.bool (((h1 && h2) && k1) && k2))
 | _=>undef
def WC (p1 p2:Nat) (h1 h2 _ _:Bool):Nat→Value
 | 8=>(.pointer (some ⟨p1,0,none⟩))
 | 9=>(.bool h1)
 | 10=>(.pointer (some ⟨p2,0,none⟩))
 | 11=>(.bool h2)
 | _=>undef
def XY (p1 p2:Nat) (s1 s2:Int) (b g:Bool):Nat→Value
 | 36=>(.bool b)
 | 37=>(.bool b)
 | 38=>(.bool b)
 | 39=>(bif b then (.pointer (some ⟨p1,1,none⟩)) else undef)
 | 40=>(bif b then (.pointer (some ⟨p1,2,none⟩)) else undef)
 | 41=>(bif b then (.int .i64 s1) else undef)
 | 42=>(bif b then (.pointer (some ⟨p2,1,none⟩)) else undef)
 | 43=>(bif b then (.pointer (some ⟨p2,2,none⟩)) else undef)
 | 44=>(bif b then (.int .i64 s2) else undef)
 | 45=>(bif b then (.bool g) else undef)
 | 46=>(.bool (b && g))
 | 6=>(.bool b)
 | 7=>(.bool (b && g))
 | _=>undef
def WR (p1 p2:Nat) (_ _:Int) (b _:Bool):Nat→Value
 | 6=>(.bool b)
 | 8=>(.pointer (some ⟨p1,0,none⟩))
 | 10=>(.pointer (some ⟨p2,0,none⟩))
 | _=>undef
def kM (ps qs:List dD) (id:Int):Bool:=((iH ps id && iH qs id) && (nD ps id).keep) && (nD qs id).keep
def tu (ps qs:List dD) (id:Int):Bool:=kM ps qs id && decide ((nD ps id).reg.size.1=(nD qs id).reg.size.1)
def xY (V W:aS):Bool:=fitsV V && fitsV W
theorem DR (w:World) (V W:aS):fP ((w.alloc (.cells #[.slice V.wa V.ws.length V.wc, .slice V.pa V.ps.length V.pc, .slice V.ca V.cs.length V.cc] 26)).alloc (.cells #[.slice W.wa W.ws.length W.wc, .slice W.pa W.ps.length W.pc, .slice W.ca W.cs.length W.cc] 26)) w.heap.size V∧fP ((w.alloc (.cells #[.slice V.wa V.ws.length V.wc, .slice V.pa V.ps.length V.pc, .slice V.ca V.cs.length V.cc] 26)).alloc (.cells #[.slice W.wa W.ws.length W.wc, .slice W.pa W.ps.length W.pc, .slice W.ca W.cs.length W.cc] 26)) (w.heap.size+1) W:=by
 refine⟨(dM w V _).keep ((Below.refl _ _).alloc (Nat.le_refl _) _), ?_⟩
 have:=dM (w.alloc (.cells #[.slice V.wa V.ws.length V.wc, .slice V.pa V.ps.length V.pc, .slice V.ca V.cs.length V.cc] 26)) W 26
 simpa using this
theorem KX (w:World) (V W:aS) (h:V.At w) (k:W.At w) (hs:bV V) (ks:bV W):Calls Tryz.prog 155 #[.agg #[.slice V.wa V.ws.length V.wc, .slice V.pa V.ps.length V.pc, .slice V.ca V.cs.length V.cc], .agg #[.slice W.wa W.ws.length W.wc, .slice W.pa W.ps.length W.pc, .slice W.ca W.cs.length W.cc]] w fun e w'=>e= .returned (.bool (xY V W))∧Below w.heap.size w w':=by
 obtain⟨w0,hw0⟩:=AV ((w.alloc (.cells #[.slice V.wa V.ws.length V.wc, .slice V.pa V.ps.length V.pc, .slice V.ca V.cs.length V.cc] 26)).alloc (.cells #[.slice W.wa W.ws.length W.wc, .slice W.pa W.ps.length W.pc, .slice W.ca W.cs.length W.cc] 26))
 have B0:Below w.heap.size w w0:=by rw[hw0];exact((Below.refl _ w).alloc (Nat.le_refl _) _).alloc AO _
 have hI:=DR w V W
 rw[←hw0] at hI
 have HI:=AQ hI
 have HK:=AQ (k.stay B0)
 have hf:=Dn w0 V (h.stay B0) hs
 obtain⟨f,hf0⟩:=AU (fitsV V)
 obtain⟨f2,hf2⟩:=AU (fitsV W)
 have HR:Hid (xY V W=(f && f2)):=by rw[Hid,hf0.o,hf2.o];rfl
 rw[←hf0.o] at hf
 have HF:=AQ hf
 have HB0:=AQ B0
 obtain⟨R,hR⟩:=AU (xY V W)
 rw[←hR.o] at HR ⊢
 clear h k B0 hI hf
 obtain⟨⟨c0,c1,c2⟩,⟨d0,d1,d2⟩⟩:=HI.o
 cases f with
 |
  false=>
  have HRF:Hid (R=false):=HR.o
  go_enter Tryz.func155,Tryz.ntmps155
  go_wp2_with fail
  rw[←hw0]
  clear hw0
  refine(HF.o).mono ?_
  rintro e w1 ⟨rfl,hb1⟩
  have HB1:=AQ (HB0.o.trans (hb1.mono HB0.o.size))
  clear hb1 c0 c1 c2 d0 d1 d2
  go_wp2_with fail
  go_ret
  exact⟨aJ HRF.o.symm,HB1.o⟩
 |
  true=>
  have HRF:Hid (R=f2):=HR.o
  go_enter Tryz.func155,Tryz.ntmps155
  go_wp2_with fail
  rw[←hw0]
  clear hw0
  refine(HF.o).mono ?_
  rintro e w1 ⟨rfl,hb1⟩
  have hf:=Dn w1 W (HK.o.stay hb1) ks
  rw[←hf2.o] at hf
  have HF2:=AQ hf
  have HB1:=AQ (HB0.o.trans (hb1.mono HB0.o.size))
  clear c0 c1 c2 d0 d1 d2
  obtain⟨d0,d1,d2⟩:=HI.o.2.keep hb1
  clear hb1 hf
  go_wp2_with fail
  refine(HF2.o).mono ?_
  rintro e w2 ⟨rfl,hb2⟩
  have HB2:=AQ (HB1.o.trans (hb2.mono HB1.o.size))
  clear hb2 d0 d1 d2
  go_wp2_with fail
  go_ret
  exact⟨aJ HRF.o.symm,HB2.o⟩
theorem LG (w:World) (V W:aS) (h:V.At w) (k:W.At w) (hs:bV V) (ks:bV W) (id:Int):Calls Tryz.prog 156 #[.agg #[.slice V.wa V.ws.length V.wc, .slice V.pa V.ps.length V.pc, .slice V.ca V.cs.length V.cc], .agg #[.slice W.wa W.ws.length W.wc, .slice W.pa W.ps.length W.pc, .slice W.ca W.cs.length W.cc], .int .i64 id] w fun e w'=>e= .returned (.tuple #[.bool (kM V.ps W.ps id), .bool (tu V.ps W.ps id)])∧Below w.heap.size w w':=by
 obtain⟨w0,hw0⟩:=AV ((w.alloc (.cells #[.slice V.wa V.ws.length V.wc, .slice V.pa V.ps.length V.pc, .slice V.ca V.cs.length V.cc] 26)).alloc (.cells #[.slice W.wa W.ws.length W.wc, .slice W.pa W.ps.length W.pc, .slice W.ca W.cs.length W.cc] 26))
 have B0:Below w.heap.size w w0:=by rw[hw0];exact((Below.refl _ w).alloc (Nat.le_refl _) _).alloc AO _
 have hI:=DR w V W
 rw[←hw0] at hI
 have HI:=AQ hI
 have HK:=AQ (k.stay B0)
 have HB0:=AQ B0
 have HP:=AQ (Dz w0 V (h.stay B0) hs id)
 obtain⟨h1,hh1⟩:=AU (iH V.ps id)
 obtain⟨h2,hh2⟩:=AU (iH W.ps id)
 rw[←hh1.o] at HP
 obtain⟨RB,hRB⟩:=AU (kM V.ps W.ps id)
 obtain⟨RC,hRC⟩:=AU (tu V.ps W.ps id)
 rw[←hRB.o,←hRC.o]
 clear h k B0 hI
 obtain⟨⟨c0,c1,c2⟩,⟨d0,d1,d2⟩⟩:=HI.o
 go_enter Tryz.func156,Tryz.ntmps156
 go_wp2_with fail
 rw[←hw0]
 clear hw0
 refine(HP.o).mono ?_
 rintro e w1 ⟨x,rfl,hx,hO,hb1⟩
 obtain⟨wa,hwa⟩:=AV (w1.alloc (.cells (cA x) 46))
 obtain⟨p1,hp1⟩:=AV (w1.heap.size)
 have hba:Below w1.heap.size w1 wa:=by rw[hwa];exact(Below.refl _ w1).alloc (Nat.le_refl _) _
 have hX:wa.heap[p1]? =some (.cells (cA x) 46 (0,0)):=by rw[hwa,hp1];exact heap_alloc_new _ _
 have hb01:=hb1.trans (hba.mono hb1.size)
 have HX:=AQ (And.intro hX hx)
 have hpg:=Dz wa W (HK.o.stay hb01) ks id
 rw[←hh2.o] at hpg
 have HP2:=AQ hpg
 have HB1:=AQ (HB0.o.trans (hb01.mono HB0.o.size))
 clear c0 c1 c2 d0 d1 d2
 have hI2:=HI.o.2.keep hb01
 rw[hwa] at hI2
 obtain⟨d0,d1,d2⟩:=hI2
 clear hx hO hb1 hba hX hb01 hpg HP
 go_wp2_with fail
 rw[←hwa,←hp1]
 clear hwa hp1 d0 d1 d2
 refine(HP2.o).mono ?_
 rintro e w2 ⟨y,rfl,hy,hO,hb2⟩
 obtain⟨wb,hwb⟩:=AV (w2.alloc (.cells (cA y) 46))
 obtain⟨p2,hp2⟩:=AV (w2.heap.size)
 have hbb:Below w2.heap.size w2 wb:=by rw[hwb];exact(Below.refl _ w2).alloc (Nat.le_refl _) _
 have hY:wb.heap[p2]? =some (.cells (cA y) 46 (0,0)):=by rw[hwb,hp2];exact heap_alloc_new _ _
 have hb12:=hb2.trans (hbb.mono hb2.size)
 have hX2:=aH HX.o.1 hb12
 have HXY:=AQ (And.intro hX2 hY)
 have HB2:=AQ (HB1.o.trans (hb12.mono HB1.o.size))
 obtain⟨k1,hk1⟩:=AU x.keep
 obtain⟨k2,hk2⟩:=AU y.keep
 obtain⟨s1,hs1⟩:=AU x.reg.size.1
 obtain⟨s2,hs2⟩:=AU y.reg.size.1
 obtain⟨b,hbb0⟩:=AU ((((h1 && h2) && k1) && k2))
 have hbb:=hbb0
 obtain⟨g,hgg⟩:∃g,Hid (((s1:Int)==s2)=g):=⟨_,rfl⟩
 obtain⟨c,hcc⟩:=AU ((b && g))
 have e1:(nD V.ps id).keep=k1∧(nD V.ps id).reg.size.1=s1:=by rw[←HX.o.2,hk1.o,hs1.o];exact⟨rfl,rfl⟩
 have e2:(nD W.ps id).keep=k2∧(nD W.ps id).reg.size.1=s2:=by rw[←hy,hk2.o,hs2.o];exact⟨rfl,rfl⟩
 have HRB:Hid (kM V.ps W.ps id=b):=by rw[Hid,hbb0.o,kM,e1.1,e2.1,hh1.o,hh2.o]
 have HRC:Hid (tu V.ps W.ps id=c):=by rw[Hid,hcc.o,tu,HRB.o,e1.2,e2.2,←hgg.o];congr 1
 have d1:∀q:After wb,q.to.cell? ⟨p1,3,none⟩=some (.bool k1):=fun q=>After.cell (by rw[World.cell?,hX2,hk1.o];rfl) q
 have d2:∀q:After wb,q.to.cell? ⟨p2,3,none⟩=some (.bool k2):=fun q=>After.cell (by rw[World.cell?,hY,hk2.o];rfl) q
 clear hy hO hb2 hX2 hY hb12 e1 e2
 go_upto_region 3 with fail
 rw[←hwb,←hp2]
 clear hwb hp2
 refine bJ (Yf p1 p2 h1 h2 k1 k2) (WC p1 p2 h1 h2 k1 k2) [8,9,10,11] AB ⟨rfl,rfl,rfl,rfl,trivial⟩ ?_ ?_
 ·repeat' (first |exact aQ |refine aB ?_ ?_)
  all_goals intro a hk
  ·
   exact .inl ⟨ah rfl,aO (.tmp 9) rfl (hk.o 9)⟩
  ·
   exact .inl ⟨ah rfl,aO (.tmp 24) rfl (hk.s 24)⟩
  ·
   cases h1<;>first |exact hk.no 25 true |skip
   exact .inl ⟨hk.yes 25 true,aO (.tmp 11) rfl (hk.o 11)⟩
  ·
   cases h1 with
   |
    true=>
    exact .inl ⟨ah rfl,aI rfl true (hk.s 25) (hk.s 26)⟩
   |
    false=>
    exact .inl ⟨ah rfl,aI rfl false (hk.s 25) rfl⟩
  ·
   exact .inl ⟨ah rfl,aO (.tmp 27) rfl (hk.s 27)⟩
  ·
   cases h1<;>cases h2<;>first |exact hk.no 28 true |skip
   exact .inl ⟨hk.yes 28 true,aX (.tmp 8) rfl (hk.o 8) (v:=(.pointer (some ⟨p1,3,none⟩))) (fun w=>AB) rfl⟩
  ·
   cases h1<;>cases h2<;>first |exact hk.no 28 true |skip
   exact .inl ⟨hk.yes 28 true,aV (.tmp 29) rfl (hk.s 29) (v:=(.bool k1)) (fun q=>aT (fun w=>AB) (d1 q)) rfl⟩
  ·
   cases h1 with
   |
    true=>
    cases h2 with
    |
     true=>
     exact .inl ⟨ah rfl,aI rfl true (hk.s 28) (hk.s 30)⟩
    |
     false=>
     exact .inl ⟨ah rfl,aI rfl false (hk.s 28) rfl⟩
   |
    false=>
    exact .inl ⟨ah rfl,aI rfl false (hk.s 28) rfl⟩
  ·
   exact .inl ⟨ah rfl,aO (.tmp 31) rfl (hk.s 31)⟩
  ·
   cases h1<;>cases h2<;>cases k1<;>first |exact hk.no 32 true |skip
   exact .inl ⟨hk.yes 32 true,aX (.tmp 10) rfl (hk.o 10) (v:=(.pointer (some ⟨p2,3,none⟩))) (fun w=>AB) rfl⟩
  ·
   cases h1<;>cases h2<;>cases k1<;>first |exact hk.no 32 true |skip
   exact .inl ⟨hk.yes 32 true,aV (.tmp 33) rfl (hk.s 33) (v:=(.bool k2)) (fun q=>aT (fun w=>AB) (d2 q)) rfl⟩
  ·
   cases h1 with
   |
    true=>
    cases h2 with
    |
     true=>
     cases k1 with
     |
      true=>
      exact .inl ⟨ah rfl,aI rfl true (hk.s 32) (hk.s 34)⟩
     |
      false=>
      exact .inl ⟨ah rfl,aI rfl false (hk.s 32) rfl⟩
    |
     false=>
     exact .inl ⟨ah rfl,aI rfl false (hk.s 32) rfl⟩
   |
    false=>
    exact .inl ⟨ah rfl,aI rfl false (hk.s 32) rfl⟩
  ·
   exact .inl ⟨ah rfl,gU (.tmp 35) rfl (hk.s 35)⟩
 intro a ⟨w4,hb4⟩ hsame hall
 have he:=bn hsame [24,25,26,27,28,29,30,31,32,33,34,35,6] AB
 simp only[List.foldl_cons,List.foldl_nil] at he
 rw[show a.eval (.tmp 6)=(.bool b) from(hall 6 AB).trans (congrArg Value.bool hbb.o.symm)] at he
 generalize a.eval (.tmp 24)=x24 at he
 generalize a.eval (.tmp 25)=x25 at he
 generalize a.eval (.tmp 26)=x26 at he
 generalize a.eval (.tmp 27)=x27 at he
 generalize a.eval (.tmp 28)=x28 at he
 generalize a.eval (.tmp 29)=x29 at he
 generalize a.eval (.tmp 30)=x30 at he
 generalize a.eval (.tmp 31)=x31 at he
 generalize a.eval (.tmp 32)=x32 at he
 generalize a.eval (.tmp 33)=x33 at he
 generalize a.eval (.tmp 34)=x34 at he
 generalize a.eval (.tmp 35)=x35 at he
 simp only[cu] at he
 dsimp only[List.set_cons_zero,List.set_cons_succ] at he
 subst he
 clear hsame hall
 have d3:∀q:After w4,q.to.cell? ⟨p1,2,none⟩=some (.int .i64 s1):=fun q=>After.cell (by rw[World.cell?,aH HXY.o.1 hb4,hs1.o];rfl) q
 have d4:∀q:After w4,q.to.cell? ⟨p2,2,none⟩=some (.int .i64 s2):=fun q=>After.cell (by rw[World.cell?,aH HXY.o.2 hb4,hs2.o];rfl) q
 go_wp2_with fail
 refine eu (XY p1 p2 s1 s2 b g) (WR p1 p2 s1 s2 b g) [6,8,10] AB AB AB ⟨rfl,rfl,rfl,trivial⟩ ?_ ?_
 ·repeat' (first |exact aQ |refine aB ?_ ?_)
  all_goals intro a hk
  ·
   exact .inl ⟨ah rfl,aO (.tmp 6) rfl (hk.o 6)⟩
  ·
   exact .inl ⟨ah rfl,aO (.tmp 6) rfl (hk.o 6)⟩
  ·
   exact .inl ⟨ah rfl,aO (.tmp 37) rfl (hk.s 37)⟩
  ·
   cases b<;>first |exact hk.no 38 true |skip
   exact .inl ⟨hk.yes 38 true,aX (.tmp 8) rfl (hk.o 8) (v:=(.pointer (some ⟨p1,1,none⟩))) (fun w=>AB) rfl⟩
  ·
   cases b<;>first |exact hk.no 38 true |skip
   exact .inl ⟨hk.yes 38 true,aX (.tmp 39) rfl (hk.s 39) (v:=(.pointer (some ⟨p1,2,none⟩))) (fun w=>AB) rfl⟩
  ·
   cases b<;>first |exact hk.no 38 true |skip
   exact .inl ⟨hk.yes 38 true,aV (.tmp 40) rfl (hk.s 40) (v:=(.int .i64 s1)) (fun q=>aT (fun w=>AB) (d3 q)) rfl⟩
  ·
   cases b<;>first |exact hk.no 38 true |skip
   exact .inl ⟨hk.yes 38 true,aX (.tmp 10) rfl (hk.o 10) (v:=(.pointer (some ⟨p2,1,none⟩))) (fun w=>AB) rfl⟩
  ·
   cases b<;>first |exact hk.no 38 true |skip
   exact .inl ⟨hk.yes 38 true,aX (.tmp 42) rfl (hk.s 42) (v:=(.pointer (some ⟨p2,2,none⟩))) (fun w=>AB) rfl⟩
  ·
   cases b<;>first |exact hk.no 38 true |skip
   exact .inl ⟨hk.yes 38 true,aV (.tmp 43) rfl (hk.s 43) (v:=(.int .i64 s2)) (fun q=>aT (fun w=>AB) (d4 q)) rfl⟩
  ·
   cases b<;>first |exact hk.no 38 true |skip
   exact .inl ⟨hk.yes 38 true,eP rfl (hk.s 41) (hk.s 44) (v:= .bool (((s1:Int)==s2))) (fun w=>AB) (congrArg Value.bool (hgg.o))⟩
  ·
   cases b with
   |
    true=>
    exact .inl ⟨ah rfl,aI rfl true (hk.s 38) (hk.s 45)⟩
   |
    false=>
    exact .inl ⟨ah rfl,aI rfl false (hk.s 38) rfl⟩
  ·
   exact .inl ⟨ah rfl,gU (.tmp 36) rfl (hk.s 36)⟩
  ·
   exact .inl ⟨ah rfl,gU (.tmp 46) rfl (hk.s 46)⟩
 intro a ⟨w5,hb5⟩ hsame hall
 have he:=bn hsame [36,37,38,39,40,41,42,43,44,45,46,6,7] AB
 simp only[List.foldl_cons,List.foldl_nil] at he
 rw[show a.eval (.tmp 6)=(.bool b) from hall 6 AB,show a.eval (.tmp 7)=(.bool c) from(hall 7 AB).trans (congrArg Value.bool hcc.o.symm)] at he
 generalize a.eval (.tmp 36)=x36 at he
 generalize a.eval (.tmp 37)=x37 at he
 generalize a.eval (.tmp 38)=x38 at he
 generalize a.eval (.tmp 39)=x39 at he
 generalize a.eval (.tmp 40)=x40 at he
 generalize a.eval (.tmp 41)=x41 at he
 generalize a.eval (.tmp 42)=x42 at he
 generalize a.eval (.tmp 43)=x43 at he
 generalize a.eval (.tmp 44)=x44 at he
 generalize a.eval (.tmp 45)=x45 at he
 generalize a.eval (.tmp 46)=x46 at he
 simp only[cu] at he
 dsimp only[List.set_cons_zero,List.set_cons_succ] at he
 subst he
 clear hsame hall
 go_wp2_with fail
 (try simp only[Exit.inBlock,Exit.then])
 refine bodyPost_ret (results_tmp2 rfl _ _ _) rfl ?_
 exact⟨congrArg Ending.returned (by rw[hRB.o,HRB.o,hRC.o,HRC.o];rfl),HB2.o.trans ((hb4.trans (hb5.mono hb4.size)).mono HB2.o.size)⟩
open Go Go.RowKit Go.Cit
def G6 (V W:aS) (x:dD):Bool:=kM V.ps W.ps x.id.1 && !tu V.ps W.ps x.id.1
def GR (V W:aS):Int:=if xY V W then (if W.ps.any (G6 V W) then 130 else 0) else 2
theorem GY (w:World) (V W:aS) (h:V.At w) (k:W.At w) (hs:bV V) (ks:bV W):Calls Tryz.prog 76 #[.agg #[.slice V.wa V.ws.length V.wc, .slice V.pa V.ps.length V.pc, .slice V.ca V.cs.length V.cc], .agg #[.slice W.wa W.ws.length W.wc, .slice W.pa W.ps.length W.pc, .slice W.ca W.cs.length W.cc]] w fun e w'=>e= .returned (.int .i64 (GR V W))∧Below w.heap.size w w':=by
 obtain⟨w0,hw0⟩:=AV ((w.alloc (.cells #[.slice V.wa V.ws.length V.wc, .slice V.pa V.ps.length V.pc, .slice V.ca V.cs.length V.cc] 26)).alloc (.cells #[.slice W.wa W.ws.length W.wc, .slice W.pa W.ps.length W.pc, .slice W.ca W.cs.length W.cc] 26))
 have B0:Below w.heap.size w w0:=by rw[hw0];exact((Below.refl _ w).alloc (Nat.le_refl _) _).alloc AO _
 have hI:=DR w V W
 rw[←hw0] at hI
 have HI:=AQ hI
 have HV:=AQ (h.stay B0)
 have HK:=AQ (k.stay B0)
 have HB0:=AQ B0
 have hlen:=k.pts.bU
 have hf:=KX w0 V W (h.stay B0) (k.stay B0) hs ks
 obtain⟨f2,hf2⟩:=AU (xY V W)
 rw[←hf2.o] at hf
 have HF:=AQ hf
 obtain⟨R,hR⟩:=AU (GR V W)
 have HR:Hid (R=if f2 then (if W.ps.any (G6 V W) then 130 else 0) else 2):=by rw[Hid,hR.o,hf2.o];rfl
 rw[←hR.o]
 clear h k B0 hI hf
 obtain⟨⟨c0,c1,c2⟩,⟨d0,d1,d2⟩⟩:=HI.o
 cases f2 with
 |
  false=>
  have HRF:Hid (R=2):=HR.o
  go_enter Tryz.func76,Tryz.ntmps76
  go_wp2_with fail
  rw[←hw0]
  clear hw0
  refine(HF.o).mono ?_
  rintro e w1 ⟨rfl,hb1⟩
  have HB1:=AQ (HB0.o.trans (hb1.mono HB0.o.size))
  clear hb1 c0 c1 c2 d0 d1 d2
  go_wp2_with fail
  go_ret
  exact⟨dB HRF.o.symm,HB1.o⟩
 |
  true=>
  have HRF:Hid (R=if W.ps.any (G6 V W) then 130 else 0):=HR.o
  go_enter Tryz.func76,Tryz.ntmps76
  go_wp2_with fail
  rw[←hw0]
  clear hw0
  refine(HF.o).mono ?_
  rintro e w1 ⟨rfl,hb1⟩
  have HB1:=AQ hb1
  clear c0 c1 c2 d0 d1 d2
  obtain⟨d0,d1,d2⟩:=HI.o.2.keep hb1
  clear hb1
  go_wp2_with fail
  go_loopw [16] (fun i wr=>∃(j:Nat),i= .int .i64 j∧j≤W.ps.length∧Hid ((W.ps.take j).any (G6 V W)=false)∧Below w0.heap.size w0 wr) (fun i _=>W.ps.length-(intOf i).toNat)
  case atStart=>exact⟨0,rfl,Nat.zero_le _,by rw[Hid];simp,HB1.o⟩
  case round=>
   obtain⟨j,rfl,hj,HJ,B⟩:=hrel
   have HBw:=AQ B
   by_cases hlt:j<W.ps.length
   ·have hkw:=HK.o.stay B
    have i0:=hkw.pts.index yH j hlt
    obtain⟨u0,u1,u2,u3,u4⟩:=bK hkw.pts (Below.refl _ _) j hlt
    have HS:=AQ (tq (G6 V W) W.ps j hlt)
    have HMEM:Hid (W.ps[j]∈W.ps):=List.getElem_mem hlt
    obtain⟨x,hx⟩:∃x,Hid (x=W.ps[j]):=⟨W.ps[j],rfl⟩
    rw[←hx.o] at u0 u1 u2 u3 u4 HS HMEM
    obtain⟨wb,hwb⟩:=AV (wr.alloc (.cells (cA x) 46))
    have hbb:Below wr.heap.size wr wb:=by rw[hwb];exact(Below.refl _ _).alloc (Nat.le_refl _) _
    have HBb:=AQ (B.trans (hbb.mono B.size))
    obtain⟨c0,c1,c2⟩:=HI.o.1.keep HBb.o
    obtain⟨d0,d1,d2⟩:=HI.o.2.keep HBb.o
    rw[hwb] at c0 c1 c2 d0 d1 d2
    obtain⟨b1,hb1⟩:=AU (kM V.ps W.ps x.id.1)
    obtain⟨b2,hb2⟩:=AU (tu V.ps W.ps x.id.1)
    have hkc:=LG wb V W (HV.o.stay HBb.o) (HK.o.stay HBb.o) hs ks x.id.1
    rw[←hb1.o,←hb2.o] at hkc
    have HKC:=AQ hkc
    have HO:Hid (G6 V W x=(b1 && !b2)):=by rw[Hid,hb1.o,hb2.o];rfl
    clear hkw hbb hkc B
    by_cases hq:(b1 && !b2)=true
    ·obtain⟨rfl,rfl⟩:b1=true∧b2=false:=by cases b1<;>cases b2<;>simp_all
     have HRT:Hid (R=130):=by
      rw[Hid,HRF.o,if_pos]
      rw[List.any_eq_true];exact⟨x,HMEM.o,HO.o⟩
     clear hq
     go_wp2_with fail
     rw[←hwb]
     clear hwb
     refine(HKC.o).mono ?_
     rintro e w5 ⟨rfl,hb5⟩
     have HB5:=AQ (HB0.o.trans ((HBb.o.trans (hb5.mono HBb.o.size)).mono HB0.o.size))
     clear hb5 c0 c1 c2 d0 d1 d2
     go_wp2_with fail
     go_ret
     exact⟨dB HRT.o.symm,HB5.o⟩
    ·have HJ2:Hid ((W.ps.take (j+1)).any (G6 V W)=false):=by rw[Hid,HS.o,HJ.o,HO.o];simpa using hq
     have hq2:b1=false∨b2=true:=by cases b1<;>cases b2<;>simp_all
     clear hq
     rcases hq2 with rfl |rfl
     ·go_wp2_with fail
      rw[←hwb]
      clear hwb
      refine(HKC.o).mono ?_
      rintro e w5 ⟨rfl,hb5⟩
      have HB5:=AQ (HBb.o.trans (hb5.mono HBb.o.size))
      clear hb5 c0 c1 c2 d0 d1 d2
      go_wp2_with fail
      go_roundw
      case rel=>exact⟨j+1,by go_num,by omega,HJ2.o,HB5.o⟩
      case measure=>simp[intOf];omega
     ·go_wp2_with fail
      rw[←hwb]
      clear hwb
      refine(HKC.o).mono ?_
      rintro e w5 ⟨rfl,hb5⟩
      have HB5:=AQ (HBb.o.trans (hb5.mono HBb.o.size))
      clear hb5 c0 c1 c2 d0 d1 d2
      cases b1
      ·go_wp2_with fail
       go_roundw
       case rel=>exact⟨j+1,by go_num,by omega,HJ2.o,HB5.o⟩
       case measure=>simp[intOf];omega
      ·go_wp2_with fail
       go_roundw
       case rel=>exact⟨j+1,by go_num,by omega,HJ2.o,HB5.o⟩
       case measure=>simp[intOf];omega
   ·have hk2:j=W.ps.length:=by omega
    have HRT:Hid (R=0):=by
     have:=HJ.o
     rw[hk2,List.take_length] at this
     rw[Hid,HRF.o,this];rfl
    have HB5:=AQ (HB0.o.trans (HBw.o.mono HB0.o.size))
    clear hk2 B
    go_wp2_with fail
    go_ret
    exact⟨dB HRT.o.symm,HB5.o⟩
open Go Go.RowKit Go.Cit
def IK:Prop:=∀(w:World) (V:aS),V.At w→bV V→Calls Tryz.prog 157 #[.agg #[.slice V.wa V.ws.length V.wc, .slice V.pa V.ps.length V.pc, .slice V.ca V.cs.length V.cc]] w fun e w'=>∃a c,e= .returned (.slice a (errs V).length c)∧Vec cZ 1 w' a (errs V) c∧Below w.heap.size w w'
theorem pJ (hAll:IK) (w:World) (V:aS) (h:V.At w) (hs:bV V):Calls Tryz.prog 77 #[.agg #[.slice V.wa V.ws.length V.wc, .slice V.pa V.ps.length V.pc, .slice V.ca V.cs.length V.cc]] w fun e w'=>e= .returned (.int .i64 (uf V))∧Below w.heap.size w w':=by
 have B0:Below w.heap.size w (w.alloc (.cells #[.slice V.wa V.ws.length V.wc, .slice V.pa V.ps.length V.pc, .slice V.ca V.cs.length V.cc] 26)):=(Below.refl _ w).alloc (Nat.le_refl _) _
 have HC:=AQ (hAll _ V (h.stay B0) hs)
 have HB0:=AQ B0
 obtain⟨L,hL⟩:=AU (errs V)
 have HR:Hid (uf V=L.head?.getD 0):=by rw[Hid,hL.o];rfl
 have HLL:L.length≤5:=by rw[hL.o];exact Ie V
 obtain⟨R,HR2⟩:=AU (uf V)
 rw[←hL.o] at HC
 rw[←HR2.o] at HR ⊢
 clear h B0 hAll
 cases L with
 |
  nil=>
  have HRZ:Hid (R=0):=by rw[Hid,HR.o];rfl
  go_enter Tryz.func77,Tryz.ntmps77
  go_wp2_with fail
  refine(HC.o).mono ?_
  rintro e w2 ⟨a,c,rfl,hO,hb2⟩
  have HB2:=AQ (HB0.o.trans (hb2.mono HB0.o.size))
  clear hO hb2
  go_wp2_with fail
  go_ret
  exact⟨dB HRZ.o.symm,HB2.o⟩
 |
  cons z L=>
  have HRZ:Hid (R=z):=by rw[Hid,HR.o];rfl
  go_enter Tryz.func77,Tryz.ntmps77
  go_wp2_with fail
  refine(HC.o).mono ?_
  rintro e w2 ⟨a,c,rfl,hv,hb2⟩
  have HB2:=AQ (HB0.o.trans (hb2.mono HB0.o.size))
  have i0:=hv.index UE 0 AO
  have d0:=hv.xg 0 AO AP rfl
  rw[show((0:Nat):Int)=0 from rfl,Nat.zero_mul,List.length_cons] at i0
  rw[Nat.zero_mul] at d0
  have e1:((((L.length+1:Nat):Int))==0)=false:=by simp;omega
  have e2:((L.length+1)==0)=false:=by simp
  clear hb2 hv
  go_wp2_with fail
  go_ret
  exact⟨dB HRZ.o.symm,HB2.o⟩
open Go Go.RowKit Go.Cit
def uo:Nat→Code→Code
 | 0,c=>c
 | n+1, .seq _ b=>uo n b
 | _,c=>c
def bodyC (f:Func):Code:=match f.body with |some c=>c |none=> .skip
def QB:lu:=⟨2,fun j=>if j=0 then 12 else 13,fun j=>if j=0 then 14 else 15,fun j=>if j=0 then 10 else 11,fun _=>44,fun _=> #[.int .i64 0, .int .i64 0]⟩
def Xq (x y:Reg) (j:Nat) (C:Array Value) (_:World):Prop:=C=if j=0 then #[.int .i64 x.base.1, .int .i64 x.size.1] else #[.int .i64 y.base.1, .int .i64 y.size.1]
def Xd (V:aS) (B k j:Nat) (x y:Reg) (d:Nat) (v:Value) (_:World):Prop:=match d with
 | 160=>v= .pointer (some ⟨B,1,none⟩)
 | 161=>v= .slice V.pa V.ps.length V.pc
 | 162=>v= .int .i64 (k:Int)
 | 163=>v= .pointer (some (ad V.pa (k*5)))
 | 164=>v= .pointer (some ⟨(ad V.pa (k*5)).block,(ad V.pa (k*5)).off+1,none⟩)
 | 165=>v= .agg #[.int .i64 x.base.1, .int .i64 x.size.1]
 | 166=>v= .pointer (some ⟨B,1,none⟩)
 | 167=>v= .slice V.pa V.ps.length V.pc
 | 168=>v= .int .i64 (j:Int)
 | 169=>v= .pointer (some (ad V.pa (j*5)))
 | 170=>v= .pointer (some ⟨(ad V.pa (j*5)).block,(ad V.pa (j*5)).off+1,none⟩)
 | 171=>v= .agg #[.int .i64 y.base.1, .int .i64 y.size.1]
 | _=>True
theorem Ak {n:Nat} {o:Option Nat} (h1:n≠12∧n≠13) (h2:n≠14∧n≠15) (h3:o≠some 10) (h4:o≠some 11):∀j,j<QB.nb→n≠QB.ia j∧n≠QB.Ko j∧o≠some (QB.d j):=by
 intro j hj
 rcases (show j=0∨j=1 by have:j<2:=hj;omega) with rfl |rfl
 ·exact⟨h1.1,h2.1,h3⟩
 ·exact⟨h1.2,h2.2,h4⟩
theorem MR (ρ:Operand→Value) (o:Oper) (w:World) (h:o.op= .alloc 44):(execOp ρ o).run Tryz.prog w= .ok (.value (.pointer (some ⟨w.heap.size,0,none⟩))) (w.alloc (.cells #[.int .i64 0, .int .i64 0] 44)):=by
 unfold execOp;rw[h];kernel_rfl
theorem Nw (ρ:Operand→Value) (o:Oper) (wx:World) (p s:Operand) (h:o.op= .store 44 p s) {z:Reg} {g:Nat} {D:Array Value} (hg:ρ p= .pointer (some ⟨g,0,none⟩)) (hs:ρ s= .agg #[.int .i64 z.base.1, .int .i64 z.size.1])
 (hD:wx.heap[g]? =some (.cells D 44 (0,0))) (hDs:D.size=(#[.int .i64 z.base.1, .int .i64 z.size.1]:Array Value).size):
 ∃w',(execOp ρ o).run Tryz.prog wx= .ok .skip w'∧w'.heap[g]? =some (.cells #[.int .i64 z.base.1, .int .i64 z.size.1] 44 (0,0))∧Save (· ≠g) wx w':=by
 have hr:=run_storeVar_row (P:=Tryz.prog) wx g 44 44 D #[.int .i64 z.base.1, .int .i64 z.size.1] hD AB hDs (by simp[Value.oneCell'])
 refine⟨wx.setRow g #[.int .i64 z.base.1, .int .i64 z.size.1], ?_,kV hD,kS _ _ _⟩
 unfold execOp
 simp only[h,hg,hs,Sem.run_bind,Instr.storeAt,Instr.sureAddr,Sem.run_pure,Result.andThen,hr]
theorem VY {w w0 w':World} {R L:List Int} {a:Option Addr} {c:Nat} (h:R=L) (hO:aZ cZ 1 3 w0.heap.size w' a L c) (hb:Below w.heap.size w w') (hs:w.heap.size≤w0.heap.size):
 ∃a' c',Ending.returned (.slice a L.length c)= .returned (.slice a' R.length c')∧aZ cZ 1 3 w.heap.size w' a' R c'∧Below w.heap.size w w':=by
 subst h
 exact⟨a,c,rfl,hO.low hs,hb⟩
end Go.Proofs.YtlholdllibghbaaGreat
