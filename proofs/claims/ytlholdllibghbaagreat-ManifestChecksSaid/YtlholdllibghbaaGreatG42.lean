/- Texts of the proof, one behind the other: RefAll, RefMay13, RefBoth, OddR. No condition but those that each names. -/
import Derived.Test.YtlholdllibghbaaGreatG41
import Derived.Test.YtlholdllibghbaaGreatG39
import Derived.Test.YtlholdllibghbaaGreatG11
import Derived.Test.YtlholdllibghbaaGreatG24
import Derived.Test.YtlholdllibghbaaGreatKit
set_option maxRecDepth 100000
set_option maxHeartbeats 8000000
namespace Go.Proofs.YtlholdllibghbaaGreat
open Go Go.RowKit Go.Cit
def Yw (V:aS) (B k:Nat) (x:Int) (b g1 g2:Bool):Nat→Value
 | 24=>(.bool b)
 | 25=>(.bool b)
 | 26=>(bif (!b) then (.pointer (some ⟨B,0,none⟩)) else undef)
 | 27=>(bif (!b) then (.slice V.wa V.ws.length V.wc) else undef)
 | 28=>(bif (!b) then (.int .i64 (k:Int)) else undef)
 | 29=>(bif (!b) then (.pointer (some (ad V.wa (k*2)))) else undef)
 | 30=>(bif (!b) then (.pointer (some ⟨(ad V.wa (k*2)).block,(ad V.wa (k*2)).off+1,none⟩)) else undef)
 | 31=>(bif (!b) then (.int .i64 x) else undef)
 | 32=>(bif (!b) then (.bool g1) else undef)
 | 33=>(bif (!b) then (.bool g1) else undef)
 | 34=>(bif ((!b) && g1) then (.agg #[.slice V.wa V.ws.length V.wc, .slice V.pa V.ps.length V.pc, .slice V.ca V.cs.length V.cc]) else undef)
 | 35=>(bif ((!b) && g1) then (.pointer (some ⟨B,0,none⟩)) else undef)
 | 36=>(bif ((!b) && g1) then (.slice V.wa V.ws.length V.wc) else undef)
 | 37=>(bif ((!b) && g1) then (.int .i64 (k:Int)) else undef)
 | 38=>(bif ((!b) && g1) then (.pointer (some (ad V.wa (k*2)))) else undef)
 | 39=>(bif ((!b) && g1) then (.pointer (some ⟨(ad V.wa (k*2)).block,(ad V.wa (k*2)).off+1,none⟩)) else undef)
 | 40=>(bif ((!b) && g1) then (.int .i64 x) else undef)
 | 41=>(bif ((!b) && g1) then (.bool g2) else undef)
 | 42=>(bif ((!b) && g1) then (.bool (!g2)) else undef)
 | 43=>(bif (!b) then (.bool (g1 && (!g2))) else undef)
 | 44=>(.bool (b || (g1 && (!g2))))
 | 4=>(.bool (b || (g1 && (!g2))))
 | _=>undef
def WB (_:aS) (B k:Nat) (_:Int) (b _ _:Bool):Nat→Value
 | 1=>(.pointer (some ⟨B,0,none⟩))
 | 4=>(.bool b)
 | 5=>(.int .i64 (k:Int))
 | _=>undef
theorem Hu (w:World) (V:aS) (h:V.At w) (hs:bV V):Calls Tryz.prog 157 #[.agg #[.slice V.wa V.ws.length V.wc, .slice V.pa V.ps.length V.pc, .slice V.ca V.cs.length V.cc]] w fun e w'=>∃a c,e= .returned (.slice a (errs V).length c)∧aZ cZ 1 3 w.heap.size w' a (errs V) c∧Below w.heap.size w w':=by
 obtain⟨R,HR⟩:=AU (errs V)
 rw[←HR.o]
 obtain⟨w0,hw0⟩:=AV (w.alloc (.cells #[.slice V.wa V.ws.length V.wc, .slice V.pa V.ps.length V.pc, .slice V.ca V.cs.length V.cc] 26))
 have B0:Below w.heap.size w w0:=by rw[hw0];exact(Below.refl _ w).alloc (Nat.le_refl _) _
 have hI:fP w0 w.heap.size V:=by rw[hw0];exact dM w V _
 have HV:=AQ (h.stay B0)
 have HI:=AQ hI
 have HB0:=AQ B0
 have hl1:=h.win.bU
 have hl2:=h.pts.bU
 have hl3:=h.kX.bU
 have HC:=AQ (Ew w0 V.wa V.ws V.wc (h.stay B0).win)
 obtain⟨m,hm⟩:=AU (wK V.ws)
 rw[←hm.o] at HC
 obtain⟨c0,c1,c2⟩:=hI
 clear h B0
 go_enter Tryz.func157,Tryz.ntmps157
 go_wp2_with fail
 rw[←hw0]
 clear hw0
 refine(HC.o).mono ?_
 rintro e w1 ⟨rfl,hb1⟩
 have HB1:=AQ hb1
 clear hb1 c0 c1 c2
 go_wp2_with fail
 go_loopw [4,5] (fun b s wr=>∃(k:Nat) (q:Bool),b= .bool q∧s= .int .i64 k∧k≤V.ws.length∧Hid (q=(!m || (V.ws.take k).any (kJ V)))∧Below w0.heap.size w0 wr) (fun _ s _=>V.ws.length-(intOf s).toNat)
 case atStart=>exact⟨0, !m,rfl,rfl,Nat.zero_le _,by rw[Hid];simp,HB1.o⟩
 case round=>
  obtain⟨k,b,rfl,rfl,hk,Hb,B⟩:=hrel
  have HBw:=AQ (B)
  obtain⟨c0,c1,c2⟩:=HI.o.keep HBw.o
  by_cases hlt:k<V.ws.length
  ·skip
   have i0:=HV.o.win.index Kq k hlt
   have u1:∀q:After wr,_:=fun q=>(HV.o.win.stay fF (HBw.o.trans (q.bel.mono HBw.o.size))).field k hlt 1 AP rfl
   have HS:=AQ (tq (kJ V) V.ws k hlt)
   obtain⟨x,hx⟩:∃x:Int,Hid (x=V.ws[k].part.1):=⟨V.ws[k].part.1,rfl⟩
   simp only[←hx.o] at u1
   obtain⟨g1,hg1⟩:∃g,Hid (((x:Int) !=0)=g):=⟨_,rfl⟩
   obtain⟨g2,hg2⟩:∃g,Hid (iH V.ps x=g):=⟨_,rfl⟩
   have HC2:Hid (∀q:After wr,Calls Tryz.prog 214 #[.agg #[.slice V.wa V.ws.length V.wc, .slice V.pa V.ps.length V.pc, .slice V.ca V.cs.length V.cc], .int .i64 x] q.to fun e w'=>e= .returned (.bool g2)∧Below q.to.heap.size q.to w'):=fun q=>by
    have:=qX q.to V (HV.o.stay (HBw.o.trans (q.bel.mono HBw.o.size))) x
    rwa[hg2.o] at this
   obtain⟨R,hR⟩:=AU ((b || (g1 && (!g2))))
   have HN:Hid (R=(!m || (V.ws.take (k+1)).any (kJ V))):=by
    have e:kJ V V.ws[k]=(g1 && (!g2)):=by
     unfold kJ
     rw[←hx.o,hg2.o,←hg1.o]
     congr 1
     rw[Bool.eq_iff_iff]
     simp
    rw[Hid,HS.o,hR.o,Hb.o,e]
    cases m<;>cases (V.ws.take k).any (kJ V)<;>cases g1<;>cases g2<;>rfl
   go_wp2_with fail
   refine eu (Yw V w.heap.size k x b g1 g2) (WB V w.heap.size k x b g1 g2) [1,4,5] AB AB AB ⟨rfl,rfl,rfl,trivial⟩ ?_ ?_
   ·repeat' (first |exact aQ |refine aB ?_ ?_)
    all_goals intro a hk
    ·
     exact .inl ⟨ah rfl,aO (.tmp 4) rfl (hk.o 4)⟩
    ·
     exact .inl ⟨ah rfl,aO (.tmp 24) rfl (hk.s 24)⟩
    ·
     cases b<;>first |exact hk.no 25 false |skip
     exact .inl ⟨hk.yes 25 false,aX (.tmp 1) rfl (hk.o 1) (v:=(.pointer (some ⟨w.heap.size,0,none⟩))) (fun w=>AB) rfl⟩
    ·
     cases b<;>first |exact hk.no 25 false |skip
     exact .inl ⟨hk.yes 25 false,aV (.tmp 26) rfl (hk.s 26) (v:=(.slice V.wa V.ws.length V.wc)) (fun q=>aT (fun w=>AB) (keep q.bel c0)) rfl⟩
    ·
     cases b<;>first |exact hk.no 25 false |skip
     exact .inl ⟨hk.yes 25 false,aO (.tmp 5) rfl (hk.o 5)⟩
    ·
     cases b<;>first |exact hk.no 25 false |skip
     exact .inl ⟨hk.yes 25 false,jR (.tmp 27) (.tmp 28) rfl (hk.s 27) (hk.s 28) (v:=(.pointer (some (ad V.wa (k*2))))) (fun w=>i0 w) rfl⟩
    ·
     cases b<;>first |exact hk.no 25 false |skip
     exact .inl ⟨hk.yes 25 false,aX (.tmp 29) rfl (hk.s 29) (v:=(.pointer (some ⟨(ad V.wa (k*2)).block,(ad V.wa (k*2)).off+1,none⟩))) (fun w=>AB) rfl⟩
    ·
     cases b<;>first |exact hk.no 25 false |skip
     exact .inl ⟨hk.yes 25 false,aV (.tmp 30) rfl (hk.s 30) (v:=(.int .i64 x)) (fun q=>aT (fun w=>AB) (u1 q)) rfl⟩
    ·
     cases b<;>first |exact hk.no 25 false |skip
     exact .inl ⟨hk.yes 25 false,eP rfl (hk.s 31) rfl (v:= .bool (((x:Int) !=0))) (fun w=>AB) (congrArg Value.bool (hg1.o))⟩
    ·
     cases b<;>first |exact hk.no 25 false |skip
     exact .inl ⟨hk.yes 25 false,aO (.tmp 32) rfl (hk.s 32)⟩
    ·
     cases b<;>cases g1<;>first |exact hk.no 33 true |exact hk.nu 33 true |skip
     exact .inl ⟨hk.yes 33 true,aV (.tmp 1) rfl (hk.o 1) (v:=(.agg #[.slice V.wa V.ws.length V.wc, .slice V.pa V.ps.length V.pc, .slice V.ca V.cs.length V.cc])) (fun q=>Io (fun w=>AB) (fun w=>AB) (keep q.bel c0) (keep q.bel c1) (keep q.bel c2)) rfl⟩
    ·
     cases b<;>cases g1<;>first |exact hk.no 33 true |exact hk.nu 33 true |skip
     exact .inl ⟨hk.yes 33 true,aX (.tmp 1) rfl (hk.o 1) (v:=(.pointer (some ⟨w.heap.size,0,none⟩))) (fun w=>AB) rfl⟩
    ·
     cases b<;>cases g1<;>first |exact hk.no 33 true |exact hk.nu 33 true |skip
     exact .inl ⟨hk.yes 33 true,aV (.tmp 35) rfl (hk.s 35) (v:=(.slice V.wa V.ws.length V.wc)) (fun q=>aT (fun w=>AB) (keep q.bel c0)) rfl⟩
    ·
     cases b<;>cases g1<;>first |exact hk.no 33 true |exact hk.nu 33 true |skip
     exact .inl ⟨hk.yes 33 true,aO (.tmp 5) rfl (hk.o 5)⟩
    ·
     cases b<;>cases g1<;>first |exact hk.no 33 true |exact hk.nu 33 true |skip
     exact .inl ⟨hk.yes 33 true,jR (.tmp 36) (.tmp 37) rfl (hk.s 36) (hk.s 37) (v:=(.pointer (some (ad V.wa (k*2))))) (fun w=>i0 w) rfl⟩
    ·
     cases b<;>cases g1<;>first |exact hk.no 33 true |exact hk.nu 33 true |skip
     exact .inl ⟨hk.yes 33 true,aX (.tmp 38) rfl (hk.s 38) (v:=(.pointer (some ⟨(ad V.wa (k*2)).block,(ad V.wa (k*2)).off+1,none⟩))) (fun w=>AB) rfl⟩
    ·
     cases b<;>cases g1<;>first |exact hk.no 33 true |exact hk.nu 33 true |skip
     exact .inl ⟨hk.yes 33 true,aV (.tmp 39) rfl (hk.s 39) (v:=(.int .i64 x)) (fun q=>aT (fun w=>AB) (u1 q)) rfl⟩
    ·
     cases b<;>cases g1<;>first |exact hk.no 33 true |exact hk.nu 33 true |skip
     exact .inl ⟨hk.yes 33 true,dV rfl rfl #[(.agg #[.slice V.wa V.ws.length V.wc, .slice V.pa V.ps.length V.pc, .slice V.ca V.cs.length V.cc]),(.int .i64 x)] (fun w=>AB) (by simp only[List.map_toArray,List.map_cons,List.map_nil,(show a.eval (.tmp 34)=(.agg #[.slice V.wa V.ws.length V.wc, .slice V.pa V.ps.length V.pc, .slice V.ca V.cs.length V.cc]) from hk.s 34),(show a.eval (.tmp 40)=(.int .i64 x) from hk.s 40)]) (v:=(.bool g2)) (fun q=>HC2.o q) rfl⟩
    ·
     cases b<;>cases g1<;>first |exact hk.no 33 true |exact hk.nu 33 true |skip
     exact .inl ⟨hk.yes 33 true,qN rfl _ (hk.s 41) rfl⟩
    ·
     cases b with
     |
      true=>
      exact hk.no 25 false
     |
      false=>
      cases g1 with
      |
       true=>
       exact .inl ⟨hk.yes 25 false,aI rfl true (hk.s 33) (hk.s 42)⟩
      |
       false=>
       exact .inl ⟨hk.yes 25 false,aI rfl false (hk.s 33) rfl⟩
    ·
     cases b with
     |
      true=>
      exact .inl ⟨ah rfl,aI rfl true (hk.s 25) rfl⟩
     |
      false=>
      exact .inl ⟨ah rfl,aI rfl false (hk.s 25) (hk.s 43)⟩
    ·
     exact .inl ⟨ah rfl,gU (.tmp 44) rfl (hk.s 44)⟩
   intro a ⟨w3,hb3⟩ hsame hall
   have he:=bn hsame [24,25,26,27,28,29,30,31,32,33,34,35,36,37,38,39,40,41,42,43,44,4] AB
   simp only[List.foldl_cons,List.foldl_nil] at he
   rw[show a.eval (.tmp 4)=(.bool R) from(hall 4 AB).trans (congrArg Value.bool hR.o.symm)] at he
   generalize a.eval (.tmp 24)=x24 at he
   generalize a.eval (.tmp 25)=x25 at he
   generalize a.eval (.tmp 26)=x26 at he
   generalize a.eval (.tmp 27)=x27 at he
   generalize a.eval (.tmp 28)=x28 at he
   generalize a.eval (.tmp 29)=x29 at he
   generalize a.eval (.tmp 30)=x30 at he
   generalize a.eval (.tmp 31)=x31 at he
   generalize a.eval (.tmp 32)=x32 at he
   generalize a.eval (.tmp 33)=x33 at he
   generalize a.eval (.tmp 34)=x34 at he
   generalize a.eval (.tmp 35)=x35 at he
   generalize a.eval (.tmp 36)=x36 at he
   generalize a.eval (.tmp 37)=x37 at he
   generalize a.eval (.tmp 38)=x38 at he
   generalize a.eval (.tmp 39)=x39 at he
   generalize a.eval (.tmp 40)=x40 at he
   generalize a.eval (.tmp 41)=x41 at he
   generalize a.eval (.tmp 42)=x42 at he
   generalize a.eval (.tmp 43)=x43 at he
   generalize a.eval (.tmp 44)=x44 at he
   simp only[cu] at he
   dsimp only[List.set_cons_zero,List.set_cons_succ] at he
   subst he
   clear hsame hall
   go_wp2_with fail
   go_roundw
   case rel=>exact⟨k+1,R,rfl,by go_num,by omega,HN.o,HBw.o.trans (hb3.mono HBw.o.size)⟩
   case measure=>simp[intOf];omega
  ·have hk2:k=V.ws.length:=by omega
   have Hb:Hid (b=fV V):=by rw[Hid,Hb.o,hk2,List.take_length,hm.o];rfl
   skip
   have HBB:=AQ HBw.o
   clear hk2
   go_upto_if 45 with fail
   go_cut [3] (fun s3 wx=>∃(a:Option Addr) (L:List Int) (c:Nat),s3= .slice a L.length c∧Hid (L=dh V 1)∧Hid (L.length≤1)∧aZ cZ 1 3 w0.heap.size wx a L c∧Below w0.heap.size w0 wx)
   case first=>
    have HT:=AQ (iy V 0 (show 0<5 by decide))
    cases b with
    |
     true=>
     have HL2:Hid ([(90:Int)]=dh V 1):=by rw[Hid,HT.o];simp[dh,lC,←Hb.o]
     have HOn:=AQ (aZ.nil_ cZ 1 3 w0.heap.size wr)
     go_wp2_with ((with_reducible refine bW (o:=⟨some 48, .call _,_,_,_,_⟩) UE lD ql (l:=[]) (y:=90) (.tmp 46) (.tmp 47) AA AA HOn.o AA AP HBB.o.size AA AA ?_);intro a4 c4 w4 hO4 hg4 hn4;have HO4:=AQ hO4;have HB4:=AQ (HBB.o.trans (HOn.o.grown hg4 HBB.o.size));clear hO4 hg4 hn4)
     go_meet
     exact⟨a4,[90],c4,rfl,HL2.o,by rw[Hid];decide,HO4.o,HB4.o⟩
    |
     false=>
     have HL2:Hid (([]:List Int)=dh V 1):=by rw[Hid,HT.o];simp[dh,lC,←Hb.o]
     go_wp2_with fail
     go_meet
     exact⟨none,[],0,rfl,HL2.o,by rw[Hid];decide,aZ.nil_ _ _ _ _ _,HBB.o⟩
   case rest=>
    obtain⟨a,L,c,rfl,HL,HLL,hO,hB⟩:=hcut
    clear Hb
    go_step
    exact Xz w w0 wc V R HR HV HI HB0 hl1 hl2 hl3 a L c HL HLL hO hB _ _ _ _ _ _ _ _ _ _ _ _ _ _ _ _ _ _ _ _ _ _ _ _ _ _ _ _ _ _ _ _ _ _ _ _ _ _ _ _ _ _ _ _ _ _ _ _ _ _ _ _ _ _ _ _ _ _ _ _ _ _ _ _ _ _ _ _ _ _ _ _ _ _ _ _ _ _ _ _ _ _ _ _ _ _ _ _ _ _ _ _ _ _ _ _ _ _ _ _ _ _ _ _ _ _ _ _ _ _ _ _ _ _ _ _ _ _ _ _ _ _ _ _ _ _ _ _ _ _ _ _ _ _ _ _ _ _ _ _ _ _ _ _ _ _ _ _ _ _ _ _ _ _ _ _ _ _ _ _ _ _ _ _ _ _ _ _ _ _ _ _ _ _ _ _ _ _ _ _ _ _ _ _ _ _ _ _ _ _ _ _ _ _ _ _ _ _ _ _ _ _ _ _ _ _ _ _ _ _ _ _ _ _ _ _ _ _ _ _ _ _ _ _ _ _ _ _ _ _ _ _ _ _
theorem yZ:IK:=fun w V h hs=>(Hu w V h hs).mono fun _ _ ⟨a,c,he,hO,hb⟩=>⟨a,c,he,hO.vec lD,hb⟩
open Go Go.RowKit Go.Cit
theorem Jp (V:aS):(uf V==0)=fitsV V:=by
 unfold uf fitsV errs dh lC
 cases fV V<;>cases gZ V.ps<;>cases fB V.ps<;>cases dO V.ps<;>cases dX V<;>rfl
theorem GI (w:World) (V W:aS) (h:V.At w) (k:W.At w) (hs:bV V) (ks:bV W):Calls Tryz.prog 158 #[.agg #[.slice V.wa V.ws.length V.wc, .slice V.pa V.ps.length V.pc, .slice V.ca V.cs.length V.cc], .agg #[.slice W.wa W.ws.length W.wc, .slice W.pa W.ps.length W.pc, .slice W.ca W.cs.length W.cc]] w fun e w'=>e= .returned (.bool (xY V W))∧Below w.heap.size w w':=by
 obtain⟨w0,hw0⟩:=AV ((w.alloc (.cells #[.slice V.wa V.ws.length V.wc, .slice V.pa V.ps.length V.pc, .slice V.ca V.cs.length V.cc] 26)).alloc (.cells #[.slice W.wa W.ws.length W.wc, .slice W.pa W.ps.length W.pc, .slice W.ca W.cs.length W.cc] 26))
 have B0:Below w.heap.size w w0:=by rw[hw0];exact((Below.refl _ w).alloc (Nat.le_refl _) _).alloc AO _
 have hI:=FV w V W
 rw[←hw0] at hI
 have HI:=AQ hI
 have HK:=AQ (k.stay B0)
 have hf:=pJ yZ w0 V (h.stay B0) hs
 obtain⟨c,hc0⟩:=AU (uf V)
 obtain⟨c9,hc9⟩:=AU (uf W)
 obtain⟨f,hf0⟩:=AU (fitsV V)
 obtain⟨f2,hf2⟩:=AU (fitsV W)
 have T1:Hid ((c==0)=f):=by rw[Hid,hc0.o,hf0.o];exact Jp V
 have T2:Hid ((c9==0)=f2):=by rw[Hid,hc9.o,hf2.o];exact Jp W
 have HR:Hid (xY V W=(f && f2)):=by rw[Hid,hf0.o,hf2.o];rfl
 rw[←hc0.o] at hf
 have HF:=AQ hf
 have HB0:=AQ B0
 obtain⟨R,hR⟩:=AU (xY V W)
 rw[←hR.o] at HR ⊢
 clear h k B0 hI hf
 obtain⟨⟨c0,c1,c2⟩,⟨d0,d1,d2⟩⟩:=HI.o
 cases f with
 |
  false=>
  have HRF:Hid (R=false):=HR.o
  have t1:=T1.o
  have t2:¬c=0:=by simpa using t1
  go_enter Tryz.func158,Tryz.ntmps158
  go_wp2_with fail
  rw[←hw0]
  clear hw0
  refine(HF.o).mono ?_
  rintro e w1 ⟨rfl,hb1⟩
  have HB1:=AQ (HB0.o.trans (hb1.mono HB0.o.size))
  clear hb1 c0 c1 c2 d0 d1 d2
  go_wp2_with fail
  go_ret
  exact⟨aJ HRF.o.symm,HB1.o⟩
 |
  true=>
  have HRF:Hid (R=f2):=HR.o
  have t1:=T1.o
  go_enter Tryz.func158,Tryz.ntmps158
  go_wp2_with fail
  rw[←hw0]
  clear hw0
  refine(HF.o).mono ?_
  rintro e w1 ⟨rfl,hb1⟩
  have hf:=pJ yZ w1 W (HK.o.stay hb1) ks
  rw[←hc9.o] at hf
  have HF2:=AQ hf
  have HB1:=AQ (HB0.o.trans (hb1.mono HB0.o.size))
  clear c0 c1 c2 d0 d1 d2
  obtain⟨d0,d1,d2⟩:=HI.o.2.keep hb1
  have t2:=T2.o
  clear hb1 hf
  go_wp2_with fail
  refine(HF2.o).mono ?_
  rintro e w2 ⟨rfl,hb2⟩
  have HB2:=AQ (HB1.o.trans (hb2.mono HB1.o.size))
  clear hb2 d0 d1 d2
  go_wp2_with fail
  go_ret
  exact⟨aJ (by rw[HRF.o]),HB2.o⟩
open Go Go.RowKit Go.Cit
def Yc (V W:aS) (_:Nat) (id i1 i2:Int):Nat→Value
 | 11=>(.agg #[.slice V.wa V.ws.length V.wc, .slice V.pa V.ps.length V.pc, .slice V.ca V.cs.length V.cc])
 | 12=>(.int .i64 id)
 | 13=>(.int .i64 i1)
 | 14=>(.agg #[.slice W.wa W.ws.length W.wc, .slice W.pa W.ps.length W.pc, .slice W.ca W.cs.length W.cc])
 | 15=>(.int .i64 id)
 | 16=>(.int .i64 i2)
 | 9=>(.int .i64 i1)
 | 10=>(.int .i64 i2)
 | _=>undef
def Xp (_ _:aS) (n:Nat) (id _ _:Int):Nat→Value
 | 2=>(.int .i64 id)
 | 3=>(.pointer (some ⟨n,0,none⟩))
 | 4=>(.pointer (some ⟨n+1,0,none⟩))
 | _=>undef
def Yp (V W:aS) (n j1 j2:Nat) (i1 i2:Int) (n1 n2 k1 k2:Bool):Nat→Value
 | 17=>(.int .i64 i1)
 | 18=>(.bool n1)
 | 19=>(.bool n1)
 | 20=>(bif (!n1) then (.int .i64 i2) else undef)
 | 21=>(bif (!n1) then (.bool n2) else undef)
 | 22=>(.bool (n1 || n2))
 | 23=>(.bool (n1 || n2))
 | 24=>(bif (!(n1 || n2)) then (.pointer (some ⟨n,1,none⟩)) else undef)
 | 25=>(bif (!(n1 || n2)) then (.slice V.pa V.ps.length V.pc) else undef)
 | 26=>(bif (!(n1 || n2)) then (.int .i64 i1) else undef)
 | 27=>(bif (!(n1 || n2)) then (.pointer (some (ad V.pa (j1*5)))) else undef)
 | 28=>(bif (!(n1 || n2)) then (.pointer (some ⟨(ad V.pa (j1*5)).block,(ad V.pa (j1*5)).off+3,none⟩)) else undef)
 | 29=>(bif (!(n1 || n2)) then (.bool k1) else undef)
 | 30=>(bif (!(n1 || n2)) then (.bool (!k1)) else undef)
 | 31=>(.bool ((n1 || n2) || (!k1)))
 | 32=>(.bool ((n1 || n2) || (!k1)))
 | 33=>(bif (!((n1 || n2) || (!k1))) then (.pointer (some ⟨n+1,1,none⟩)) else undef)
 | 34=>(bif (!((n1 || n2) || (!k1))) then (.slice W.pa W.ps.length W.pc) else undef)
 | 35=>(bif (!((n1 || n2) || (!k1))) then (.int .i64 i2) else undef)
 | 36=>(bif (!((n1 || n2) || (!k1))) then (.pointer (some (ad W.pa (j2*5)))) else undef)
 | 37=>(bif (!((n1 || n2) || (!k1))) then (.pointer (some ⟨(ad W.pa (j2*5)).block,(ad W.pa (j2*5)).off+3,none⟩)) else undef)
 | 38=>(bif (!((n1 || n2) || (!k1))) then (.bool k2) else undef)
 | 39=>(bif (!((n1 || n2) || (!k1))) then (.bool (!k2)) else undef)
 | 40=>(.bool (((n1 || n2) || (!k1)) || (!k2)))
 | _=>undef
def WQ (_ _:aS) (n _ _:Nat) (i1 i2:Int) (_ _ _ _:Bool):Nat→Value
 | 3=>(.pointer (some ⟨n,0,none⟩))
 | 4=>(.pointer (some ⟨n+1,0,none⟩))
 | 9=>(.int .i64 i1)
 | 10=>(.int .i64 i2)
 | _=>undef
def YE (V W:aS) (n j1 j2:Nat) (i1 i2:Int) (X Y:dD):Nat→Value
 | 43=>(.pointer (some ⟨n,1,none⟩))
 | 44=>(.slice V.pa V.ps.length V.pc)
 | 45=>(.int .i64 i1)
 | 46=>(.pointer (some (ad V.pa (j1*5))))
 | 47=>(.agg (cA X))
 | 48=>(.pointer (some ⟨n+1,1,none⟩))
 | 49=>(.slice W.pa W.ps.length W.pc)
 | 50=>(.int .i64 i2)
 | 51=>(.pointer (some (ad W.pa (j2*5))))
 | 52=>(.agg (cA Y))
 | 8=>(.bool true)
 | _=>undef
def XL (_ _:aS) (n _ _:Nat) (i1 i2:Int) (_ _:dD):Nat→Value
 | 3=>(.pointer (some ⟨n,0,none⟩))
 | 4=>(.pointer (some ⟨n+1,0,none⟩))
 | 6=>(.pointer (some ⟨n+1+1,0,none⟩))
 | 7=>(.pointer (some ⟨n+1+1+1,0,none⟩))
 | 9=>(.int .i64 i1)
 | 10=>(.int .i64 i2)
 | _=>undef
theorem TU {P:Program} {fn:Func} {tmps:Array Value} {w:World} {T E1 E2:TypeId} {n b1 b2 a1 a2 t:Nat} {C D:Array Value} {f1 f2:Nat×Nat} (hT:gK P T n) (hf:fn.results= #[.cell a1 T, .cell a2 T, .tmp t]) (h1:tmps.getD a1 undef= .pointer (some ⟨b1,0,none⟩)) (h2:tmps.getD a2 undef= .pointer (some ⟨b2,0,none⟩)) (hb1:w.heap[b1]? =some (.cells C E1 f1)) (hb2:w.heap[b2]? =some (.cells D E2 f2)) (hC:C.size=n) (hD:D.size=n):
 (results fn tmps).run P w= .ok (.tuple #[.agg C, .agg D,tmps.getD t undef]) w:=by
 obtain⟨⟨d,hu,hd⟩,hi⟩:=hT
 have hr1:=oH (P:=P) hu hd (by rw[hi,hC]) hb1
 have hr2:=oH (P:=P) hu hd (by rw[hi,hD]) hb2
 have e1:tmps[a1]?.getD undef= .pointer (some ⟨b1,0,none⟩):=by rw[←Array.getD_eq_getD_getElem?];exact h1
 have e2:tmps[a2]?.getD undef= .pointer (some ⟨b2,0,none⟩):=by rw[←Array.getD_eq_getD_getElem?];exact h2
 simp[results,hf,e1,e2,asAddr,hr1,hr2]
theorem JR {a b c d:Bool} (h:false=(((a || b) || (!c)) || (!d))):a=false∧b=false:=by
 revert a b c d;decide
theorem Nz {w0 w:World} {a:Option Addr} {l:List dD} {c:Nat} (h:Vec BR 5 w0 a l c) (hb:Below w0.heap.size w0 w) (k:Nat) (hk:k<l.length):(Instr.loadAt 46 (.pointer (some (ad a (k*5))))).run Tryz.prog w= .ok (.agg (cA l[k])) w:=by
 obtain⟨u0,u1,u2,u3,u4⟩:=bK h hb k hk
 have e:ad a (k*5)=⟨(ad a (k*5)).block,(ad a (k*5)).off,none⟩:=by cases a<;>rfl
 rw[e] at u0
 rw[e]
 refine run_loadAt_mid w _ _ 46 [.int .i64 l[k].id.1, .int .i64 l[k].reg.base.1, .int .i64 l[k].reg.size.1, .bool l[k].keep, .slice l[k].a l[k].img.length l[k].c] _ (fun j v hv=> ?_) Tryz.underlying46 rfl AB
 match j,hv with
 | 0,hv=>injection hv with hv;rw[←hv];exact u0
 | 1,hv=>injection hv with hv;rw[←hv];exact u1
 | 2,hv=>injection hv with hv;rw[←hv];exact u2
 | 3,hv=>injection hv with hv;rw[←hv];exact u3
 | 4,hv=>injection hv with hv;rw[←hv];exact u4
@[reducible] def zP:Array Value:= #[.int .i64 0, .int .i64 0, .int .i64 0, .bool false, .slice none 0 0]
theorem Ee (w:World) (V W:aS) (h:V.At w) (k:W.At w) (id:Int):Calls Tryz.prog 159 #[.agg #[.slice V.wa V.ws.length V.wc, .slice V.pa V.ps.length V.pc, .slice V.ca V.cs.length V.cc], .agg #[.slice W.wa W.ws.length W.wc, .slice W.pa W.ps.length W.pc, .slice W.ca W.cs.length W.cc], .int .i64 id] w fun e w'=>
 ∃X Y:dD,e= .returned (.tuple #[.agg (cA X), .agg (cA Y), .bool (kM V.ps W.ps id)])∧(kM V.ps W.ps id=true→X.reg.size.1=(nD V.ps id).reg.size.1∧Y.reg.size.1=(nD W.ps id).reg.size.1)∧Below w.heap.size w w':=by
 obtain⟨wq,hwq⟩:=AV ((w.alloc (.cells #[.slice V.wa V.ws.length V.wc, .slice V.pa V.ps.length V.pc, .slice V.ca V.cs.length V.cc] 26)).alloc (.cells #[.slice W.wa W.ws.length W.wc, .slice W.pa W.ps.length W.pc, .slice W.ca W.cs.length W.cc] 26))
 have hI:=FV w V W
 rw[←hwq] at hI
 obtain⟨w0,hw0⟩:=AV ((wq.alloc (.cells zP 46)).alloc (.cells zP 46))
 obtain⟨n,hn⟩:=AV (w.heap.size)
 have hsq:wq.heap.size=n+2:=by rw[hwq,hn];simp
 have Bq:Below w.heap.size w wq:=by rw[hwq];exact((Below.refl _ w).alloc (Nat.le_refl _) _).alloc AO _
 have Bq0:Below wq.heap.size wq w0:=by rw[hw0];exact((Below.refl _ wq).alloc (Nat.le_refl _) _).alloc AO _
 have B0:=Bq.trans (Bq0.mono Bq.size)
 have h6:w0.heap[n+2]? =some (.cells zP 46 (0,0)):=by
  rw[hw0,←hsq];exact(Below.heap_alloc _ _ _ AO).trans (heap_alloc_new wq _)
 have h7:w0.heap[n+3]? =some (.cells zP 46 (0,0)):=by
  have:=heap_alloc_new (wq.alloc (.cells zP 46)) (.cells zP 46)
  rw[World.size_alloc,hsq] at this
  rw[hw0];exact this
 rw[←hn] at hI
 have HI:=AQ (And.intro (hI.1.keep Bq0) (hI.2.keep Bq0))
 have HV:=AQ (And.intro (h.stay B0) (k.stay B0))
 obtain⟨i1,hi1⟩:=AU (iI (fun x:dD=>decide (x.id.1=id)) V.ps)
 obtain⟨i2,hi2⟩:=AU (iI (fun x:dD=>decide (x.id.1=id)) W.ps)
 have HC1:Hid (∀q:After w0,Calls Tryz.prog 218 #[.agg #[.slice V.wa V.ws.length V.wc, .slice V.pa V.ps.length V.pc, .slice V.ca V.cs.length V.cc], .int .i64 id] q.to fun e w'=>e= .returned (.int .i64 i1)∧Below q.to.heap.size q.to w'):=fun q=>by
  have:=qm q.to V (HV.o.1.stay q.bel) id
  rwa[←hi1.o] at this
 have HC2:Hid (∀q:After w0,Calls Tryz.prog 218 #[.agg #[.slice W.wa W.ws.length W.wc, .slice W.pa W.ps.length W.pc, .slice W.ca W.cs.length W.cc], .int .i64 id] q.to fun e w'=>e= .returned (.int .i64 i2)∧Below q.to.heap.size q.to w'):=fun q=>by
  have:=qm q.to W (HV.o.2.stay q.bel) id
  rwa[←hi2.o] at this
 have HZ:=AQ (And.intro h6 (And.intro h7 B0))
 obtain⟨⟨c0,c1,c2⟩,⟨d0,d1,d2⟩⟩:=HI.o
 have HVW:=AQ (And.intro h k)
 clear h k hI Bq Bq0 B0 h6 h7 hsq
 go_enter Tryz.func159,Tryz.ntmps159
 go_upto_region 1 with fail
 rw[←hwq,←hw0,←hn]
 refine eu (Yc V W n id i1 i2) (Xp V W n id i1 i2) [2,3,4] AB AB AB ⟨rfl,rfl,rfl,trivial⟩ ?_ ?_
 ·repeat' (first |exact aQ |refine aB ?_ ?_)
  all_goals intro a hk
  ·
   exact .inl ⟨ah rfl,aV (.tmp 3) rfl (hk.o 3) (v:=(.agg #[.slice V.wa V.ws.length V.wc, .slice V.pa V.ps.length V.pc, .slice V.ca V.cs.length V.cc])) (fun q=>Io (fun w=>AB) (fun w=>AB) (keep q.bel c0) (keep q.bel c1) (keep q.bel c2)) rfl⟩
  ·
   exact .inl ⟨ah rfl,aO (.tmp 2) rfl (hk.o 2)⟩
  ·
   exact .inl ⟨ah rfl,dV rfl rfl #[(.agg #[.slice V.wa V.ws.length V.wc, .slice V.pa V.ps.length V.pc, .slice V.ca V.cs.length V.cc]),(.int .i64 id)] (fun w=>AB) (by simp only[List.map_toArray,List.map_cons,List.map_nil,(show a.eval (.tmp 11)=(.agg #[.slice V.wa V.ws.length V.wc, .slice V.pa V.ps.length V.pc, .slice V.ca V.cs.length V.cc]) from hk.s 11),(show a.eval (.tmp 12)=(.int .i64 id) from hk.s 12)]) (v:=(.int .i64 i1)) (fun q=>HC1.o q) rfl⟩
  ·
   exact .inl ⟨ah rfl,aV (.tmp 4) rfl (hk.o 4) (v:=(.agg #[.slice W.wa W.ws.length W.wc, .slice W.pa W.ps.length W.pc, .slice W.ca W.cs.length W.cc])) (fun q=>Io (fun w=>AB) (fun w=>AB) (keep q.bel d0) (keep q.bel d1) (keep q.bel d2)) rfl⟩
  ·
   exact .inl ⟨ah rfl,aO (.tmp 2) rfl (hk.o 2)⟩
  ·
   exact .inl ⟨ah rfl,dV rfl rfl #[(.agg #[.slice W.wa W.ws.length W.wc, .slice W.pa W.ps.length W.pc, .slice W.ca W.cs.length W.cc]),(.int .i64 id)] (fun w=>AB) (by simp only[List.map_toArray,List.map_cons,List.map_nil,(show a.eval (.tmp 14)=(.agg #[.slice W.wa W.ws.length W.wc, .slice W.pa W.ps.length W.pc, .slice W.ca W.cs.length W.cc]) from hk.s 14),(show a.eval (.tmp 15)=(.int .i64 id) from hk.s 15)]) (v:=(.int .i64 i2)) (fun q=>HC2.o q) rfl⟩
  ·
   exact .inl ⟨ah rfl,gU (.tmp 13) rfl (hk.s 13)⟩
  ·
   exact .inl ⟨ah rfl,gU (.tmp 16) rfl (hk.s 16)⟩
 intro a ⟨w1,hb1⟩ hsame hall
 have he:=bn hsame [11,12,13,14,15,16,9,10] AB
 simp only[List.foldl_cons,List.foldl_nil] at he
 rw[show a.eval (.tmp 9)=(.int .i64 i1) from hall 9 AB,show a.eval (.tmp 10)=(.int .i64 i2) from hall 10 AB] at he
 generalize a.eval (.tmp 11)=x11 at he
 generalize a.eval (.tmp 12)=x12 at he
 generalize a.eval (.tmp 13)=x13 at he
 generalize a.eval (.tmp 14)=x14 at he
 generalize a.eval (.tmp 15)=x15 at he
 generalize a.eval (.tmp 16)=x16 at he
 simp only[cu] at he
 dsimp only[List.set_cons_zero,List.set_cons_succ] at he
 subst he
 clear hsame hall
 clear c0 c1 c2 d0 d1 d2
 obtain⟨c0,c1,c2⟩:=HI.o.1.keep hb1
 obtain⟨d0,d1,d2⟩:=HI.o.2.keep hb1
 have hV1:=HV.o.1.stay hb1
 have hW1:=HV.o.2.stay hb1
 obtain⟨j1,hj1⟩:∃j:Nat,Hid (j=i1.toNat):=⟨_,rfl⟩
 obtain⟨j2,hj2⟩:∃j:Nat,Hid (j=i2.toNat):=⟨_,rfl⟩
 obtain⟨n1,hn1⟩:∃b,Hid (decide ((i1:Int)<0)=b):=⟨_,rfl⟩
 obtain⟨n2,hn2⟩:∃b,Hid (decide ((i2:Int)<0)=b):=⟨_,rfl⟩
 have r1:¬i1<0→∃hj:j1<V.ps.length,i1=(j1:Int)∧nD V.ps id=V.ps[j1].pt∧iH V.ps id=true:=fun h0=>by
  rcases mV (fun x:dD=>decide (x.id.1=id)) V.ps with hf |⟨i,hi,hf,_⟩
  ·rw[←hi1.o] at hf;omega
  ·have e:j1=i:=by rw[←hi1.o] at hf;have:=hj1.o;omega
   subst e
   exact⟨hi,by rw[hi1.o,hf],by rw[nD,yV _ V.ps _ hi hf];rfl,Gy hf⟩
 have r2:¬i2<0→∃hj:j2<W.ps.length,i2=(j2:Int)∧nD W.ps id=W.ps[j2].pt∧iH W.ps id=true:=fun h0=>by
  rcases mV (fun x:dD=>decide (x.id.1=id)) W.ps with hf |⟨i,hi,hf,_⟩
  ·rw[←hi2.o] at hf;omega
  ·have e:j2=i:=by rw[←hi2.o] at hf;have:=hj2.o;omega
   subst e
   exact⟨hi,by rw[hi2.o,hf],by rw[nD,yV _ W.ps _ hi hf];rfl,Gy hf⟩
 obtain⟨k1,hk1⟩:=AU ((nD V.ps id).keep)
 obtain⟨k2,hk2⟩:=AU ((nD W.ps id).keep)
 have x1:decide ((i1:Int)<0)=false→∀w,(Instr.indexAt 23 (.slice V.pa V.ps.length V.pc) (.int .i64 i1)).run Tryz.prog w= .ok (.pointer (some (ad V.pa (j1*5)))) w:=fun h0=>by
  obtain⟨hj,e,_⟩:=r1 (of_decide_eq_false h0)
  rw[e];exact hV1.pts.index yH j1 hj
 have x2:decide ((i2:Int)<0)=false→∀w,(Instr.indexAt 23 (.slice W.pa W.ps.length W.pc) (.int .i64 i2)).run Tryz.prog w= .ok (.pointer (some (ad W.pa (j2*5)))) w:=fun h0=>by
  obtain⟨hj,e,_⟩:=r2 (of_decide_eq_false h0)
  rw[e];exact hW1.pts.index yH j2 hj
 have u1:decide ((i1:Int)<0)=false→∀q:After w1,q.to.cell? ⟨(ad V.pa (j1*5)).block,(ad V.pa (j1*5)).off+3,none⟩=some (.bool k1):=fun h0 q=>by
  obtain⟨hj,_,e,_⟩:=r1 (of_decide_eq_false h0)
  rw[hk1.o,e];exact(bK hV1.pts q.bel j1 hj).2.2.2.1
 have u2:decide ((i2:Int)<0)=false→∀q:After w1,q.to.cell? ⟨(ad W.pa (j2*5)).block,(ad W.pa (j2*5)).off+3,none⟩=some (.bool k2):=fun h0 q=>by
  obtain⟨hj,_,e,_⟩:=r2 (of_decide_eq_false h0)
  rw[hk2.o,e];exact(bK hW1.pts q.bel j2 hj).2.2.2.1
 obtain⟨nb,hnb⟩:=AU ((((n1 || n2) || (!k1)) || (!k2)))
 go_upto_region 2 with fail
 refine bJ (Yp V W n j1 j2 i1 i2 n1 n2 k1 k2) (WQ V W n j1 j2 i1 i2 n1 n2 k1 k2) [3,4,9,10] AB ⟨rfl,rfl,rfl,rfl,trivial⟩ ?_ ?_
 ·repeat' (first |exact aQ |refine aB ?_ ?_)
  all_goals intro a hk
  ·
   exact .inl ⟨ah rfl,aO (.tmp 9) rfl (hk.o 9)⟩
  ·
   exact .inl ⟨ah rfl,eP rfl (hk.s 17) rfl (v:= .bool (decide ((i1:Int)<0))) (fun w=>AB) (congrArg Value.bool (hn1.o))⟩
  ·
   exact .inl ⟨ah rfl,aO (.tmp 18) rfl (hk.s 18)⟩
  ·
   cases n1<;>first |exact hk.no 19 false |skip
   exact .inl ⟨hk.yes 19 false,aO (.tmp 10) rfl (hk.o 10)⟩
  ·
   cases n1<;>first |exact hk.no 19 false |skip
   exact .inl ⟨hk.yes 19 false,eP rfl (hk.s 20) rfl (v:= .bool (decide ((i2:Int)<0))) (fun w=>AB) (congrArg Value.bool (hn2.o))⟩
  ·
   cases n1 with
   |
    true=>
    exact .inl ⟨ah rfl,aI rfl true (hk.s 19) rfl⟩
   |
    false=>
    exact .inl ⟨ah rfl,aI rfl false (hk.s 19) (hk.s 21)⟩
  ·
   exact .inl ⟨ah rfl,aO (.tmp 22) rfl (hk.s 22)⟩
  ·
   cases n1<;>cases n2<;>first |exact hk.no 23 false |skip
   exact .inl ⟨hk.yes 23 false,aX (.tmp 3) rfl (hk.o 3) (v:=(.pointer (some ⟨n,1,none⟩))) (fun w=>AB) rfl⟩
  ·
   cases n1<;>cases n2<;>first |exact hk.no 23 false |skip
   exact .inl ⟨hk.yes 23 false,aV (.tmp 24) rfl (hk.s 24) (v:=(.slice V.pa V.ps.length V.pc)) (fun q=>aT (fun w=>AB) (keep q.bel c1)) rfl⟩
  ·
   cases n1<;>cases n2<;>first |exact hk.no 23 false |skip
   exact .inl ⟨hk.yes 23 false,aO (.tmp 9) rfl (hk.o 9)⟩
  ·
   cases n1<;>cases n2<;>first |exact hk.no 23 false |skip
   exact .inl ⟨hk.yes 23 false,jR (.tmp 25) (.tmp 26) rfl (hk.s 25) (hk.s 26) (v:=(.pointer (some (ad V.pa (j1*5))))) (fun w=>(x1 hn1.o) w) rfl⟩
  ·
   cases n1<;>cases n2<;>first |exact hk.no 23 false |skip
   exact .inl ⟨hk.yes 23 false,aX (.tmp 27) rfl (hk.s 27) (v:=(.pointer (some ⟨(ad V.pa (j1*5)).block,(ad V.pa (j1*5)).off+3,none⟩))) (fun w=>AB) rfl⟩
  ·
   cases n1<;>cases n2<;>first |exact hk.no 23 false |skip
   exact .inl ⟨hk.yes 23 false,aV (.tmp 28) rfl (hk.s 28) (v:=(.bool k1)) (fun q=>aT (fun w=>AB) (u1 hn1.o q)) rfl⟩
  ·
   cases n1<;>cases n2<;>first |exact hk.no 23 false |skip
   exact .inl ⟨hk.yes 23 false,qN rfl _ (hk.s 29) rfl⟩
  ·
   cases n1 with
   |
    true=>
    exact .inl ⟨ah rfl,aI rfl true (hk.s 23) rfl⟩
   |
    false=>
    cases n2 with
    |
     true=>
     exact .inl ⟨ah rfl,aI rfl true (hk.s 23) rfl⟩
    |
     false=>
     exact .inl ⟨ah rfl,aI rfl false (hk.s 23) (hk.s 30)⟩
  ·
   exact .inl ⟨ah rfl,aO (.tmp 31) rfl (hk.s 31)⟩
  ·
   cases n1<;>cases n2<;>cases k1<;>first |exact hk.no 32 false |skip
   exact .inl ⟨hk.yes 32 false,aX (.tmp 4) rfl (hk.o 4) (v:=(.pointer (some ⟨n+1,1,none⟩))) (fun w=>AB) rfl⟩
  ·
   cases n1<;>cases n2<;>cases k1<;>first |exact hk.no 32 false |skip
   exact .inl ⟨hk.yes 32 false,aV (.tmp 33) rfl (hk.s 33) (v:=(.slice W.pa W.ps.length W.pc)) (fun q=>aT (fun w=>AB) (keep q.bel d1)) rfl⟩
  ·
   cases n1<;>cases n2<;>cases k1<;>first |exact hk.no 32 false |skip
   exact .inl ⟨hk.yes 32 false,aO (.tmp 10) rfl (hk.o 10)⟩
  ·
   cases n1<;>cases n2<;>cases k1<;>first |exact hk.no 32 false |skip
   exact .inl ⟨hk.yes 32 false,jR (.tmp 34) (.tmp 35) rfl (hk.s 34) (hk.s 35) (v:=(.pointer (some (ad W.pa (j2*5))))) (fun w=>(x2 hn2.o) w) rfl⟩
  ·
   cases n1<;>cases n2<;>cases k1<;>first |exact hk.no 32 false |skip
   exact .inl ⟨hk.yes 32 false,aX (.tmp 36) rfl (hk.s 36) (v:=(.pointer (some ⟨(ad W.pa (j2*5)).block,(ad W.pa (j2*5)).off+3,none⟩))) (fun w=>AB) rfl⟩
  ·
   cases n1<;>cases n2<;>cases k1<;>first |exact hk.no 32 false |skip
   exact .inl ⟨hk.yes 32 false,aV (.tmp 37) rfl (hk.s 37) (v:=(.bool k2)) (fun q=>aT (fun w=>AB) (u2 hn2.o q)) rfl⟩
  ·
   cases n1<;>cases n2<;>cases k1<;>first |exact hk.no 32 false |skip
   exact .inl ⟨hk.yes 32 false,qN rfl _ (hk.s 38) rfl⟩
  ·
   cases n1 with
   |
    true=>
    exact .inl ⟨ah rfl,aI rfl true (hk.s 32) rfl⟩
   |
    false=>
    cases n2 with
    |
     true=>
     exact .inl ⟨ah rfl,aI rfl true (hk.s 32) rfl⟩
    |
     false=>
     cases k1 with
     |
      true=>
      exact .inl ⟨ah rfl,aI rfl false (hk.s 32) (hk.s 39)⟩
     |
      false=>
      exact .inl ⟨ah rfl,aI rfl true (hk.s 32) rfl⟩
 intro a ⟨w2,hb2⟩ hsame hall
 have he:=bn hsame [17,18,19,20,21,22,23,24,25,26,27,28,29,30,31,32,33,34,35,36,37,38,39,40] AB
 simp only[List.foldl_cons,List.foldl_nil] at he
 rw[show a.eval (.tmp 40)=(.bool nb) from(hall 40 AB).trans (congrArg Value.bool hnb.o.symm)] at he
 generalize a.eval (.tmp 17)=x17 at he
 generalize a.eval (.tmp 18)=x18 at he
 generalize a.eval (.tmp 19)=x19 at he
 generalize a.eval (.tmp 20)=x20 at he
 generalize a.eval (.tmp 21)=x21 at he
 generalize a.eval (.tmp 22)=x22 at he
 generalize a.eval (.tmp 23)=x23 at he
 generalize a.eval (.tmp 24)=x24 at he
 generalize a.eval (.tmp 25)=x25 at he
 generalize a.eval (.tmp 26)=x26 at he
 generalize a.eval (.tmp 27)=x27 at he
 generalize a.eval (.tmp 28)=x28 at he
 generalize a.eval (.tmp 29)=x29 at he
 generalize a.eval (.tmp 30)=x30 at he
 generalize a.eval (.tmp 31)=x31 at he
 generalize a.eval (.tmp 32)=x32 at he
 generalize a.eval (.tmp 33)=x33 at he
 generalize a.eval (.tmp 34)=x34 at he
 generalize a.eval (.tmp 35)=x35 at he
 generalize a.eval (.tmp 36)=x36 at he
 generalize a.eval (.tmp 37)=x37 at he
 generalize a.eval (.tmp 38)=x38 at he
 generalize a.eval (.tmp 39)=x39 at he
 simp only[cu] at he
 dsimp only[List.set_cons_zero,List.set_cons_succ] at he
 subst he
 clear hsame hall
 have q1:iH V.ps id= !n1:=by
  cases hq:n1 with
  |
   true=>
   have:=hn1.o;rw[hq,decide_eq_true_eq] at this
   rcases mV (fun x:dD=>decide (x.id.1=id)) V.ps with hf |⟨i,hi,hf,_⟩
   ·exact yI hf
   ·rw[←hi1.o] at hf;omega
  | false=>have:=hn1.o;rw[hq] at this;exact(r1 (of_decide_eq_false this)).2.2.2
 have q2:iH W.ps id= !n2:=by
  cases hq:n2 with
  |
   true=>
   have:=hn2.o;rw[hq,decide_eq_true_eq] at this
   rcases mV (fun x:dD=>decide (x.id.1=id)) W.ps with hf |⟨i,hi,hf,_⟩
   ·exact yI hf
   ·rw[←hi2.o] at hf;omega
  | false=>have:=hn2.o;rw[hq] at this;exact(r2 (of_decide_eq_false this)).2.2.2
 have HBN:Hid (kM V.ps W.ps id= !nb):=by
  rw[Hid,kM,q1,q2,←hk1.o,←hk2.o,hnb.o]
  cases n1<;>cases n2<;>cases k1<;>cases k2<;>rfl
 have hb12:=hb1.trans (hb2.mono hb1.size)
 have hp1:n<w1.heap.size:=World.block_lt_of_cell? w1 _ c0
 have e6:w2.heap[n+1+1]? =some (.cells zP 46 (0,0)):=(hb12.block _ (Array.getElem?_eq_some_iff.1 HZ.o.1).1).trans HZ.o.1
 have e7:w2.heap[n+1+1+1]? =some (.cells zP 46 (0,0)):=(hb12.block _ (Array.getElem?_eq_some_iff.1 HZ.o.2.1).1).trans HZ.o.2.1
 have HB2:=AQ (HZ.o.2.2.trans (hb12.mono HZ.o.2.2.size))
 have HE:=AQ (And.intro e6 e7)
 have HNW:=AQ hn
 have c1:=keep hb2 c1
 have hpd:n+1<w1.heap.size:=World.block_lt_of_cell? w1 _ d1
 have d1:=keep hb2 d1
 have hp2:n+1<w2.heap.size:=Nat.lt_of_lt_of_le hpd hb2.size
 have hp6:n+1+1<w2.heap.size:=(Array.getElem?_eq_some_iff.1 e6).1
 have hp7:n+1+1+1<w2.heap.size:=(Array.getElem?_eq_some_iff.1 e7).1
 clear q1 q2 u1 u2 hb12 hp1 c0 c2 d0 d2 hpd
 cases nb with
 |
  true=>
  have g0:=ay e6 0 rfl
  have g1:=ay e6 1 rfl
  have g2:=ay e6 2 rfl
  have g3:=ay e6 3 rfl
  have g4:=ay e6 4 rfl
  have f6:=bH e6
  have l0:=ay e7 0 rfl
  have l1:=ay e7 1 rfl
  have l2:=ay e7 2 rfl
  have l3:=ay e7 3 rfl
  have l4:=ay e7 4 rfl
  have f7:=bH e7
  clear e6 e7 hn
  go_wp2_with fail
  have hC:=UJ (.int .i64 0) (.int .i64 0) (.int .i64 0) (.bool false) (.slice none 0 0) HE.o.1
  have hC':=((qK _ (n+1+1+1) (.int .i64 0) (.int .i64 0) (.int .i64 0) (.bool false) (.slice none 0 0)).block _ (Array.getElem?_eq_some_iff.1 hC).1 AL).trans hC
  have hD0:=((qK w2 (n+1+1) (.int .i64 0) (.int .i64 0) (.int .i64 0) (.bool false) (.slice none 0 0)).block _ (Array.getElem?_eq_some_iff.1 HE.o.2).1 (show n+1+1+1≠n+1+1 by omega)).trans HE.o.2
  have hD:=UJ (.int .i64 0) (.int .i64 0) (.int .i64 0) (.bool false) (.slice none 0 0) hD0
  refine bodyPost_ret (TU rowP rfl (by rfl) (by rfl) hC' hD rfl rfl) rfl ⟨⟨⟨0,by decide⟩,⟨⟨0,by decide⟩,⟨0,by decide⟩⟩,false,none,[],0⟩,⟨⟨0,by decide⟩,⟨⟨0,by decide⟩,⟨0,by decide⟩⟩,false,none,[],0⟩, ?_, ?_, ?_⟩
  ·rw[HBN.o];rfl
  ·intro h;rw[HBN.o] at h;exact absurd h AP
  ·have hN:=HNW.o
   exact(HB2.o.trans ((qK _ _ _ _ _ _ _).below HB2.o.size (fun k hk=>by omega))).trans ((qK _ _ _ _ _ _ _).below (by simpa using HB2.o.size) (fun k hk=>by omega))
 |
  false=>
  have hnq:=hnb.o
  have m1:decide ((i1:Int)<0)=false:=hn1.o.trans (JR hnq).1
  have m2:decide ((i2:Int)<0)=false:=hn2.o.trans (JR hnq).2
  obtain⟨g1, -,eg1, -⟩:=r1 (of_decide_eq_false m1)
  obtain⟨g2, -,eg2, -⟩:=r2 (of_decide_eq_false m2)
  have x1:=x1 m1
  have x2:=x2 m2
  have hNW:=HNW.o
  obtain⟨X,hX⟩:∃X:dD,Hid (X=V.ps[j1]):=⟨V.ps[j1],rfl⟩
  obtain⟨Y,hY⟩:∃Y:dD,Hid (Y=W.ps[j2]):=⟨W.ps[j2],rfl⟩
  have hbx:∀wx,Save (· ≠n+1+1) w2 wx→Below w.heap.size w wx:=fun wx hs=>HB2.o.trans (hs.below HB2.o.size (fun k hk=>by omega))
  have L47:∀wx,Save (· ≠n+1+1) w2 wx→(Instr.loadAt 46 (.pointer (some (ad V.pa (j1*5))))).run Tryz.prog wx= .ok (.agg (cA X)) wx:=fun wx hs=>by
   rw[hX.o];exact Nz HVW.o.1.pts (hbx wx hs) j1 g1
  have L52:∀wx,Save (· ≠n+1+1) w2 wx→(Instr.loadAt 46 (.pointer (some (ad W.pa (j2*5))))).run Tryz.prog wx= .ok (.agg (cA Y)) wx:=fun wx hs=>by
   rw[hY.o];exact Nz HVW.o.2.pts (hbx wx hs) j2 g2
  have L49:∀wx,Save (· ≠n+1+1) w2 wx→wx.cell? ⟨n+1,1,none⟩=some (.slice W.pa W.ps.length W.pc):=fun wx hs=>(hs.cell (p:=⟨n+1,1,none⟩) hp2 (by show n+1≠n+1+1;omega)).trans d1
  clear hn e6 e7 hnq m1 m2 hbx hNW r1 r2
  go_upto_region 4 with fail
  refine EH (YE V W n j1 j2 i1 i2 X Y) (XL V W n j1 j2 i1 i2 X Y) [3,4,6,7,9,10] 10 11 (fun wx=>wx.heap[n+1+1]? =some (.cells (cA X) 46 (0,0))∧Save (· ≠n+1+1) w2 wx) (fun wx=>wx.heap[n+1+1]? =some (.cells (cA X) 46 (0,0))∧wx.heap[n+1+1+1]? =some (.cells (cA Y) 46 (0,0))∧Save (fun j=>j≠n+1+1∧j≠n+1+1+1) w2 wx) AB AB AB AP ⟨rfl,rfl,rfl,rfl,rfl,rfl,trivial⟩ ?_ ?_
  ·repeat' (first |exact aQ |refine aB ?_ ?_)
   all_goals intro a hk
   ·exact⟨ah rfl, .inr (.inr ⟨by decide,by decide,fun wx hst hst2=>bG (.tmp 3) rfl (hk.o 3) (v:=(.pointer (some ⟨n,1,none⟩))) (fun w=>AB) ⟨rfl,rfl⟩⟩)⟩
   ·exact⟨ah rfl, .inr (.inr ⟨by decide,by decide,fun wx hst hst2=>bF (.tmp 43) rfl (hk.s 43) (v:=(.slice V.pa V.ps.length V.pc)) ((fun (q:After _)=>aT (fun w=>AB) (keep q.bel c1)) ⟨wx,(hst AB).1⟩) ⟨rfl,rfl⟩⟩)⟩
   ·exact⟨ah rfl, .inr (.inr ⟨by decide,by decide,fun wx hst hst2=>dN (.tmp 9) rfl ⟨rfl,(hk.o 9)⟩⟩)⟩
   ·exact⟨ah rfl, .inr (.inr ⟨by decide,by decide,fun wx hst hst2=>qM (.tmp 44) (.tmp 45) rfl (hk.s 44) (hk.s 45) (v:=(.pointer (some (ad V.pa (j1*5))))) (x1 wx) ⟨rfl,rfl⟩⟩)⟩
   ·exact⟨ah rfl, .inr (.inr ⟨by decide,by decide,fun wx hst hst2=>bF (.tmp 46) rfl (hk.s 46) (L47 wx (Save.of (hst AB).1)) ⟨rfl,rfl⟩⟩)⟩
   ·exact⟨ah rfl, .inr (.inr ⟨by decide,by decide,fun wx hst hst2=>bG (.tmp 4) rfl (hk.o 4) (v:=(.pointer (some ⟨n+1,1,none⟩))) (fun w=>AB) ⟨rfl,rfl⟩⟩)⟩
   ·exact⟨ah rfl, .inr (.inr ⟨by decide,by decide,fun wx hst hst2=>bF (.tmp 48) rfl (hk.s 48) (aT (fun w=>AB) (L49 wx ((hst2 AB).elim (fun h=>Save.of h.1) (fun h=>h.2)))) ⟨rfl,rfl⟩⟩)⟩
   ·exact⟨ah rfl, .inr (.inr ⟨by decide,by decide,fun wx hst hst2=>dN (.tmp 10) rfl ⟨rfl,(hk.o 10)⟩⟩)⟩
   ·exact⟨ah rfl, .inr (.inr ⟨by decide,by decide,fun wx hst hst2=>qM (.tmp 49) (.tmp 50) rfl (hk.s 49) (hk.s 50) (v:=(.pointer (some (ad W.pa (j2*5))))) (x2 wx) ⟨rfl,rfl⟩⟩)⟩
   ·exact⟨ah rfl, .inr (.inr ⟨by decide,by decide,fun wx hst hst2=>bF (.tmp 51) rfl (hk.s 51) (L52 wx ((hst2 AB).elim (fun h=>Save.of h.1) (fun h=>h.2))) ⟨rfl,rfl⟩⟩)⟩
   ·refine⟨ah rfl, .inl ⟨rfl,fun wx hst=> ?_⟩⟩
    exact oL rowP (.tmp 6) (.tmp 47) rfl (hk.o 6) (hk.s 47) ((hst.1.block _ hp6).trans HE.o.1) rfl rfl AA (fun w' h hs=>⟨⟨h,(Save.of hst.1).trans hs⟩,trivial⟩)
   ·refine⟨ah rfl, .inr (.inl ⟨rfl,fun wx hst=> ?_⟩)⟩
    exact oL rowP (.tmp 7) (.tmp 52) rfl (hk.o 7) (hk.s 52) ((hst.2.block _ hp7 AL).trans HE.o.2) rfl rfl AA (fun w' h hs=>⟨⟨(hs.block _ (Array.getElem?_eq_some_iff.1 hst.1).1 AL).trans hst.1,h,(hst.2.less (fun _ _ hj=>hj.1)).trans (hs.less (fun _ _ hj=>hj.2))⟩,trivial⟩)
   ·exact⟨ah rfl, .inr (.inr ⟨by decide,by decide,fun wx hst hst2=>lS (.const (.bool true)) rfl ⟨rfl,rfl⟩⟩)⟩
  intro a wz hfin hsame hall
  have he:=bn hsame [43,44,45,46,47,48,49,50,51,52,8] AB
  simp only[List.foldl_cons,List.foldl_nil] at he
  rw[show a.eval (.tmp 8)=(.bool true) from hall 8 AB] at he
  generalize a.eval (.tmp 43)=y43 at he
  generalize a.eval (.tmp 44)=y44 at he
  generalize a.eval (.tmp 45)=y45 at he
  generalize a.eval (.tmp 46)=y46 at he
  generalize a.eval (.tmp 47)=y47 at he
  generalize a.eval (.tmp 48)=y48 at he
  generalize a.eval (.tmp 49)=y49 at he
  generalize a.eval (.tmp 50)=y50 at he
  generalize a.eval (.tmp 51)=y51 at he
  generalize a.eval (.tmp 52)=y52 at he
  simp only[cu] at he
  dsimp only[List.set_cons_zero,List.set_cons_succ] at he
  subst he
  clear hsame hall
  have hNW:=HNW.o
  go_wp2_with fail
  refine bodyPost_ret (TU rowP rfl (by rfl) (by rfl) hfin.1 hfin.2.1 rfl rfl) rfl ⟨X,Y, ?_, ?_, ?_⟩
  ·rw[HBN.o];rfl
  ·intro _;rw[eg1,eg2,hX.o,hY.o];exact⟨rfl,rfl⟩
  ·exact HB2.o.trans (hfin.2.2.below HB2.o.size (fun k hk=>by omega))
open Go Go.RowKit Go.Cit
def vG (V W:aS) (j:Nat):Bool:=kM V.ps W.ps (j+1:Nat) && !tu V.ps W.ps (j+1:Nat)
def nS (V W:aS):Int:=if xY V W then (if (List.range 6).any (vG V W) then 130 else 0) else 2
theorem range_any (p:Nat→Bool) (j:Nat):(List.range (j+1)).any p=((List.range j).any p || p j):=by
 rw[List.range_succ,List.any_append];simp
end Go.Proofs.YtlholdllibghbaaGreat
