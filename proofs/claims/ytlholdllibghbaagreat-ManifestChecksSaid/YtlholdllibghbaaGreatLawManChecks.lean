/- ManifestChecks: the walk of the law. -/
import Derived.Test.YtlholdllibghbaaGreatAwk14
import Derived.Test.YtlholdllibghbaaGreatManRefK
import Derived.Test.YtlholdllibghbaaGreatG21
import Derived.Test.YtlholdllibghbaaGreatManArg
import Derived.Test.YtlholdllibghbaaGreatG13
import Derived.Test.YtlholdllibghbaaGreatG15
import Derived.Test.YtlholdllibghbaaGreatKit
set_option maxRecDepth 100000
set_option maxHeartbeats 8000000
namespace Go.Proofs.YtlholdllibghbaaGreat
open Go Go.RowKit Go.Cit
theorem QA {w:World} {a:Option Addr} {l:List UInt8} {c:Nat} (h:Row w a l c):Vec cb 1 w a l c:=Vec.Vs (v:=vb) h.le h.top h.nil h.spot h.cell
def Yb (B:Nat) (M N:bD) (ak ab:Option Addr) (nK nL ck kb:Nat) (g gn b2 b9:Bool):Nat→Value
 | 22=>(.pointer (some ⟨B,34,none⟩))
 | 23=>(.agg #[.slice M.cfg.wa M.cfg.ws.length M.cfg.wc, .slice M.cfg.pa M.cfg.ps.length M.cfg.pc, .slice M.cfg.ca M.cfg.cs.length M.cfg.cc])
 | 24=>(.bool g)
 | 25=>(.bool g)
 | 26=>(bif (!g) then (.pointer (some ⟨(B+1),34,none⟩)) else undef)
 | 27=>(bif (!g) then (.agg #[.slice N.cfg.wa N.cfg.ws.length N.cfg.wc, .slice N.cfg.pa N.cfg.ps.length N.cfg.pc, .slice N.cfg.ca N.cfg.cs.length N.cfg.cc]) else undef)
 | 28=>(bif (!g) then (.bool gn) else undef)
 | 29=>(.bool (g || gn))
 | 30=>(.bool (g || gn))
 | 31=>(bif (!(g || gn)) then (.slice ak nK ck) else undef)
 | 32=>(bif (!(g || gn)) then (.int .i64 (nK:Int)) else undef)
 | 33=>(bif (!(g || gn)) then (.bool b2) else undef)
 | 34=>(.bool ((g || gn) || b2))
 | 35=>(.bool ((g || gn) || b2))
 | 36=>(bif (!((g || gn) || b2)) then (.slice ab nL kb) else undef)
 | 37=>(bif (!((g || gn) || b2)) then (.int .i64 (nL:Int)) else undef)
 | 38=>(bif (!((g || gn) || b2)) then (.bool b9) else undef)
 | 39=>(.bool (((g || gn) || b2) || b9))
 | _=>undef
def XD (B:Nat) (_ _:bD) (ak ab:Option Addr) (nK nL ck kb:Nat) (_ _ _ _:Bool):Nat→Value
 | 0=>(.slice ak nK ck)
 | 3=>(.slice ab nL kb)
 | 8=>(.pointer (some ⟨B,0,none⟩))
 | 9=>(.pointer (some ⟨(B+1),0,none⟩))
 | _=>undef
def Yh (_:Nat) (D:Array Value) (own k:Bool):Nat→Value
 | 40=>(.bool own)
 | 41=>(.bool own)
 | 42=>(bif own then (.agg D) else undef)
 | 43=>(bif own then (.bool k) else undef)
 | 44=>(.bool (own && k))
 | _=>undef
def WG (B:Nat) (_:Array Value) (own _:Bool):Nat→Value
 | 4=>(.bool own)
 | 9=>(.pointer (some ⟨(B+1),0,none⟩))
 | _=>undef
theorem wU (w:World) (ak:Option Addr) (K:List UInt8) (ck:Nat) (M N:bD) (ab:Option Addr) (L:List UInt8) (kb:Nat) (own linked sealed_:Bool) (hr2:Row w ak K ck) (h:M.At w) (hb:∀x∈M.cfg.ps,x.img.length≤140737488351232) (h':N.At w) (hb':∀x∈N.cfg.ps,x.img.length≤140737488351232) (hr:Row w ab L kb):Calls Tryz.prog 5 #[.slice ak K.length ck, .agg (cM M), .agg (cM N), .slice ab L.length kb, .bool own, .bool linked, .bool sealed_] w fun e w'=>e= .returned (.bool true)∧Below w.heap.size w w':=by
 have HAM:=AQ (fun ρ d ty ps af w=>gy ρ d ty ps (af:=af) w)
 obtain⟨Z,hZ⟩:=AU (cM zM)
 rw[←hZ.o] at HAM
 have HZS:Hid (Z.size=69∧Z.all (·.oneCell')=true):=by rw[hZ.o];exact⟨eY rfl rfl,eH _⟩
 obtain⟨C,hC⟩:=AU (cM M)
 obtain⟨D,hD⟩:=AU (cM N)
 obtain⟨w0,hw0⟩:=AV ((w.alloc (.cells C 55)).alloc (.cells D 55))
 have B1:Below (w.alloc (.cells C 55)).heap.size (w.alloc (.cells C 55)) w0:=by rw[hw0];exact(Below.refl _ _).alloc (Nat.le_refl _) _
 have Ba:Below w.heap.size w (w.alloc (.cells C 55)):=(Below.refl _ w).alloc (Nat.le_refl _) _
 have HB:Hid (Below w.heap.size w w0):=Ba.trans (B1.mono AO)
 have HI:Hid (fE w0 w.heap.size M):=by rw[hC.o] at B1;exact(fE.new w h).keep B1
 have HJ:Hid (fE w0 (w.heap.size+1) N):=by
  have:=fE.new (w.alloc (.cells C 55)) (h'.stay Ba)
  rw[hw0,hD.o]
  simpa[Hid] using this
 have HM:=AQ (h.stay HB.o)
 have HN:=AQ (h'.stay HB.o)
 have HK:=AQ (hr2.stay HB.o)
 have HR:=AQ (hr.stay HB.o)
 have HP32:=AQ h'.p32
 have HT32:=AQ h'.t32
 obtain⟨nK,hnK⟩:=AU K.length
 obtain⟨nL,hnL⟩:=AU L.length
 obtain⟨g,hg⟩:=AU (uj M.cfg)
 obtain⟨gn,hgn⟩:=AU (uj N.cfg)
 obtain⟨b2,hb2⟩:=AU (decide ((nK:Int)>200))
 obtain⟨b9,hb9⟩:=AU (decide ((nL:Int)>9000))
 obtain⟨R1,hR1⟩:=AU ((((g || gn) || b2) || b9))
 have HR1:=hR1
 have H2:Hid (decide ((200:Int)<nK)=b2):=by rw[Hid,hb2.o]
 have H9:Hid (decide ((9000:Int)<nL)=b9):=by rw[Hid,hb9.o]
 have HG:Hid (∀q:After w0,Calls Tryz.prog 8 #[.agg #[.slice M.cfg.wa M.cfg.ws.length M.cfg.wc, .slice M.cfg.pa M.cfg.ps.length M.cfg.pc, .slice M.cfg.ca M.cfg.cs.length M.cfg.cc]] q.to fun e w'=>e= .returned (.bool g)∧Below q.to.heap.size q.to w'):=fun q=>by rw[hg.o];exact xA q.to M.cfg (HM.o.stay q.bel).cfg hb
 have HG2:Hid (∀q:After w0,Calls Tryz.prog 8 #[.agg #[.slice N.cfg.wa N.cfg.ws.length N.cfg.wc, .slice N.cfg.pa N.cfg.ps.length N.cfg.pc, .slice N.cfg.ca N.cfg.cs.length N.cfg.cc]] q.to fun e w'=>e= .returned (.bool gn)∧Below q.to.heap.size q.to w'):=fun q=>by rw[hgn.o];exact xA q.to N.cfg (HN.o.stay q.bel).cfg hb'
 rw[←hC.o,←hD.o,←hnK.o,←hnL.o]
 clear h h' B1 Ba hr2 hr
 go_enter Tryz.func5,Tryz.ntmps5
 go_upto_region 1 with fail
 rw[←hw0]
 clear hw0
 refine bJ (Yb w.heap.size M N ak ab nK nL ck kb g gn b2 b9) (XD w.heap.size M N ak ab nK nL ck kb g gn b2 b9) [0,3,8,9] AB ⟨rfl,rfl,rfl,rfl,trivial⟩ ?_ ?_
 ·repeat' (first |exact aQ |refine aB ?_ ?_)
  all_goals intro a hk
  ·
   exact .inl ⟨ah rfl,aX (.tmp 8) rfl (hk.o 8) (v:=(.pointer (some ⟨w.heap.size,34,none⟩))) (fun w=>AB) rfl⟩
  ·
   exact .inl ⟨ah rfl,aV (.tmp 22) rfl (hk.s 22) (v:=(.agg #[.slice M.cfg.wa M.cfg.ws.length M.cfg.wc, .slice M.cfg.pa M.cfg.ps.length M.cfg.pc, .slice M.cfg.ca M.cfg.cs.length M.cfg.cc])) (fun q=>(HI.o.keep q.bel).IB) rfl⟩
  ·
   exact .inl ⟨ah rfl,dV rfl rfl #[(.agg #[.slice M.cfg.wa M.cfg.ws.length M.cfg.wc, .slice M.cfg.pa M.cfg.ps.length M.cfg.pc, .slice M.cfg.ca M.cfg.cs.length M.cfg.cc])] (fun w=>AB) (by simp only[List.map_toArray,List.map_cons,List.map_nil,(show a.eval (.tmp 23)=(.agg #[.slice M.cfg.wa M.cfg.ws.length M.cfg.wc, .slice M.cfg.pa M.cfg.ps.length M.cfg.pc, .slice M.cfg.ca M.cfg.cs.length M.cfg.cc]) from hk.s 23)]) (v:=(.bool g)) (fun q=>HG.o q) rfl⟩
  ·
   exact .inl ⟨ah rfl,aO (.tmp 24) rfl (hk.s 24)⟩
  ·
   cases g<;>first |exact hk.no 25 false |skip
   exact .inl ⟨hk.yes 25 false,aX (.tmp 9) rfl (hk.o 9) (v:=(.pointer (some ⟨(w.heap.size+1),34,none⟩))) (fun w=>AB) rfl⟩
  ·
   cases g<;>first |exact hk.no 25 false |skip
   exact .inl ⟨hk.yes 25 false,aV (.tmp 26) rfl (hk.s 26) (v:=(.agg #[.slice N.cfg.wa N.cfg.ws.length N.cfg.wc, .slice N.cfg.pa N.cfg.ps.length N.cfg.pc, .slice N.cfg.ca N.cfg.cs.length N.cfg.cc])) (fun q=>(HJ.o.keep q.bel).IB) rfl⟩
  ·
   cases g<;>first |exact hk.no 25 false |skip
   exact .inl ⟨hk.yes 25 false,dV rfl rfl #[(.agg #[.slice N.cfg.wa N.cfg.ws.length N.cfg.wc, .slice N.cfg.pa N.cfg.ps.length N.cfg.pc, .slice N.cfg.ca N.cfg.cs.length N.cfg.cc])] (fun w=>AB) (by simp only[List.map_toArray,List.map_cons,List.map_nil,(show a.eval (.tmp 27)=(.agg #[.slice N.cfg.wa N.cfg.ws.length N.cfg.wc, .slice N.cfg.pa N.cfg.ps.length N.cfg.pc, .slice N.cfg.ca N.cfg.cs.length N.cfg.cc]) from hk.s 27)]) (v:=(.bool gn)) (fun q=>HG2.o q) rfl⟩
  ·
   cases g with
   |
    true=>
    exact .inl ⟨ah rfl,aI rfl true (hk.s 25) rfl⟩
   |
    false=>
    exact .inl ⟨ah rfl,aI rfl false (hk.s 25) (hk.s 28)⟩
  ·
   exact .inl ⟨ah rfl,aO (.tmp 29) rfl (hk.s 29)⟩
  ·
   cases g<;>cases gn<;>first |exact hk.no 30 false |skip
   exact .inl ⟨hk.yes 30 false,aO (.tmp 0) rfl (hk.o 0)⟩
  ·
   cases g<;>cases gn<;>first |exact hk.no 30 false |skip
   exact .inl ⟨hk.yes 30 false,q_len rfl AB (hk.s 31) rfl⟩
  ·
   cases g<;>cases gn<;>first |exact hk.no 30 false |skip
   exact .inl ⟨hk.yes 30 false,eP rfl (hk.s 32) rfl (v:= .bool (decide ((200:Int)<(nK:Int)))) (fun w=>AB) (congrArg Value.bool (H2.o))⟩
  ·
   cases g with
   |
    true=>
    exact .inl ⟨ah rfl,aI rfl true (hk.s 30) rfl⟩
   |
    false=>
    cases gn with
    |
     true=>
     exact .inl ⟨ah rfl,aI rfl true (hk.s 30) rfl⟩
    |
     false=>
     exact .inl ⟨ah rfl,aI rfl false (hk.s 30) (hk.s 33)⟩
  ·
   exact .inl ⟨ah rfl,aO (.tmp 34) rfl (hk.s 34)⟩
  ·
   cases g<;>cases gn<;>cases b2<;>first |exact hk.no 35 false |skip
   exact .inl ⟨hk.yes 35 false,aO (.tmp 3) rfl (hk.o 3)⟩
  ·
   cases g<;>cases gn<;>cases b2<;>first |exact hk.no 35 false |skip
   exact .inl ⟨hk.yes 35 false,q_len rfl AB (hk.s 36) rfl⟩
  ·
   cases g<;>cases gn<;>cases b2<;>first |exact hk.no 35 false |skip
   exact .inl ⟨hk.yes 35 false,eP rfl (hk.s 37) rfl (v:= .bool (decide ((9000:Int)<(nL:Int)))) (fun w=>AB) (congrArg Value.bool (H9.o))⟩
  ·
   cases g with
   |
    true=>
    exact .inl ⟨ah rfl,aI rfl true (hk.s 35) rfl⟩
   |
    false=>
    cases gn with
    |
     true=>
     exact .inl ⟨ah rfl,aI rfl true (hk.s 35) rfl⟩
    |
     false=>
     cases b2 with
     |
      true=>
      exact .inl ⟨ah rfl,aI rfl true (hk.s 35) rfl⟩
     |
      false=>
      exact .inl ⟨ah rfl,aI rfl false (hk.s 35) (hk.s 38)⟩
 intro a ⟨w1,hb1⟩ hsame hall
 have he:=bn hsame [22,23,24,25,26,27,28,29,30,31,32,33,34,35,36,37,38,39] AB
 simp only[List.foldl_cons,List.foldl_nil] at he
 rw[show a.eval (.tmp 39)=(.bool R1) from(hall 39 AB).trans (congrArg Value.bool HR1.o.symm)] at he
 generalize a.eval (.tmp 22)=x22 at he
 generalize a.eval (.tmp 23)=x23 at he
 generalize a.eval (.tmp 24)=x24 at he
 generalize a.eval (.tmp 25)=x25 at he
 generalize a.eval (.tmp 26)=x26 at he
 generalize a.eval (.tmp 27)=x27 at he
 generalize a.eval (.tmp 28)=x28 at he
 generalize a.eval (.tmp 29)=x29 at he
 generalize a.eval (.tmp 30)=x30 at he
 generalize a.eval (.tmp 31)=x31 at he
 generalize a.eval (.tmp 32)=x32 at he
 generalize a.eval (.tmp 33)=x33 at he
 generalize a.eval (.tmp 34)=x34 at he
 generalize a.eval (.tmp 35)=x35 at he
 generalize a.eval (.tmp 36)=x36 at he
 generalize a.eval (.tmp 37)=x37 at he
 generalize a.eval (.tmp 38)=x38 at he
 simp only[cu] at he
 dsimp only[List.set_cons_zero,List.set_cons_succ] at he
 subst he
 clear hsame hall
 cases R1 with
 |
  true=>
  go_wp2_with fail
  go_ret
  exact⟨rfl,HB.o.trans (hb1.mono HB.o.size)⟩
 |
  false=>
  dsimp only
  have hf:=hR1.o
  have HGF:Hid (g=false∧gn=false∧b2=false∧b9=false):=by cases g<;>cases gn<;>cases b2<;>cases b9<;>first |exact⟨rfl,rfl,rfl,rfl⟩ |exact absurd hf AP
  clear hf
  have HSS:Hid (bV M.cfg):=Qw (hg.o.symm.trans HGF.o.1)
  have HNK:Hid (K.length≤100000):=by
   have h1:=hb2.o
   rw[HGF.o.2.2.1] at h1
   have:=of_decide_eq_false h1.symm
   have:=hnK.o
   rw[Hid];omega
  have HN9:Hid (L.length≤9000):=by
   have h1:=hb9.o
   rw[HGF.o.2.2.2] at h1
   have:=of_decide_eq_false h1.symm
   have:=hnL.o
   rw[Hid];omega
  have HI1:=AQ (HI.o.keep hb1)
  have HJ1:=AQ (HJ.o.keep hb1)
  have HM1:=AQ (HM.o.stay hb1)
  have HN1:=AQ (HN.o.stay hb1)
  have HK1:=AQ (HK.o.stay hb1)
  have HR1:=AQ (HR.o.stay hb1)
  have HB1:=AQ (HB.o.trans (hb1.mono HB.o.size))
  clear HI HJ HM HN HK HR HB
  clear hb1 HG HG2
  obtain⟨k,hk⟩:=AU (jf N)
  obtain⟨R3,hR3⟩:=AU ((own && k))
  have HR3:=hR3
  have LD:Hid (∀q:After w1,(Instr.loadAt 55 (.pointer (some ⟨w.heap.size+1,0,none⟩))).run Tryz.prog q.to= .ok (.agg D) q.to):=fun q=>by rw[hD.o];exact(HJ1.o.keep q.bel).whole
  have HCN:Hid (∀q:After w1,Calls Tryz.prog 16 #[.agg D] q.to fun e w'=>e= .returned (.bool k)∧Below q.to.heap.size q.to w'):=fun q=>by
   have:=kD q.to N (HN1.o.stay q.bel)
   rw[←hk.o,←hD.o] at this;exact this
  go_upto_region 3 with fail
  refine bJ (Yh w.heap.size D own k) (WG w.heap.size D own k) [4,9] AB ⟨rfl,rfl,trivial⟩ ?_ ?_
  ·repeat' (first |exact aQ |refine aB ?_ ?_)
   all_goals intro a hk
   ·
    exact .inl ⟨ah rfl,aO (.tmp 4) rfl (hk.o 4)⟩
   ·
    exact .inl ⟨ah rfl,aO (.tmp 40) rfl (hk.s 40)⟩
   ·
    cases own<;>first |exact hk.no 41 true |skip
    exact .inl ⟨hk.yes 41 true,aV (.tmp 9) rfl (hk.o 9) (v:=(.agg D)) (fun q=>LD.o q) rfl⟩
   ·
    cases own<;>first |exact hk.no 41 true |skip
    exact .inl ⟨hk.yes 41 true,dV rfl rfl #[(.agg D)] (fun w=>AB) (by simp only[List.map_toArray,List.map_cons,List.map_nil,(show a.eval (.tmp 42)=(.agg D) from hk.s 42)]) (v:=(.bool k)) (fun q=>HCN.o q) rfl⟩
   ·
    cases own with
    |
     true=>
     exact .inl ⟨ah rfl,aI rfl true (hk.s 41) (hk.s 43)⟩
    |
     false=>
     exact .inl ⟨ah rfl,aI rfl false (hk.s 41) rfl⟩
  intro a ⟨w2,hb2⟩ hsame hall
  have he:=bn hsame [40,41,42,43,44] AB
  simp only[List.foldl_cons,List.foldl_nil] at he
  rw[show a.eval (.tmp 44)=(.bool R3) from(hall 44 AB).trans (congrArg Value.bool HR3.o.symm)] at he
  generalize a.eval (.tmp 40)=x40 at he
  generalize a.eval (.tmp 41)=x41 at he
  generalize a.eval (.tmp 42)=x42 at he
  generalize a.eval (.tmp 43)=x43 at he
  simp only[cu] at he
  dsimp only[List.set_cons_zero,List.set_cons_succ] at he
  subst he
  clear hsame hall
  dsimp only
  have HI2:=AQ (HI1.o.keep hb2)
  have HJ2:=AQ (HJ1.o.keep hb2)
  have HM2:=AQ (HM1.o.stay hb2)
  have HN2:=AQ (HN1.o.stay hb2)
  have HK2:=AQ (HK1.o.stay hb2)
  have HR2:=AQ (HR1.o.stay hb2)
  have HB2:=AQ (HB1.o.trans (hb2.mono HB1.o.size))
  clear HI1 HJ1 HM1 HN1 HK1 HR1 HB1
  clear hb2 LD HCN
  go_upto_if 44 with fail
  go_cut [3] (fun s3 wx=>∃(a:Option Addr) (X:List UInt8) (c:Nat),s3= .slice a X.length c∧Hid (X.length≤9000)∧Hid (Row wx a X c)∧Hid (Below w2.heap.size w2 wx))
  case first=>
   cases R3 with
   |
    false=>
    go_wp2_with fail
    go_meet
    exact⟨ab,L,kb,by rw[hnL.o],HN9.o,HR2.o,Below.refl _ _⟩
   |
    true=>
    have HKT:Hid (jf N=true):=by
     have h1:=hR3.o
     have h2:=hk.o
     cases own<;>cases k<;>first |exact absurd h1 AP |exact h2.symm
    have hw:=HJ2.o.whole
    rw[←hD.o] at hw
    have HL1:=AQ hw
    obtain⟨pn,hpn⟩:=AV (w2.heap.size)
    have HNW:=AQ (heap_alloc_new w2 (.cells Z 55))
    have HDS:Hid (D.size=69∧D.all (·.oneCell')=true):=by rw[hD.o];exact⟨eY HP32.o HT32.o,eH _⟩
    clear hw
    go_upto_if 46 with (first |(with_reducible refine aN (o:=⟨some 45, .load 55 (.tmp 9),_,_,_,_⟩) AA AA AA HL1.o ?_) |((with_reducible refine aj (o:=⟨some 15, .alloc _,_,_,_,_⟩) AA (HAM.o _ _ _ _ _ _) ?_)) |((with_reducible refine au (o:=⟨none, .store _ (.tmp 15) (.tmp 45),_,_,_,_⟩) eU (.tmp 15) (.tmp 45) AA AA AA AA AA HNW.o HZS.o.1 HDS.o.1 HDS.o.2 ?_);intro w3 hbw3 hSw3;have HBw3:=AQ hbw3;have HSw3:=AQ hSw3;clear hbw3 hSw3))
    have HX3:Hid (Below w2.heap.size w2 w3):=by
     have h1:Below w2.heap.size w2 (w2.alloc (.cells Z 55)):=(Below.refl _ _).alloc (Nat.le_refl _) _
     exact h1.trans (HSw3.o.below AO (fun k hk=>by omega))
    have HQ3:Hid (fE w3 pn N):=by rw[Hid,hpn];exact⟨by rw[←hD.o];exact HBw3.o,HP32.o,HT32.o⟩
    have HPN:Hid (w2.heap.size≤pn):=by rw[Hid,hpn];omega
    rw[←hpn]
    clear HBw3 HSw3 HNW hpn HL1
    go_cut [46] (fun _ wx=>∃M1:bD,Hid (fE wx pn M1)∧Hid (M1.cfg=N.cfg)∧Hid (jf M1=true)∧Hid (Below w2.heap.size w2 wx))
    case first=>
     cases linked with
     |
      false=>
      go_wp2_with fail
      go_meet
      exact⟨N,HQ3.o,rfl,HKT.o,HX3.o⟩
     |
      true=>
      have hw:=(HI2.o.keep HX3.o).whole
      rw[←hC.o] at hw
      have HL2:=AQ hw
      obtain⟨TH,hTH⟩:=AU (((jm M).map vb).toArray)
      have HTC:Hid (TH.size=32∧TH.all (·.oneCell')=true):=by rw[hTH.o];exact cO _ (jK _)
      have hh:=ug w3 M (HM2.o.stay HX3.o)
      rw[←hC.o,←hTH.o] at hh
      have HH:=AQ hh
      clear hw hh
      go_wp2_with (first |(with_reducible refine aN (o:=⟨some 47, .load 55 (.tmp 8),_,_,_,_⟩) AA AA AA HL2.o ?_))
      refine(HH.o).mono ?_
      rintro e w4 ⟨rfl,hb4⟩
      have HQ4:=AQ (HQ3.o.keep hb4)
      have HX4:=AQ (HX3.o.trans (hb4.mono HX3.o.size))
      have f1:=mf1 pn
      clear hb4 HH HL2 HQ3 HX3
      go_wp2_with (first |((with_reducible refine dL (o:=⟨none, .store _ (.tmp 49) (.tmp 48),_,_,_,_⟩) (C:=cM N) dW.info (.tmp 49) (.tmp 48) AA AA AA AA AA HTC.o.1 HQ4.o.blk (by rw[HQ4.o.size];decide) HTC.o.2 ?_);intro w5 hbw5 hSw5;have HBw5:=AQ hbw5;have HSw5:=AQ hSw5;clear hbw5 hSw5))
      go_meet
      refine⟨{N with prev:=jm M}, ?_,rfl,HKT.o, ?_⟩
      ·refine⟨HBw5.o.trans ?_,jK _,HQ4.o.t32⟩
       rw[hTH.o,show nC (cM N) 1 _=cM {N with prev:=jm M} from tY HQ4.o.p32 (jK _)]
      ·exact HX4.o.trans (HSw5.o.below HX4.o.size (fun k hk=>by have:=HPN.o;omega))
    case rest=>
     obtain⟨M1,HQ,HMC,HKM,HX⟩:=hcut
     clear HQ3 HX3
     go_upto_if 50 with fail
     go_cut [50] (fun _ wx=>∃M1:bD,Hid (fE wx pn M1)∧Hid (M1.cfg=N.cfg)∧Hid (jf M1=true)∧Hid (Below w2.heap.size w2 wx))
     case first=>
      cases sealed_ with
      |
       false=>
       go_wp2_with fail
       go_meet
       exact⟨M1,HQ.o,HMC.o,HKM.o,HX.o⟩
      |
       true=>
       obtain⟨C1,hC1⟩:=AU (cM M1)
       obtain⟨C2,hC2⟩:=AU (cM (sO K M1))
       have hA:M1.At wc:=⟨HQ.o.p32,HQ.o.t32,by rw[HMC.o];exact(HN2.o.stay HX.o).cfg⟩
       have HC1:Hid (C1.size=69):=by rw[Hid,hC1.o];exact HQ.o.size
       have HC2:Hid (C2.size=69∧C2.all (·.oneCell')=true):=by rw[hC2.o];exact⟨eY (uq hA).p32 (uq (key:=K) hA).t32,eH _⟩
       have HS32:Hid ((sO K M1).prev.length=32∧(sO K M1).tag.length=32):=⟨(uq hA).p32,(uq (key:=K) hA).t32⟩
       have hw:=HQ.o.whole
       rw[←hC1.o] at hw
       have HL3:=AQ hw
       have hs:=uI wc ak K ck (HK2.o.stay HX.o) HNK.o M1 hA
       rw[←hnK.o,←hC1.o,←hC2.o] at hs
       have HS:=AQ hs
       clear hw hs hA
       go_wp2_with (first |(with_reducible refine aN (o:=⟨some 52, .load 55 (.tmp 15),_,_,_,_⟩) AA AA AA HL3.o ?_))
       refine(HS.o).mono ?_
       rintro e w4 ⟨rfl,hb4⟩
       have HQ4:=AQ (HQ.o.keep hb4)
       have hbk:=HQ4.o.blk
       rw[←hC1.o] at hbk
       have HBK:=AQ hbk
       have HX4:=AQ (HX.o.trans (hb4.mono HX.o.size))
       clear hb4 hbk HS HL3 HQ HX
       go_wp2_with (first |((with_reducible refine au (o:=⟨none, .store _ (.tmp 15) (.tmp 53),_,_,_,_⟩) eU (.tmp 15) (.tmp 53) AA AA AA AA AA HBK.o HC1.o HC2.o.1 HC2.o.2 ?_);intro w5 hbw5 hSw5;have HBw5:=AQ hbw5;have HSw5:=AQ hSw5;clear hbw5 hSw5))
       go_meet
       refine⟨sO K M1,⟨?_,HS32.o.1,HS32.o.2⟩,HMC.o,HKM.o, ?_⟩
       ·rw[←hC2.o];exact HBw5.o
       ·exact HX4.o.trans (HSw5.o.below HX4.o.size (fun k hk=>by have:=HPN.o;omega))
     case rest=>
      obtain⟨M2,HQ2,HMC2,HKM2,HX2⟩:=hcut
      clear HQ HX
      have hA:M2.At wc:=⟨HQ2.o.p32,HQ2.o.t32,by rw[HMC2.o];exact(HN2.o.stay HX2.o).cfg⟩
      obtain⟨C1,hC1⟩:=AU (cM M2)
      have hw:=HQ2.o.whole
      rw[←hC1.o] at hw
      have HL3:=AQ hw
      have hs:=sJ wc M2 hA HKM2.o
      rw[←hC1.o] at hs
      have HS:=AQ hs
      have HXL:Hid ((oU M2).length≤9000):=by
       have h1:=CP HQ2.o.p32 HQ2.o.t32
       rw[(uM HKM2.o).1] at h1
       rw[Hid,oU];omega
      clear hw hs hA
      go_wp2_with (first |(with_reducible refine aN (o:=⟨some 54, .load 55 (.tmp 15),_,_,_,_⟩) AA AA AA HL3.o ?_))
      refine(HS.o).mono ?_
      rintro e w4 ⟨a4,k4,rfl,hr4,hb4⟩
      have HR4:=AQ hr4
      have HX4:=AQ (HX2.o.trans (hb4.mono HX2.o.size))
      clear hb4 hr4 HS HL3
      go_wp2_with fail
      go_meet
      exact⟨a4,oU M2,k4,rfl,HXL.o,HR4.o,HX4.o⟩
  case rest=>
   obtain⟨a1,X,c1,rfl,HXL,HRX,HBX⟩:=hcut
   obtain⟨n,hn⟩:=AU X.length
   rw[←hn.o]
   have HIc:=AQ (HI2.o.keep HBX.o)
   have HMc:=AQ (HM2.o.stay HBX.o)
   have HKc:=AQ (HK2.o.stay HBX.o)
   have HBc:=AQ (HB2.o.trans (HBX.o.mono HB2.o.size))
   clear HI2 HJ2 HM2 HN2 HK2 HR2 HB2 HBX
   have HO0:Hid (aZ cb 1 5 wc.heap.size (wc.alloc (.cells #[] 5)) (some ⟨wc.heap.size,0,none⟩) [] 0):=(mJ wc #[] 5 [] rfl AP).yu
   have HV0:Hid (Vec cb 1 (wc.alloc (.cells #[] 5)) a1 X c1):=QA (HRX.o.stay ((Below.refl _ _).alloc (Nat.le_refl _) _))
   have HL0:Hid (([]:List UInt8).length+X.length≤1000000000):=by have:=HXL.o;rw[Hid,List.length_nil];omega
   have HS0:Hid (wc.heap.size≤(wc.alloc (.cells #[] 5)).heap.size):=by rw[Hid,World.size_alloc];omega
   have HBa:Hid (Below wc.heap.size wc (wc.alloc (.cells #[] 5))):=(Below.refl _ _).alloc (Nat.le_refl _) _
   go_upto_region 11 with (first |((with_reducible refine pK (o:=⟨some 58, .call _,_,_,_,_⟩) XU CJ Gm (.tmp 56) (.tmp 57) AA AA HO0.o HV0.o HL0.o HS0.o AA (by rw[←hn.o];with_unfolding_all rfl) ?_);intro a6 k6 w6 hO3 hg3;rw[List.nil_append];rw[List.nil_append] at hO3;rw[←hn.o];have HO3:=AQ (And.intro hO3.own (HBa.o.trans (HO0.o.grown hg3 HS0.o)));clear hO3 hg3))
   have HY6:=AQ HO3.o.1.isRow
   have HR6:=AQ (HRX.o.stay HO3.o.2)
   have HI6:=AQ (HIc.o.keep HO3.o.2)
   have HM6:=AQ (HMc.o.stay HO3.o.2)
   have HK6:=AQ (HKc.o.stay HO3.o.2)
   have HB6:=AQ (HBc.o.trans (HO3.o.2.mono HBc.o.size))
   clear HIc HMc HKc HBc
   clear HO0 HV0 HL0 HS0 HBa HO3 HRX
   have hw:=HI6.o.whole
   rw[←hC.o] at hw
   have HL1:=AQ hw
   have hcp:=vS w6 M HM6.o HSS.o
   rw[←hC.o] at hcp
   have HCP:=AQ hcp
   clear hw hcp
   go_wp2_with (first |(with_reducible refine aN (o:=⟨some 59, .load 55 (.tmp 8),_,_,_,_⟩) AA AA AA HL1.o ?_))
   refine(HCP.o).mono ?_
   rintro e w7 ⟨S,rfl,hSm,hSF,hb7⟩
   obtain⟨CS,hCS⟩:=AU (cM S)
   have HCS:Hid (CS.size=69∧CS.all (·.oneCell')=true):=by rw[hCS.o];exact⟨eY hSF.p32 hSF.t32,eH _⟩
   rw[←hCS.o]
   obtain⟨ps,hps⟩:=AV (w7.heap.size)
   have HNW:=AQ (heap_alloc_new w7 (.cells Z 55))
   have HSM:=AQ hSm
   have HSF:=AQ hSF
   have HI7:=AQ (HI6.o.keep hb7)
   have HM7:=AQ (HM6.o.stay hb7)
   have HK7:=AQ (HK6.o.stay hb7)
   have HY7:=AQ (HY6.o.stay hb7)
   have HR7:=AQ (HR6.o.stay hb7)
   have HB7:=AQ (HB6.o.trans (hb7.mono HB6.o.size))
   clear HI6 HM6 HK6 HY6 HR6 HB6
   clear hSm hSF hb7 HCP HL1
   go_upto_region 12 with (first |((with_reducible refine aj (o:=⟨some 17, .alloc _,_,_,_,_⟩) AA (HAM.o _ _ _ _ _ _) ?_)) |((with_reducible refine au (o:=⟨none, .store _ (.tmp 17) (.tmp 60),_,_,_,_⟩) eU (.tmp 17) (.tmp 60) AA AA AA AA AA HNW.o HZS.o.1 HCS.o.1 HCS.o.2 ?_);intro w8 hbw8 hSw8;have HBw8:=AQ hbw8;have HSw8:=AQ hSw8;clear hbw8 hSw8))
   have HBS:Hid (Below w7.heap.size w7 w8):=by
    have h1:Below w7.heap.size w7 (w7.alloc (.cells Z 55)):=(Below.refl _ _).alloc (Nat.le_refl _) _
    exact h1.trans (HSw8.o.below AO (fun k hk=>by omega))
   have HP8:Hid (fE w8 ps S):=by rw[Hid,hps];exact⟨by rw[←hCS.o];exact HBw8.o,HSF.o.p32,HSF.o.t32⟩
   have HS8:Hid (S.At w8):=HSF.o.at.stay HBS.o
   have HSSS:Hid (bV S.cfg):=by
    have h1:S.cfg.cfg=M.cfg.cfg:=by rw[show S.cfg.cfg=S.man.cfg from rfl,HSM.o];rfl
    exact OB h1 HSS.o
   have HI8:=AQ (HI7.o.keep HBS.o)
   have HM8:=AQ (HM7.o.stay HBS.o)
   have HK8:=AQ (HK7.o.stay HBS.o)
   have HY8:=AQ (HY7.o.stay HBS.o)
   have HR8:=AQ (HR7.o.stay HBS.o)
   have HB8:=AQ (HB7.o.trans (HBS.o.mono HB7.o.size))
   clear HI7 HM7 HK7 HY7 HR7 HB7
   rw[←hps]
   clear HBw8 HSw8 HNW HBS HSF hps
   obtain⟨E,hE⟩:=AU (iP K M.man X)
   have hq:=oh w8 ak K ck HK8.o HNK.o S HS8.o HSSS.o a6 X k6 HY8.o
   rw[HSM.o,←hnK.o,←hn.o,←hCS.o,←hE.o] at hq
   have HQ:=AQ hq
   have hw:=HP8.o.whole
   rw[←hCS.o] at hw
   have HL1:=AQ hw
   clear hq hw
   go_wp2_with (first |(with_reducible refine aN (o:=⟨some 63, .load 55 (.tmp 17),_,_,_,_⟩) AA AA AA HL1.o ?_))
   refine(HQ.o).mono ?_
   rintro e w9 ⟨U,rfl,hUm,hUF,hb9'⟩
   obtain⟨CU,hCU⟩:=AU (cM U)
   have HCU:Hid (CU.size=69∧CU.all (·.oneCell')=true):=by rw[hCU.o];exact⟨eY hUF.p32 hUF.t32,eH _⟩
   rw[←hCU.o]
   obtain⟨pu,hpu⟩:=AV (w9.heap.size)
   have HNW:=AQ (heap_alloc_new w9 (.cells Z 55))
   have HUM:=AQ hUm
   have HUF:=AQ hUF
   have HI9:=AQ (HI8.o.keep hb9')
   have HP9:=AQ (HP8.o.keep hb9')
   have HM9:=AQ (HM8.o.stay hb9')
   have HS9:=AQ (HS8.o.stay hb9')
   have HK9:=AQ (HK8.o.stay hb9')
   have HY9:=AQ (HY8.o.stay hb9')
   have HR9:=AQ (HR8.o.stay hb9')
   have HB9:=AQ (HB8.o.trans (hb9'.mono HB8.o.size))
   clear HI8 HP8 HM8 HS8 HK8 HY8 HR8 HB8
   clear hUm hUF hb9' HQ HL1
   go_upto_region 13 with (first |((with_reducible refine aj (o:=⟨some 18, .alloc _,_,_,_,_⟩) AA (HAM.o _ _ _ _ _ _) ?_)) |((with_reducible refine au (o:=⟨none, .store _ (.tmp 18) (.tmp 66),_,_,_,_⟩) eU (.tmp 18) (.tmp 66) AA AA AA AA AA HNW.o HZS.o.1 HCU.o.1 HCU.o.2 ?_);intro we hbwe hSwe;have HBwe:=AQ hbwe;have HSwe:=AQ hSwe;clear hbwe hSwe))
   have HBS:Hid (Below w9.heap.size w9 we):=by
    have h1:Below w9.heap.size w9 (w9.alloc (.cells Z 55)):=(Below.refl _ _).alloc (Nat.le_refl _) _
    exact h1.trans (HSwe.o.below AO (fun k hk=>by omega))
   have HVe:Hid (fE we pu U):=by rw[Hid,hpu];exact⟨by rw[←hCU.o];exact HBwe.o,HUF.o.p32,HUF.o.t32⟩
   have HUe:Hid (U.At we):=HUF.o.at.stay HBS.o
   have HIe:=AQ (HI9.o.keep HBS.o)
   have HPe:=AQ (HP9.o.keep HBS.o)
   have HMe:=AQ (HM9.o.stay HBS.o)
   have HSe:=AQ (HS9.o.stay HBS.o)
   have HKe:=AQ (HK9.o.stay HBS.o)
   have HYe:=AQ (HY9.o.stay HBS.o)
   have HRe:=AQ (HR9.o.stay HBS.o)
   have HBe:=AQ (HB9.o.trans (HBS.o.mono HB9.o.size))
   clear HI9 HP9 HM9 HS9 HK9 HY9 HR9 HB9
   rw[←hpu]
   clear HBwe HSwe HNW HBS HUF hpu
   have hq:=Aj we ak K ck HKe.o HNK.o M HMe.o HSS.o a1 X c1 HRe.o
   rw[←hnK.o,←hn.o,←hC.o,←hE.o] at hq
   have HQ:=AQ hq
   have hw:=HIe.o.whole
   rw[←hC.o] at hw
   have HL1:=AQ hw
   clear hq hw
   go_wp2_with (first |(with_reducible refine aN (o:=⟨some 70, .load 55 (.tmp 8),_,_,_,_⟩) AA AA AA HL1.o ?_))
   refine(HQ.o).mono ?_
   rintro e wf ⟨Y,rfl,hYm,hYF,hbf⟩
   obtain⟨CY,hCY⟩:=AU (cM Y)
   have HCY:Hid (CY.size=69∧CY.all (·.oneCell')=true):=by rw[hCY.o];exact⟨eY hYF.p32 hYF.t32,eH _⟩
   rw[←hCY.o]
   obtain⟨py,hpy⟩:=AV (wf.heap.size)
   have HNW:=AQ (heap_alloc_new wf (.cells Z 55))
   have HYM:=AQ hYm
   have HYF:=AQ hYF
   have HIf:=AQ (HIe.o.keep hbf)
   have HPf:=AQ (HPe.o.keep hbf)
   have HVf:=AQ (HVe.o.keep hbf)
   have HMf:=AQ (HMe.o.stay hbf)
   have HSf:=AQ (HSe.o.stay hbf)
   have HUf:=AQ (HUe.o.stay hbf)
   have HYf:=AQ (HYe.o.stay hbf)
   have HRf:=AQ (HRe.o.stay hbf)
   have HBf:=AQ (HBe.o.trans (hbf.mono HBe.o.size))
   clear HIe HPe HVe HMe HSe HUe HYe HRe HBe
   clear hYm hYF hbf HQ HL1
   go_upto_region 14 with (first |((with_reducible refine aj (o:=⟨some 20, .alloc _,_,_,_,_⟩) AA (HAM.o _ _ _ _ _ _) ?_)) |((with_reducible refine au (o:=⟨none, .store _ (.tmp 20) (.tmp 73),_,_,_,_⟩) eU (.tmp 20) (.tmp 73) AA AA AA AA AA HNW.o HZS.o.1 HCY.o.1 HCY.o.2 ?_);intro wh hbwh hSwh;have HBwh:=AQ hbwh;have HSwh:=AQ hSwh;clear hbwh hSwh))
   have HBS:Hid (Below wf.heap.size wf wh):=by
    have h1:Below wf.heap.size wf (wf.alloc (.cells Z 55)):=(Below.refl _ _).alloc (Nat.le_refl _) _
    exact h1.trans (HSwh.o.below AO (fun k hk=>by omega))
   have HTh:Hid (fE wh py Y):=by rw[Hid,hpy];exact⟨by rw[←hCY.o];exact HBwh.o,HYF.o.p32,HYF.o.t32⟩
   have HZh:Hid (Y.At wh):=HYF.o.at.stay HBS.o
   have HIh:=AQ (HIf.o.keep HBS.o)
   have HPh:=AQ (HPf.o.keep HBS.o)
   have HVh:=AQ (HVf.o.keep HBS.o)
   have HMh:=AQ (HMf.o.stay HBS.o)
   have HSh:=AQ (HSf.o.stay HBS.o)
   have HUh:=AQ (HUf.o.stay HBS.o)
   have HYh:=AQ (HYf.o.stay HBS.o)
   have HRh:=AQ (HRf.o.stay HBS.o)
   have HBh:=AQ (HBf.o.trans (HBS.o.mono HBf.o.size))
   clear HIf HPf HVf HMf HSf HUf HYf HRf HBf
   rw[←hpy]
   clear HBwh HSwh HNW HBS HYF hpy
   have hsm:=uh wh U Y HUh.o HZh.o
   rw[decide_eq_true (show U.man=Y.man from HUM.o.trans HYM.o.symm),←hCU.o,←hCY.o] at hsm
   have HSA:=AQ hsm
   have hw1:=HVh.o.whole
   rw[←hCU.o] at hw1
   have HLA:=AQ hw1
   have hw2:=HTh.o.whole
   rw[←hCY.o] at hw2
   have HLB:=AQ hw2
   clear hsm hw1 hw2
   go_wp2_with (first |((with_reducible refine iL (o:=⟨some 79, .load _ _,_,_,_,_⟩) AA (qZ (x:= .tmp 18) AA AA HLA.o) ?_)) |((with_reducible refine iL (o:=⟨some 80, .load _ _,_,_,_,_⟩) AA (qZ (x:= .tmp 20) AA AA HLB.o) ?_)))
   refine(HSA.o).mono ?_
   rintro e wi ⟨rfl,hbi⟩
   have HIi:=AQ (HIh.o.keep hbi)
   have HPi:=AQ (HPh.o.keep hbi)
   have HMi:=AQ (HMh.o.stay hbi)
   have HSi:=AQ (HSh.o.stay hbi)
   have HYi:=AQ (HYh.o.stay hbi)
   have HRi:=AQ (HRh.o.stay hbi)
   have HBi:=AQ (HBh.o.trans (hbi.mono HBh.o.size))
   clear HIh HPh HMh HSh HYh HRh HBh
   have hsm:=uh wi S M HSi.o HMi.o
   rw[decide_eq_true (show S.man=M.man from HSM.o),←hCS.o,←hC.o] at hsm
   have HSB:=AQ hsm
   have hw1:=HPi.o.whole
   rw[←hCS.o] at hw1
   have HLC:=AQ hw1
   have hw2:=HIi.o.whole
   rw[←hC.o] at hw2
   have HLD:=AQ hw2
   clear hsm hw1 hw2 hbi HSA HLA HLB HVh HTh HUh HZh HIi HPi HMi HSi
   go_wp2_with (first |((with_reducible refine iL (o:=⟨some 85, .convert _ _ _,_,_,_,_⟩) AA (EI (x:= .tmp 84) AA AA hn.o.symm HYi.o) ?_)) |((with_reducible refine iL (o:=⟨some 87, .convert _ _ _,_,_,_,_⟩) AA (EI (x:= .tmp 86) AA AA hn.o.symm HRi.o) ?_)) |((with_reducible refine iL (o:=⟨some 91, .load _ _,_,_,_,_⟩) AA (qZ (x:= .tmp 17) AA AA HLC.o) ?_)) |((with_reducible refine iL (o:=⟨some 92, .load _ _,_,_,_,_⟩) AA (qZ (x:= .tmp 8) AA AA HLD.o) ?_)))
   refine(HSB.o).mono ?_
   rintro e wj ⟨rfl,hbj⟩
   have HBj:=AQ (HBi.o.trans (hbj.mono HBi.o.size))
   clear hbj HSB HLC HLD HBi HYi HRi
   go_wp2_with fail
   refine(EF wj).mono ?_
   rintro e wq ⟨rfl,hbq⟩
   go_wp2_with fail
   go_ret
   exact⟨rfl,HBj.o.trans (hbq.mono HBj.o.size)⟩
end Go.Proofs.YtlholdllibghbaaGreat
