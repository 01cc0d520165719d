/- ManifestSeals: the walk of the law. -/
import Derived.Test.YtlholdllibghbaaGreatAwk14
import Derived.Test.YtlholdllibghbaaGreatManChk
import Derived.Test.YtlholdllibghbaaGreatG21
import Derived.Test.YtlholdllibghbaaGreatManArg
import Derived.Test.YtlholdllibghbaaGreatG13
import Derived.Test.YtlholdllibghbaaGreatG16
import Derived.Test.YtlholdllibghbaaGreatKit
set_option maxRecDepth 100000
set_option maxHeartbeats 8000000
namespace Go.Proofs.YtlholdllibghbaaGreat
open Go Go.RowKit Go.Cit
def Ua (K:mO) (v:Value) (w:World):Prop:=∃V:aW,v= .agg (cM V)∧V.man=K∧V.At w
theorem Nh {K:mO} {v:Value} {w1 w2:World} (hb:Below w1.heap.size w1 w2) (h:Ua K v w1):Ua K v w2:=by
 obtain⟨V,h1,h2,h3⟩:=h;exact⟨V,h1,h2,h3.stay hb⟩
def FX:jZ:=⟨2,fun j=>6+j,fun j=>8+j,fun j=>10+j,fun _=>55,fun _=>cM zM⟩
def Ug (CT:Array Value) (B:Nat) (K:mO) (j:Nat) (C:Array Value) (w:World):Prop:=if j=0 then tS B K C w else C=CT
def TY (CS C0 CT:Array Value) (ak:Option Addr) (nK ck B:Nat) (K:mO):Nat→Value→World→Prop
 | 32=>fun v _=>v= .slice ak nK ck
 | 33=>fun v _=>v= .agg CS
 | 34=>fun v w=>∃C,v= .agg C∧tS B K C w
 | 35=>fun v _=>v= .slice ak nK ck
 | 36=>fun v _=>v= .agg C0
 | 37=>fun v _=>v= .agg CT
 | _=>fun _ _=>True
theorem Qw {B:Nat} {K:mO} {C:Array Value} {W w1 w2:World} (hG:JV FX W w1 w2) (h:tS B K C w1):tS B K C w2:=by
 obtain⟨S,h1,h2,h3⟩:=h
 refine⟨S,h1,h2,h3.p32,h3.t32, ?_⟩
 rcases hG with hb |⟨g,j,D,_,_,hg,hs⟩
 ·exact h3.cfg.stay hb
 ·exact h3.cfg.KI hs hg
theorem Rl {CT:Array Value} {B:Nat} {K:mO} {j:Nat} {C:Array Value} {W w1 w2:World} (hG:JV FX W w1 w2) (h:Ug CT B K j C w1):Ug CT B K j C w2:=by
 unfold Ug at h ⊢
 split
 ·rename_i e;rw[if_pos e] at h;exact Qw hG h
 ·rename_i e;rw[if_neg e] at h;exact h
theorem Q8 {CS C0 CT:Array Value} {ak:Option Addr} {nK ck B:Nat} {K:mO} {d:Nat} {v:Value} {W w1 w2:World} (hG:JV FX W w1 w2) (h:TY CS C0 CT ak nK ck B K d v w1):TY CS C0 CT ak nK ck B K d v w2:=by
 unfold TY at h ⊢
 split at h
 ·exact h
 ·exact h
 ·obtain⟨C,e,hC⟩:=h
  exact⟨C,e,Qw hG hC⟩
 ·exact h
 ·exact h
 ·exact h
 ·trivial
theorem L9 {n d:Nat} (hn:n<6) (hd:32≤d):∀j,j<FX.nb→n≠FX.ia j∧n≠FX.G5 j∧(some d:Option Nat)≠some (FX.d j):=fun j hj=>by
 have hj:j<2:=hj
 refine⟨by show n≠6+j;omega,by show n≠8+j;omega,fun e=> ?_⟩
 have e:d=10+j:=Option.some.inj e
 omega
def ms1 (B:Nat) (M N:aW) (ak ao:Option Addr) (nK nO ck co:Nat) (g gn b2 b3:Bool):Nat→Value
 | 12=>(.pointer (some ⟨B,34,none⟩))
 | 13=>(.agg #[.slice M.cfg.wa M.cfg.ws.length M.cfg.wc, .slice M.cfg.pa M.cfg.ps.length M.cfg.pc, .slice M.cfg.ca M.cfg.cs.length M.cfg.cc])
 | 14=>(.bool g)
 | 15=>(.bool g)
 | 16=>(bif (!g) then (.pointer (some ⟨(B+1),34,none⟩)) else undef)
 | 17=>(bif (!g) then (.agg #[.slice N.cfg.wa N.cfg.ws.length N.cfg.wc, .slice N.cfg.pa N.cfg.ps.length N.cfg.pc, .slice N.cfg.ca N.cfg.cs.length N.cfg.cc]) else undef)
 | 18=>(bif (!g) then (.bool gn) else undef)
 | 19=>(.bool (g || gn))
 | 20=>(.bool (g || gn))
 | 21=>(bif (!(g || gn)) then (.slice ak nK ck) else undef)
 | 22=>(bif (!(g || gn)) then (.int .i64 (nK:Int)) else undef)
 | 23=>(bif (!(g || gn)) then (.bool b2) else undef)
 | 24=>(.bool ((g || gn) || b2))
 | 25=>(.bool ((g || gn) || b2))
 | 26=>(bif (!((g || gn) || b2)) then (.slice ao nO co) else undef)
 | 27=>(bif (!((g || gn) || b2)) then (.int .i64 (nO:Int)) else undef)
 | 28=>(bif (!((g || gn) || b2)) then (.bool b3) else undef)
 | 29=>(.bool (((g || gn) || b2) || b3))
 | _=>undef
def UW (B:Nat) (_ _:aW) (ak ao:Option Addr) (nK nO ck co:Nat) (_ _ _ _:Bool):Nat→Value
 | 0=>(.slice ak nK ck)
 | 1=>(.slice ao nO co)
 | 6=>(.pointer (some ⟨B,0,none⟩))
 | 7=>(.pointer (some ⟨(B+1),0,none⟩))
 | _=>undef
def Vx (_ _ _ _:Nat) (C CS CQ CT:Array Value) (ak ao:Option Addr) (nK nO ck co:Nat) (r1 r3:Bool):Nat→Value
 | 38=>(.agg CQ)
 | 39=>(.agg CT)
 | 40=>(.bool true)
 | 41=>(.bool (!true))
 | 42=>(.bool (!true))
 | 43=>(bif (!(!true)) then (.slice ao nO co) else undef)
 | 44=>(bif (!(!true)) then (.agg CQ) else undef)
 | 45=>(bif (!(!true)) then (.bool r1) else undef)
 | 46=>(bif (!(!true)) then (.slice ao nO co) else undef)
 | 47=>(bif (!(!true)) then (.agg CT) else undef)
 | 48=>(bif (!(!true)) then (.bool r1) else undef)
 | 49=>(bif (!(!true)) then (.bool false) else undef)
 | 50=>(.bool ((!true) || false))
 | 51=>(.bool ((!true) || false))
 | 52=>(bif (!((!true) || false)) then (.slice ak nK ck) else undef)
 | 53=>(bif (!((!true) || false)) then (.agg CS) else undef)
 | 54=>(bif (!((!true) || false)) then (.bool r3) else undef)
 | 55=>(bif (!((!true) || false)) then (.slice ak nK ck) else undef)
 | 56=>(bif (!((!true) || false)) then (.agg C) else undef)
 | 57=>(bif (!((!true) || false)) then (.bool r3) else undef)
 | 58=>(bif (!((!true) || false)) then (.bool false) else undef)
 | 59=>(.bool (((!true) || false) || false))
 | _=>undef
def U2 (B p10 p11 ps:Nat) (_ _ _ _:Array Value) (ak ao:Option Addr) (nK nO ck co:Nat) (_ _:Bool):Nat→Value
 | 0=>(.slice ak nK ck)
 | 1=>(.slice ao nO co)
 | 6=>(.pointer (some ⟨B,0,none⟩))
 | 9=>(.pointer (some ⟨ps,0,none⟩))
 | 10=>(.pointer (some ⟨p10,0,none⟩))
 | 11=>(.pointer (some ⟨p11,0,none⟩))
 | _=>undef
def TV (_ _:Nat) (C CS D:Array Value) (K:mO) (s1:Bool):Nat→Value→World→Prop
 | 60=>fun v _=>v=(.agg CS)
 | 61=>fun v _=>v=(.agg D)
 | 62=>fun v _=>v=(.bool s1)
 | 63=>fun v _=>v=(.agg C)
 | 64=>fun v _=>v=(.agg D)
 | 65=>fun v _=>v=(.bool s1)
 | 66=>fun v _=>v=(.bool true)
 | 67=>fun v _=>v=(.bool true)
 | 68=>fun v _=>v=(.agg CS)
 | 69=>fun v _=>v=(.agg C)
 | 70=>(Ua K)
 | 71=>fun v _=>v=(.bool true)
 | 72=>fun v _=>v=(.bool true)
 | 73=>fun v _=>v=(.bool true)
 | 74=>fun v _=>v=(.agg CS)
 | 75=>fun v _=>v=(.agg C)
 | 76=>fun v _=>v=(.bool true)
 | 77=>fun v _=>v=(.bool true)
 | 78=>fun v _=>v=(.bool true)
 | 79=>fun v _=>v=(.bool true)
 | 80=>fun v _=>v=(.bool true)
 | 8=>fun v _=>v=(.bool true)
 | _=>fun _ _=>True
theorem NI (B ps:Nat) (C CS D:Array Value) (K:mO) (s1:Bool):∀d v w1 w2,Below w1.heap.size w1 w2→TV B ps C CS D K s1 d v w1→TV B ps C CS D K s1 d v w2:=by
 intro d v w1 w2 hb h
 unfold TV at h ⊢
 split at h<;>first |exact h |exact Nh hb h |trivial
theorem vK (w:World) (ak:Option Addr) (K:List UInt8) (ck:Nat) (ao:Option Addr) (O:List UInt8) (co:Nat) (M N:aW) (hr2:Row w ak K ck) (hro:Row w ao O co) (h:M.At w) (hb:∀x∈M.cfg.ps,x.img.length≤140737488351232) (h':N.At w) (hb':∀x∈N.cfg.ps,x.img.length≤140737488351232):Calls Tryz.prog 6 #[.slice ak K.length ck, .slice ao O.length co, .agg (cM M), .agg (cM N)] w fun e w'=>e= .returned (.bool true)∧Below w.heap.size w w':=by
 have HAM:=AQ (fun ρ d ty ps af w=>eP ρ d ty ps (af:=af) w)
 obtain⟨Z,hZ⟩:=AU (cM zM)
 rw[←hZ.o] at HAM
 have HZS:Hid (Z.size=69∧Z.all (·.oneCell')=true):=by rw[hZ.o];exact⟨fO rfl rfl,fJ _⟩
 obtain⟨C,hC⟩:=AU (cM M)
 obtain⟨D,hD⟩:=AU (cM N)
 obtain⟨w0,hw0⟩:=AV ((w.alloc (.cells C 55)).alloc (.cells D 55))
 have B1:Below (w.alloc (.cells C 55)).heap.size (w.alloc (.cells C 55)) w0:=by rw[hw0];exact(Below.refl _ _).alloc (Nat.le_refl _) _
 have Ba:Below w.heap.size w (w.alloc (.cells C 55)):=(Below.refl _ w).alloc (Nat.le_refl _) _
 have B0:Below w.heap.size w w0:=Ba.trans (B1.mono AO)
 have HI:Hid (dR w0 w.heap.size M∧dR w0 (w.heap.size+1) N):=by
  refine⟨?_, ?_⟩
  ·rw[hC.o] at B1;exact(dR.new w h).keep B1
  ·have:=dR.new (w.alloc (.cells C 55)) (h'.stay Ba)
   rw[hw0,hD.o]
   simpa using this
 have HB0:=AQ B0
 have HM:=AQ (h.stay B0)
 have HN:=AQ (h'.stay B0)
 have HK:=AQ (hr2.stay B0)
 have HO:=AQ (hro.stay B0)
 obtain⟨nK,hnK⟩:=AU K.length
 obtain⟨nO,hnO⟩:=AU O.length
 obtain⟨g,hg⟩:=AU (qR M.cfg)
 obtain⟨gn,hgn⟩:=AU (qR N.cfg)
 obtain⟨b2,hb2⟩:=AU (decide ((nK:Int)>200))
 obtain⟨b3,hb3⟩:=AU (decide ((nO:Int)>200))
 obtain⟨R1,hR1⟩:=AU ((((g || gn) || b2) || b3))
 have HR1:=hR1
 have H2:Hid (decide ((200:Int)<nK)=b2):=by rw[Hid,hb2.o]
 have H3:Hid (decide ((200:Int)<nO)=b3):=by rw[Hid,hb3.o]
 have HG:Hid (∀q:After w0,Calls Tryz.prog 8 #[.agg #[.slice M.cfg.wa M.cfg.ws.length M.cfg.wc, .slice M.cfg.pa M.cfg.ps.length M.cfg.pc, .slice M.cfg.ca M.cfg.cs.length M.cfg.cc]] q.to fun e w'=>e= .returned (.bool g)∧Below q.to.heap.size q.to w'):=fun q=>by rw[hg.o];exact uM q.to M.cfg ((h.stay B0).stay q.bel).cfg hb
 have HG2:Hid (∀q:After w0,Calls Tryz.prog 8 #[.agg #[.slice N.cfg.wa N.cfg.ws.length N.cfg.wc, .slice N.cfg.pa N.cfg.ps.length N.cfg.pc, .slice N.cfg.ca N.cfg.cs.length N.cfg.cc]] q.to fun e w'=>e= .returned (.bool gn)∧Below q.to.heap.size q.to w'):=fun q=>by rw[hgn.o];exact uM q.to N.cfg ((h'.stay B0).stay q.bel).cfg hb'
 rw[←hC.o,←hD.o,←hnK.o,←hnO.o]
 clear h h' B0 B1 Ba hr2 hro
 go_enter Tryz.func6,Tryz.ntmps6
 go_upto_region 1 with fail
 rw[←hw0]
 clear hw0
 refine dY (ms1 w.heap.size M N ak ao nK nO ck co g gn b2 b3) (UW w.heap.size M N ak ao nK nO ck co g gn b2 b3) [0,1,6,7] AB ⟨rfl,rfl,rfl,rfl,trivial⟩ ?_ ?_
 ·repeat' (first |exact aO |refine aI ?_ ?_)
  all_goals intro a hk
  ·
   exact .inl ⟨ah rfl,bM (.tmp 6) rfl (hk.o 6) (v:=(.pointer (some ⟨w.heap.size,34,none⟩))) (fun w=>AB) rfl⟩
  ·
   exact .inl ⟨ah rfl,aX (.tmp 12) rfl (hk.s 12) (v:=(.agg #[.slice M.cfg.wa M.cfg.ws.length M.cfg.wc, .slice M.cfg.pa M.cfg.ps.length M.cfg.pc, .slice M.cfg.ca M.cfg.cs.length M.cfg.cc])) (fun q=>(HI.o.1.keep q.bel).EM) rfl⟩
  ·
   exact .inl ⟨ah rfl,gu rfl rfl #[(.agg #[.slice M.cfg.wa M.cfg.ws.length M.cfg.wc, .slice M.cfg.pa M.cfg.ps.length M.cfg.pc, .slice M.cfg.ca M.cfg.cs.length M.cfg.cc])] (fun w=>AB) (by simp only[List.map_toArray,List.map_cons,List.map_nil,(show a.eval (.tmp 13)=(.agg #[.slice M.cfg.wa M.cfg.ws.length M.cfg.wc, .slice M.cfg.pa M.cfg.ps.length M.cfg.pc, .slice M.cfg.ca M.cfg.cs.length M.cfg.cc]) from hk.s 13)]) (v:=(.bool g)) (fun q=>HG.o q) rfl⟩
  ·
   exact .inl ⟨ah rfl,aZ (.tmp 14) rfl (hk.s 14)⟩
  ·
   cases g<;>first |exact hk.no 15 false |skip
   exact .inl ⟨hk.yes 15 false,bM (.tmp 7) rfl (hk.o 7) (v:=(.pointer (some ⟨(w.heap.size+1),34,none⟩))) (fun w=>AB) rfl⟩
  ·
   cases g<;>first |exact hk.no 15 false |skip
   exact .inl ⟨hk.yes 15 false,aX (.tmp 16) rfl (hk.s 16) (v:=(.agg #[.slice N.cfg.wa N.cfg.ws.length N.cfg.wc, .slice N.cfg.pa N.cfg.ps.length N.cfg.pc, .slice N.cfg.ca N.cfg.cs.length N.cfg.cc])) (fun q=>(HI.o.2.keep q.bel).EM) rfl⟩
  ·
   cases g<;>first |exact hk.no 15 false |skip
   exact .inl ⟨hk.yes 15 false,gu rfl rfl #[(.agg #[.slice N.cfg.wa N.cfg.ws.length N.cfg.wc, .slice N.cfg.pa N.cfg.ps.length N.cfg.pc, .slice N.cfg.ca N.cfg.cs.length N.cfg.cc])] (fun w=>AB) (by simp only[List.map_toArray,List.map_cons,List.map_nil,(show a.eval (.tmp 17)=(.agg #[.slice N.cfg.wa N.cfg.ws.length N.cfg.wc, .slice N.cfg.pa N.cfg.ps.length N.cfg.pc, .slice N.cfg.ca N.cfg.cs.length N.cfg.cc]) from hk.s 17)]) (v:=(.bool gn)) (fun q=>HG2.o q) rfl⟩
  ·
   cases g with
   |
    true=>
    exact .inl ⟨ah rfl,aH rfl true (hk.s 15) rfl⟩
   |
    false=>
    exact .inl ⟨ah rfl,aH rfl false (hk.s 15) (hk.s 18)⟩
  ·
   exact .inl ⟨ah rfl,aZ (.tmp 19) rfl (hk.s 19)⟩
  ·
   cases g<;>cases gn<;>first |exact hk.no 20 false |skip
   exact .inl ⟨hk.yes 20 false,aZ (.tmp 0) rfl (hk.o 0)⟩
  ·
   cases g<;>cases gn<;>first |exact hk.no 20 false |skip
   exact .inl ⟨hk.yes 20 false,q_len rfl AB (hk.s 21) rfl⟩
  ·
   cases g<;>cases gn<;>first |exact hk.no 20 false |skip
   exact .inl ⟨hk.yes 20 false,iq rfl (hk.s 22) rfl (v:= .bool (decide ((200:Int)<(nK:Int)))) (fun w=>AB) (congrArg Value.bool (H2.o))⟩
  ·
   cases g with
   |
    true=>
    exact .inl ⟨ah rfl,aH rfl true (hk.s 20) rfl⟩
   |
    false=>
    cases gn with
    |
     true=>
     exact .inl ⟨ah rfl,aH rfl true (hk.s 20) rfl⟩
    |
     false=>
     exact .inl ⟨ah rfl,aH rfl false (hk.s 20) (hk.s 23)⟩
  ·
   exact .inl ⟨ah rfl,aZ (.tmp 24) rfl (hk.s 24)⟩
  ·
   cases g<;>cases gn<;>cases b2<;>first |exact hk.no 25 false |skip
   exact .inl ⟨hk.yes 25 false,aZ (.tmp 1) rfl (hk.o 1)⟩
  ·
   cases g<;>cases gn<;>cases b2<;>first |exact hk.no 25 false |skip
   exact .inl ⟨hk.yes 25 false,q_len rfl AB (hk.s 26) rfl⟩
  ·
   cases g<;>cases gn<;>cases b2<;>first |exact hk.no 25 false |skip
   exact .inl ⟨hk.yes 25 false,iq rfl (hk.s 27) rfl (v:= .bool (decide ((200:Int)<(nO:Int)))) (fun w=>AB) (congrArg Value.bool (H3.o))⟩
  ·
   cases g with
   |
    true=>
    exact .inl ⟨ah rfl,aH rfl true (hk.s 25) rfl⟩
   |
    false=>
    cases gn with
    |
     true=>
     exact .inl ⟨ah rfl,aH rfl true (hk.s 25) rfl⟩
    |
     false=>
     cases b2 with
     |
      true=>
      exact .inl ⟨ah rfl,aH rfl true (hk.s 25) rfl⟩
     |
      false=>
      exact .inl ⟨ah rfl,aH rfl false (hk.s 25) (hk.s 28)⟩
 intro a ⟨w1,hb1⟩ hsame hall
 have he:=bK hsame [12,13,14,15,16,17,18,19,20,21,22,23,24,25,26,27,28,29] AB
 simp only[List.foldl_cons,List.foldl_nil] at he
 rw[show a.eval (.tmp 29)=(.bool R1) from(hall 29 AB).trans (congrArg Value.bool HR1.o.symm)] at he
 generalize a.eval (.tmp 12)=x12 at he
 generalize a.eval (.tmp 13)=x13 at he
 generalize a.eval (.tmp 14)=x14 at he
 generalize a.eval (.tmp 15)=x15 at he
 generalize a.eval (.tmp 16)=x16 at he
 generalize a.eval (.tmp 17)=x17 at he
 generalize a.eval (.tmp 18)=x18 at he
 generalize a.eval (.tmp 19)=x19 at he
 generalize a.eval (.tmp 20)=x20 at he
 generalize a.eval (.tmp 21)=x21 at he
 generalize a.eval (.tmp 22)=x22 at he
 generalize a.eval (.tmp 23)=x23 at he
 generalize a.eval (.tmp 24)=x24 at he
 generalize a.eval (.tmp 25)=x25 at he
 generalize a.eval (.tmp 26)=x26 at he
 generalize a.eval (.tmp 27)=x27 at he
 generalize a.eval (.tmp 28)=x28 at he
 simp only[dQ] at he
 dsimp only[List.set_cons_zero,List.set_cons_succ] at he
 subst he
 clear hsame hall
 cases R1 with
 |
  true=>
  go_wp2_with fail
  go_ret
  exact⟨rfl,HB0.o.trans (hb1.mono HB0.o.size)⟩
 |
  false=>
  dsimp only
  have hf:=hR1.o
  have HGF:Hid (g=false∧b2=false∧b3=false):=by cases g<;>cases gn<;>cases b2<;>cases b3<;>first |exact⟨rfl,rfl,rfl⟩ |exact absurd hf AP
  clear hf
  have HSS:Hid (bP M.cfg):=O8 (hg.o.symm.trans HGF.o.1)
  have HNK:Hid (K.length≤100000):=by
   have h1:=hb2.o
   rw[HGF.o.2.1] at h1
   have:=of_decide_eq_false h1.symm
   have:=hnK.o
   rw[Hid];omega
  have HNO:Hid (O.length≤100000):=by
   have h1:=hb3.o
   rw[HGF.o.2.2] at h1
   have:=of_decide_eq_false h1.symm
   have:=hnO.o
   rw[Hid];omega
  have HM1:=AQ (HM.o.stay hb1)
  have HN1:=AQ (HN.o.stay hb1)
  have HI1:Hid (dR w1 w.heap.size M∧dR w1 (w.heap.size+1) N):=⟨HI.o.1.keep hb1,HI.o.2.keep hb1⟩
  have HK1:=AQ (HK.o.stay hb1)
  have HO1:=AQ (HO.o.stay hb1)
  have HB1:=AQ (HB0.o.trans (hb1.mono HB0.o.size))
  clear hb1 HG HG2 HI HK HO HM HN HB0
  have hw:=HI1.o.1.whole
  rw[←hC.o] at hw
  have HL1:=AQ hw
  have hcp:=nY w1 M HM1.o HSS.o
  rw[←hC.o] at hcp
  have HCP:=AQ hcp
  clear hw hcp
  go_wp2_with (first |(with_reducible refine aK (o:=⟨some 30, .load 55 (.tmp 6),_,_,_,_⟩) AA AA AA HL1.o ?_))
  refine(HCP.o).mono ?_
  rintro e wb ⟨S,rfl,hSm,hSF,hbb⟩
  obtain⟨CS,hCS⟩:=AU (cM S)
  have HCS:Hid (CS.size=69∧CS.all (·.oneCell')=true):=by rw[hCS.o];exact⟨fO hSF.p32 hSF.t32,fJ _⟩
  rw[←hCS.o]
  obtain⟨ps,hps⟩:=AV (wb.heap.size)
  have HNW:=AQ (heap_alloc_new wb (.cells Z 55))
  have HIb:Hid (dR wb w.heap.size M∧dR wb (w.heap.size+1) N):=⟨HI1.o.1.keep hbb,HI1.o.2.keep hbb⟩
  have HMb:=AQ (HM1.o.stay hbb)
  have HNb:=AQ (HN1.o.stay hbb)
  have HKb:=AQ (HK1.o.stay hbb)
  have HOb:=AQ (HO1.o.stay hbb)
  have HBb:=AQ (HB1.o.trans (hbb.mono HB1.o.size))
  have HSM:=AQ hSm
  have HSF:=AQ hSF
  clear hSm hSF hbb HCP HL1 HI1 HM1 HN1 HK1 HO1 HB1
  go_upto_region 4 with (first |((with_reducible refine aj (o:=⟨some 9, .alloc _,_,_,_,_⟩) AA (HAM.o _ _ _ _ _ _) ?_)) |((with_reducible refine ay (o:=⟨none, .store _ (.tmp 9) (.tmp 31),_,_,_,_⟩) iE (.tmp 9) (.tmp 31) AA AA AA AA AA HNW.o HZS.o.1 HCS.o.1 HCS.o.2 ?_);intro wc hbwc hSwc;have HBwc:=AQ hbwc;have HSwc:=AQ hSwc;clear hbwc hSwc))
  have HBS:Hid (Below wb.heap.size wb wc):=by
   have h1:Below wb.heap.size wb (wb.alloc (.cells Z 55)):=(Below.refl _ _).alloc (Nat.le_refl _) _
   exact h1.trans (HSwc.o.below AO (fun k hk=>by omega))
  have HIS:Hid (dR wc ps S):=by rw[Hid,hps];exact⟨by rw[←hCS.o];exact HBwc.o,HSF.o.p32,HSF.o.t32⟩
  have HIc:Hid (dR wc w.heap.size M∧dR wc (w.heap.size+1) N):=⟨HIb.o.1.keep HBS.o,HIb.o.2.keep HBS.o⟩
  have HMc:=AQ (HMb.o.stay HBS.o)
  have HNc:=AQ (HNb.o.stay HBS.o)
  have HKc:=AQ (HKb.o.stay HBS.o)
  have HOc:=AQ (HOb.o.stay HBS.o)
  have HBc:=AQ (HBb.o.trans (HBS.o.mono HBb.o.size))
  have HSc:Hid (S.At wc):=HSF.o.at.stay HBS.o
  have HSSS:Hid (bP S.cfg):=by
   have h1:S.cfg.cfg=M.cfg.cfg:=by rw[show S.cfg.cfg=S.man.cfg from rfl,HSM.o];rfl
   exact LZ h1 HSS.o
  rw[←hps]
  clear HBwc HSwc HNW HBS HIb HMb HNb HKb HOb HBb HSF hps
  obtain⟨CT,hCT⟩:=AU (cM (ng K M))
  have HCT:Hid (CT.size=69∧CT.all (·.oneCell')=true):=by rw[hCT.o];exact⟨fO (nI HMc.o).p32 (nI (key:=K) HMc.o).t32,fJ _⟩
  refine lK FX (Ug CT wc.heap.size (jY K M.man)) (TY CS C CT ak nK ck wc.heap.size (jY K M.man)) AB AB AB (fun _ _ _ _ hG h=>Q8 hG h) (fun _ _ _ _ hG h=>Rl hG h) ?_ ?_ (fun j hj=>by
   have:j<2:=hj
   exact⟨by show 6+j<10;omega,by show 8+j<10;omega⟩)
  ·repeat' (first |exact aO |refine aI ?_ ?_)
   all_goals intro δ wa wx hk
   ·exact .inl ⟨ah rfl,L9 AP AP,dJ (.tmp 0) rfl ⟨Below.refl _ _,(hk.o 0).trans rfl⟩⟩
   ·exact .inl ⟨ah rfl,L9 AP AP,aS (.tmp 9) rfl ((hk.o 9).trans rfl) (v:= .agg CS) (by rw[hCS.o];exact(HIS.o.keep hk.inv.1).whole) ⟨Below.refl _ _,rfl⟩⟩
   ·exact .inl ⟨ah rfl,L9 AP AP,aT rfl (hk.fn _) #[.slice ak nK ck, .agg CS] (fun w=>AB) (by simp only[List.map_toArray,List.map_cons,List.map_nil,show wa.eval (.tmp 32)= .slice ak nK ck from hk.s 32,show wa.eval (.tmp 33)= .agg CS from hk.s 33]) (by
     rw[hCS.o,hnK.o]
     refine(qK wx ak K ck (HKc.o.stay hk.inv.1) HNK.o S (HSc.o.stay hk.inv.1) HSSS.o).mono ?_
     rintro e w' ⟨Q,he,hm,h32,ht32,hf,hb⟩
     exact⟨_,he,hb,cM Q,rfl,Q,rfl,hm.trans (by rw[HSM.o]),h32,ht32,hf.low hk.inv.1.size⟩)⟩
   ·exact .inl ⟨ah rfl,L9 AP AP,dJ (.tmp 0) rfl ⟨Below.refl _ _,(hk.o 0).trans rfl⟩⟩
   ·exact .inl ⟨ah rfl,L9 AP AP,aS (.tmp 6) rfl ((hk.o 6).trans rfl) (v:= .agg C) (by rw[hC.o];exact(HIc.o.1.keep hk.inv.1).whole) ⟨Below.refl _ _,rfl⟩⟩
   ·exact .inl ⟨ah rfl,L9 AP AP,aT rfl (hk.fn _) #[.slice ak nK ck, .agg C] (fun w=>AB) (by simp only[List.map_toArray,List.map_cons,List.map_nil,show wa.eval (.tmp 35)= .slice ak nK ck from hk.s 35,show wa.eval (.tmp 36)= .agg C from hk.s 36]) (by
     rw[hC.o,hnK.o]
     refine(qU wx ak K ck (HKc.o.stay hk.inv.1) HNK.o M (HMc.o.stay hk.inv.1)).mono ?_
     rintro e w' ⟨he,hb⟩
     exact⟨_,he,hb,congrArg Value.agg hCT.o.symm⟩)⟩
   ·exact .inr (.inl ⟨0,by decide,rfl,rfl,rfl,eP _ _ _ _ _,fun _ _=>trivial⟩)
   ·exact .inr (.inl ⟨1,by decide,rfl,rfl,rfl,eP _ _ _ _ _,fun _ _=>trivial⟩)
   ·obtain⟨CQ,e34,Q,hCQ,hm,hf⟩:=hk.s 34
    have h69:CQ.size=69:=by rw[hCQ];exact fO hf.p32 hf.t32
    exact .inr (.inr ⟨0,CQ,by decide,rfl,rfl,rfl,⟨Q,hCQ,hm,hf⟩,by rw[h69];rfl,fun g D hg hD hDs=>vC rfl hg e34 hD hDs h69 (by rw[hCQ];exact fJ _)⟩)
   ·exact .inr (.inr ⟨1,CT,by decide,rfl,rfl,rfl,rfl,by rw[HCT.o.1];rfl,fun g D hg hD hDs=>vC rfl hg (hk.s 37) hD hDs HCT.o.1 HCT.o.2⟩)
  intro a w4 hb4 hsame hall hbox
  obtain⟨p10,CQ',e10,hp10,hCQ',hX10, -⟩:=hbox 0 AP
  obtain⟨p11,CT',e11,hp11,hCT',hX11, -⟩:=hbox 1 AP
  obtain rfl:CT'=CT:=hX11
  obtain⟨Q,hQ,hmQ,hFQ⟩:tS wc.heap.size (jY K M.man) CQ' w4:=hX10
  have he:=bK hsame [32,33,34,35,36,37,10,11] AB
  simp only[List.foldl_cons,List.foldl_nil] at he
  rw[show a.eval (.tmp 10)=_ from e10,show a.eval (.tmp 11)=_ from e11] at he
  generalize a.eval (.tmp 32)=y32 at he
  generalize a.eval (.tmp 33)=y33 at he
  generalize a.eval (.tmp 34)=y34 at he
  generalize a.eval (.tmp 35)=y35 at he
  generalize a.eval (.tmp 36)=y36 at he
  generalize a.eval (.tmp 37)=y37 at he
  simp only[dQ] at he
  dsimp only[List.set_cons_zero,List.set_cons_succ] at he
  subst he
  have HIQ:Hid (dR w4 p10 Q):=by rw[hQ] at hCQ';exact⟨hCQ',hFQ.p32,hFQ.t32⟩
  have HIT:Hid (dR w4 p11 (ng K M)):=by rw[hCT.o] at hCT';exact⟨hCT',(nI HMc.o).p32,(nI (key:=K) HMc.o).t32⟩
  have HQA:Hid (Q.At w4):=hFQ.at
  have HQM:=AQ hmQ
  have HM4:=AQ (HMc.o.stay hb4)
  have HN4:=AQ (HNc.o.stay hb4)
  have HS4:=AQ (HSc.o.stay hb4)
  have HI4:Hid (dR w4 w.heap.size M∧dR w4 (w.heap.size+1) N):=⟨HIc.o.1.keep hb4,HIc.o.2.keep hb4⟩
  have HIS4:=AQ (HIS.o.keep hb4)
  have HK4:=AQ (HKc.o.stay hb4)
  have HO4:=AQ (HOc.o.stay hb4)
  have HB4:=AQ (HBc.o.trans (hb4.mono HBc.o.size))
  have HCQ:Hid (CQ'=cM Q):=hQ
  clear hsame hall hbox e10 e11 hp10 hp11 hCQ' hCT' hmQ hFQ hQ hb4 HIS HIc HMc HNc HSc HKc HOc HBc
  have LQ:Hid (∀q:After w4,(Instr.loadAt 55 (.pointer (some ⟨p10,0,none⟩))).run Tryz.prog q.to= .ok (.agg CQ') q.to):=fun q=>by rw[HCQ.o];exact(HIQ.o.keep q.bel).whole
  have LT:Hid (∀q:After w4,(Instr.loadAt 55 (.pointer (some ⟨p11,0,none⟩))).run Tryz.prog q.to= .ok (.agg CT') q.to):=fun q=>by rw[hCT.o];exact(HIT.o.keep q.bel).whole
  have LS:Hid (∀q:After w4,(Instr.loadAt 55 (.pointer (some ⟨ps,0,none⟩))).run Tryz.prog q.to= .ok (.agg CS) q.to):=fun q=>by rw[hCS.o];exact(HIS4.o.keep q.bel).whole
  have LC:Hid (∀q:After w4,(Instr.loadAt 55 (.pointer (some ⟨w.heap.size,0,none⟩))).run Tryz.prog q.to= .ok (.agg C) q.to):=fun q=>by rw[hC.o];exact(HI4.o.1.keep q.bel).whole
  have LD:Hid (∀q:After w4,(Instr.loadAt 55 (.pointer (some ⟨w.heap.size+1,0,none⟩))).run Tryz.prog q.to= .ok (.agg D) q.to):=fun q=>by rw[hD.o];exact(HI4.o.2.keep q.bel).whole
  obtain⟨r1,hr1⟩:=AU (nH O (jY K M.man))
  obtain⟨r3,hr3⟩:=AU (nH K M.man)
  have HS1:Hid (∀q:After w4,Calls Tryz.prog 23 #[.agg CQ', .agg CT'] q.to fun e w'=>e= .returned (.bool true)∧Below q.to.heap.size q.to w'):=fun q=>by
   have:=nG q.to Q (ng K M) (HQA.o.stay q.bel) (nI (HM4.o.stay q.bel))
   rw[decide_eq_true (show Q.man=(ng K M).man by rw[CV];exact HQM.o),←HCQ.o,←hCT.o] at this;exact this
  have HR1q:Hid (∀q:After w4,Calls Tryz.prog 29 #[.slice ao nO co, .agg CQ'] q.to fun e w'=>e= .returned (.bool r1)∧Below q.to.heap.size q.to w'):=fun q=>by
   have:=lZ q.to ao O co (HO4.o.stay q.bel) HNO.o Q (HQA.o.stay q.bel)
   rw[HQM.o,←hr1.o,←HCQ.o,←hnO.o] at this;exact this
  have HR2q:Hid (∀q:After w4,Calls Tryz.prog 30 #[.slice ao nO co, .agg CT'] q.to fun e w'=>e= .returned (.bool r1)∧Below q.to.heap.size q.to w'):=fun q=>by
   have:=pX q.to ao O co (HO4.o.stay q.bel) HNO.o (ng K M) (nI (HM4.o.stay q.bel))
   rw[CV,←hr1.o,←hCT.o,←hnO.o] at this;exact this
  have HR3q:Hid (∀q:After w4,Calls Tryz.prog 29 #[.slice ak nK ck, .agg CS] q.to fun e w'=>e= .returned (.bool r3)∧Below q.to.heap.size q.to w'):=fun q=>by
   have:=lZ q.to ak K ck (HK4.o.stay q.bel) HNK.o S (HS4.o.stay q.bel)
   rw[HSM.o,←hr3.o,←hCS.o,←hnK.o] at this;exact this
  have HR4q:Hid (∀q:After w4,Calls Tryz.prog 30 #[.slice ak nK ck, .agg C] q.to fun e w'=>e= .returned (.bool r3)∧Below q.to.heap.size q.to w'):=fun q=>by
   have:=pX q.to ak K ck (HK4.o.stay q.bel) HNK.o M (HM4.o.stay q.bel)
   rw[←hr3.o,←hC.o,←hnK.o] at this;exact this
  go_upto_region 5 with fail
  refine jd (Vx w.heap.size p10 p11 ps C CS CQ' CT' ak ao nK nO ck co r1 r3) (U2 w.heap.size p10 p11 ps C CS CQ' CT' ak ao nK nO ck co r1 r3) [0,1,6,9,10,11] AB AB AB ⟨rfl,rfl,rfl,rfl,rfl,rfl,trivial⟩ ?_ ?_
  ·repeat' (first |exact aO |refine aI ?_ ?_)
   all_goals intro a hk
   ·
    exact .inl ⟨ah rfl,aX (.tmp 10) rfl (hk.o 10) (v:=(.agg CQ')) (fun q=>LQ.o q) rfl⟩
   ·
    exact .inl ⟨ah rfl,aX (.tmp 11) rfl (hk.o 11) (v:=(.agg CT')) (fun q=>LT.o q) rfl⟩
   ·
    exact .inl ⟨ah rfl,gu rfl rfl #[(.agg CQ'),(.agg CT')] (fun w=>AB) (by simp only[List.map_toArray,List.map_cons,List.map_nil,(show a.eval (.tmp 38)=(.agg CQ') from hk.s 38),(show a.eval (.tmp 39)=(.agg CT') from hk.s 39)]) (v:=(.bool true)) (fun q=>HS1.o q) rfl⟩
   ·
    exact .inl ⟨ah rfl,EU rfl _ (hk.s 40) rfl⟩
   ·
    exact .inl ⟨ah rfl,aZ (.tmp 41) rfl (hk.s 41)⟩
   ·
    exact .inl ⟨hk.yes 42 false,aZ (.tmp 1) rfl (hk.o 1)⟩
   ·
    exact .inl ⟨hk.yes 42 false,aX (.tmp 10) rfl (hk.o 10) (v:=(.agg CQ')) (fun q=>LQ.o q) rfl⟩
   ·
    exact .inl ⟨hk.yes 42 false,gu rfl rfl #[(.slice ao nO co),(.agg CQ')] (fun w=>AB) (by simp only[List.map_toArray,List.map_cons,List.map_nil,(show a.eval (.tmp 43)=(.slice ao nO co) from hk.s 43),(show a.eval (.tmp 44)=(.agg CQ') from hk.s 44)]) (v:=(.bool r1)) (fun q=>HR1q.o q) rfl⟩
   ·
    exact .inl ⟨hk.yes 42 false,aZ (.tmp 1) rfl (hk.o 1)⟩
   ·
    exact .inl ⟨hk.yes 42 false,aX (.tmp 11) rfl (hk.o 11) (v:=(.agg CT')) (fun q=>LT.o q) rfl⟩
   ·
    exact .inl ⟨hk.yes 42 false,gu rfl rfl #[(.slice ao nO co),(.agg CT')] (fun w=>AB) (by simp only[List.map_toArray,List.map_cons,List.map_nil,(show a.eval (.tmp 46)=(.slice ao nO co) from hk.s 46),(show a.eval (.tmp 47)=(.agg CT') from hk.s 47)]) (v:=(.bool r1)) (fun q=>HR2q.o q) rfl⟩
   ·
    exact .inl ⟨hk.yes 42 false,iq rfl (hk.s 45) (hk.s 48) (v:=(.bool false)) (fun w=>by cases r1<;>kernel_rfl) rfl⟩
   ·
    exact .inl ⟨ah rfl,aH rfl false (hk.s 42) (hk.s 49)⟩
   ·
    exact .inl ⟨ah rfl,aZ (.tmp 50) rfl (hk.s 50)⟩
   ·
    exact .inl ⟨hk.yes 51 false,aZ (.tmp 0) rfl (hk.o 0)⟩
   ·
    exact .inl ⟨hk.yes 51 false,aX (.tmp 9) rfl (hk.o 9) (v:=(.agg CS)) (fun q=>LS.o q) rfl⟩
   ·
    exact .inl ⟨hk.yes 51 false,gu rfl rfl #[(.slice ak nK ck),(.agg CS)] (fun w=>AB) (by simp only[List.map_toArray,List.map_cons,List.map_nil,(show a.eval (.tmp 52)=(.slice ak nK ck) from hk.s 52),(show a.eval (.tmp 53)=(.agg CS) from hk.s 53)]) (v:=(.bool r3)) (fun q=>HR3q.o q) rfl⟩
   ·
    exact .inl ⟨hk.yes 51 false,aZ (.tmp 0) rfl (hk.o 0)⟩
   ·
    exact .inl ⟨hk.yes 51 false,aX (.tmp 6) rfl (hk.o 6) (v:=(.agg C)) (fun q=>LC.o q) rfl⟩
   ·
    exact .inl ⟨hk.yes 51 false,gu rfl rfl #[(.slice ak nK ck),(.agg C)] (fun w=>AB) (by simp only[List.map_toArray,List.map_cons,List.map_nil,(show a.eval (.tmp 55)=(.slice ak nK ck) from hk.s 55),(show a.eval (.tmp 56)=(.agg C) from hk.s 56)]) (v:=(.bool r3)) (fun q=>HR4q.o q) rfl⟩
   ·
    exact .inl ⟨hk.yes 51 false,iq rfl (hk.s 54) (hk.s 57) (v:=(.bool false)) (fun w=>by cases r3<;>kernel_rfl) rfl⟩
   ·
    exact .inl ⟨ah rfl,aH rfl false (hk.s 51) (hk.s 58)⟩
  intro a ⟨w5,hb5⟩ hsame hall
  have he:=bK hsame [38,39,40,41,42,43,44,45,46,47,48,49,50,51,52,53,54,55,56,57,58,59] AB
  simp only[List.foldl_cons,List.foldl_nil] at he
  rw[show a.eval (.tmp 59)=(.bool (((!true) || false) || false)) from hall 59 AB] at he
  generalize a.eval (.tmp 38)=x38 at he
  generalize a.eval (.tmp 39)=x39 at he
  generalize a.eval (.tmp 40)=x40 at he
  generalize a.eval (.tmp 41)=x41 at he
  generalize a.eval (.tmp 42)=x42 at he
  generalize a.eval (.tmp 43)=x43 at he
  generalize a.eval (.tmp 44)=x44 at he
  generalize a.eval (.tmp 45)=x45 at he
  generalize a.eval (.tmp 46)=x46 at he
  generalize a.eval (.tmp 47)=x47 at he
  generalize a.eval (.tmp 48)=x48 at he
  generalize a.eval (.tmp 49)=x49 at he
  generalize a.eval (.tmp 50)=x50 at he
  generalize a.eval (.tmp 51)=x51 at he
  generalize a.eval (.tmp 52)=x52 at he
  generalize a.eval (.tmp 53)=x53 at he
  generalize a.eval (.tmp 54)=x54 at he
  generalize a.eval (.tmp 55)=x55 at he
  generalize a.eval (.tmp 56)=x56 at he
  generalize a.eval (.tmp 57)=x57 at he
  generalize a.eval (.tmp 58)=x58 at he
  simp only[dQ] at he
  dsimp only[List.set_cons_zero,List.set_cons_succ] at he
  subst he
  clear hsame hall
  dsimp only
  have LC5:Hid (∀q:After w5,(Instr.loadAt 55 (.pointer (some ⟨w.heap.size,0,none⟩))).run Tryz.prog q.to= .ok (.agg C) q.to):=fun q=>LC.o ⟨q.to,hb5.trans (q.bel.mono hb5.size)⟩
  have LD5:Hid (∀q:After w5,(Instr.loadAt 55 (.pointer (some ⟨w.heap.size+1,0,none⟩))).run Tryz.prog q.to= .ok (.agg D) q.to):=fun q=>LD.o ⟨q.to,hb5.trans (q.bel.mono hb5.size)⟩
  have LS5:Hid (∀q:After w5,(Instr.loadAt 55 (.pointer (some ⟨ps,0,none⟩))).run Tryz.prog q.to= .ok (.agg CS) q.to):=fun q=>LS.o ⟨q.to,hb5.trans (q.bel.mono hb5.size)⟩
  have HM6:=AQ (HM4.o.stay hb5)
  have HN6:=AQ (HN4.o.stay hb5)
  have HS6:=AQ (HS4.o.stay hb5)
  have HB5:=AQ (HB4.o.trans (hb5.mono HB4.o.size))
  clear hb5 LQ LT LC LD LS HS1 HR1q HR2q HR3q HR4q HIQ HIT HQA HM4 HN4 HS4 HI4 HIS4 HK4 HO4 HB4
  obtain⟨s1,hs1⟩:=AU (decide (M.man=N.man))
  have HM1:Hid (∀q:After w5,Calls Tryz.prog 31 #[.agg CS, .agg D] q.to fun e w'=>e= .returned (.bool s1)∧Below q.to.heap.size q.to w'):=fun q=>by
   have:=wZ q.to S N (HS6.o.stay q.bel) (HN6.o.stay q.bel)
   rw[HSM.o,←hs1.o,←hCS.o,←hD.o] at this;exact this
  have HM2:Hid (∀q:After w5,Calls Tryz.prog 23 #[.agg C, .agg D] q.to fun e w'=>e= .returned (.bool s1)∧Below q.to.heap.size q.to w'):=fun q=>by
   have:=nG q.to M N (HM6.o.stay q.bel) (HN6.o.stay q.bel)
   rw[←hs1.o,←hC.o,←hD.o] at this;exact this
  have HM3:Hid (∀q:After w5,Calls Tryz.prog 14 #[.agg C] q.to fun e w'=>∃v,e= .returned v∧Below q.to.heap.size q.to w'∧Ua M.man v w'):=fun q=>by
   have:=nY q.to M (HM6.o.stay q.bel) HSS.o
   rw[←hC.o] at this
   exact this.mono fun e w' ⟨V,he,hm,hf,hb⟩=>⟨_,he,hb,V,rfl,hm,hf.at⟩
  have HM4:Hid (∀(q:After w5) (V:aW),V.man=M.man→V.At q.to→Calls Tryz.prog 31 #[.agg CS, .agg (cM V)] q.to fun e w'=>e= .returned (.bool true)∧Below q.to.heap.size q.to w'):=fun q V hV aV=>by
   have:=wZ q.to S V (HS6.o.stay q.bel) aV
   rw[decide_eq_true (show S.man=V.man from HSM.o.trans hV.symm),←hCS.o] at this;exact this
  have HM5:Hid (∀q:After w5,Calls Tryz.prog 23 #[.agg CS, .agg C] q.to fun e w'=>e= .returned (.bool true)∧Below q.to.heap.size q.to w'):=fun q=>by
   have:=nG q.to S M (HS6.o.stay q.bel) (HM6.o.stay q.bel)
   rw[decide_eq_true (show S.man=M.man from HSM.o),←hCS.o,←hC.o] at this;exact this
  go_upto_region 7 with fail
  refine Bl (TV w.heap.size ps C CS D M.man s1) AB AB (NI w.heap.size ps C CS D M.man s1) ?_ ?_
  ·repeat' (first |exact aO |refine aI ?_ ?_)
   all_goals intro a wx hk
   ·exact .inl ⟨ah rfl,aS (.tmp 9) rfl (show a.eval (.tmp 9)=(.pointer (some ⟨ps,0,none⟩)) from((hk.o 9).trans rfl)) (LS5.o ⟨wx,hk.below⟩) ⟨Below.refl _ _,rfl⟩⟩
   ·exact .inl ⟨ah rfl,aS (.tmp 7) rfl (show a.eval (.tmp 7)=(.pointer (some ⟨(w.heap.size+1),0,none⟩)) from((hk.o 7).trans rfl)) (LD5.o ⟨wx,hk.below⟩) ⟨Below.refl _ _,rfl⟩⟩
   ·exact .inl ⟨ah rfl,aT rfl (hk.fn _) #[.agg CS, .agg D] (fun w=>AB) (by simp only[List.map_toArray,List.map_cons,List.map_nil,(show a.eval (.tmp 60)=(.agg CS) from hk.s 60),(show a.eval (.tmp 61)=(.agg D) from hk.s 61)]) ((HM1.o ⟨wx,hk.below⟩).mono fun e w' ⟨he,hb⟩=>⟨_,he,hb,rfl⟩)⟩
   ·exact .inl ⟨ah rfl,aS (.tmp 6) rfl (show a.eval (.tmp 6)=(.pointer (some ⟨w.heap.size,0,none⟩)) from((hk.o 6).trans rfl)) (LC5.o ⟨wx,hk.below⟩) ⟨Below.refl _ _,rfl⟩⟩
   ·exact .inl ⟨ah rfl,aS (.tmp 7) rfl (show a.eval (.tmp 7)=(.pointer (some ⟨(w.heap.size+1),0,none⟩)) from((hk.o 7).trans rfl)) (LD5.o ⟨wx,hk.below⟩) ⟨Below.refl _ _,rfl⟩⟩
   ·exact .inl ⟨ah rfl,aT rfl (hk.fn _) #[.agg C, .agg D] (fun w=>AB) (by simp only[List.map_toArray,List.map_cons,List.map_nil,(show a.eval (.tmp 63)=(.agg C) from hk.s 63),(show a.eval (.tmp 64)=(.agg D) from hk.s 64)]) ((HM2.o ⟨wx,hk.below⟩).mono fun e w' ⟨he,hb⟩=>⟨_,he,hb,rfl⟩)⟩
   ·exact .inl ⟨ah rfl,wS rfl (hk.s 62) (hk.s 65) (v:= .bool true) (fun w=>by cases s1<;>kernel_rfl) ⟨Below.refl _ _,rfl⟩⟩
   ·exact .inl ⟨ah rfl,dJ (.tmp 66) rfl ⟨Below.refl _ _,hk.s 66⟩⟩
   ·exact .inl ⟨hk.yes 67 true,aS (.tmp 9) rfl (show a.eval (.tmp 9)=(.pointer (some ⟨ps,0,none⟩)) from((hk.o 9).trans rfl)) (LS5.o ⟨wx,hk.below⟩) ⟨Below.refl _ _,rfl⟩⟩
   ·exact .inl ⟨hk.yes 67 true,aS (.tmp 6) rfl (show a.eval (.tmp 6)=(.pointer (some ⟨w.heap.size,0,none⟩)) from((hk.o 6).trans rfl)) (LC5.o ⟨wx,hk.below⟩) ⟨Below.refl _ _,rfl⟩⟩
   ·exact .inl ⟨hk.yes 67 true,aT rfl (hk.fn _) #[.agg C] (fun w=>AB) (by simp only[List.map_toArray,List.map_cons,List.map_nil,(show a.eval (.tmp 69)=(.agg C) from hk.s 69)]) ((HM3.o ⟨wx,hk.below⟩).mono fun e w' ⟨v,he,hb,hv⟩=>⟨v,he,hb,hv⟩)⟩
   ·obtain⟨V_,eV_,hV_,aV_⟩:=hk.s 70
    exact .inl ⟨hk.yes 67 true,aT rfl (hk.fn _) #[.agg CS, .agg (cM V_)] (fun w=>AB) (by simp only[List.map_toArray,List.map_cons,List.map_nil,show a.eval (.tmp 68)=(.agg CS) from hk.s 68,show a.eval (.tmp 70)=_ from eV_]) ((HM4.o ⟨wx,hk.below⟩ V_ hV_ aV_).mono fun e w' ⟨he,hb⟩=>⟨_,he,hb,rfl⟩)⟩
   ·exact .inl ⟨ah rfl,Ec rfl true (hk.s 67) ⟨Below.refl _ _,(hk.s 71)⟩⟩
   ·exact .inl ⟨ah rfl,dJ (.tmp 72) rfl ⟨Below.refl _ _,hk.s 72⟩⟩
   ·exact .inl ⟨hk.yes 73 true,aS (.tmp 9) rfl (show a.eval (.tmp 9)=(.pointer (some ⟨ps,0,none⟩)) from((hk.o 9).trans rfl)) (LS5.o ⟨wx,hk.below⟩) ⟨Below.refl _ _,rfl⟩⟩
   ·exact .inl ⟨hk.yes 73 true,aS (.tmp 6) rfl (show a.eval (.tmp 6)=(.pointer (some ⟨w.heap.size,0,none⟩)) from((hk.o 6).trans rfl)) (LC5.o ⟨wx,hk.below⟩) ⟨Below.refl _ _,rfl⟩⟩
   ·exact .inl ⟨hk.yes 73 true,aT rfl (hk.fn _) #[.agg CS, .agg C] (fun w=>AB) (by simp only[List.map_toArray,List.map_cons,List.map_nil,(show a.eval (.tmp 74)=(.agg CS) from hk.s 74),(show a.eval (.tmp 75)=(.agg C) from hk.s 75)]) ((HM5.o ⟨wx,hk.below⟩).mono fun e w' ⟨he,hb⟩=>⟨_,he,hb,rfl⟩)⟩
   ·exact .inl ⟨ah rfl,Ec rfl true (hk.s 73) ⟨Below.refl _ _,(hk.s 76)⟩⟩
   ·exact .inl ⟨ah rfl,dJ (.tmp 77) rfl ⟨Below.refl _ _,hk.s 77⟩⟩
   ·exact .inl ⟨hk.yes 78 true,aT rfl (hk.fn _) #[] (fun w=>AB) (by rw[List.map_toArray];rfl) ((BA wx).mono fun e w' ⟨he,hb⟩=>⟨_,he,hb,rfl⟩)⟩
   ·exact .inl ⟨ah rfl,Ec rfl true (hk.s 78) ⟨Below.refl _ _,(hk.s 79)⟩⟩
   ·exact .inl ⟨ah rfl,oD (.tmp 80) rfl ⟨Below.refl _ _,hk.s 80⟩⟩
  intro a w6 hbz hsame hall
  have he:=bK hsame [60,61,62,63,64,65,66,67,68,69,70,71,72,73,74,75,76,77,78,79,80,8] AB
  simp only[List.foldl_cons,List.foldl_nil] at he
  rw[show a.eval (.tmp 8)=(.bool true) from hall 8 AB] at he
  generalize a.eval (.tmp 60)=y60 at he
  generalize a.eval (.tmp 61)=y61 at he
  generalize a.eval (.tmp 62)=y62 at he
  generalize a.eval (.tmp 63)=y63 at he
  generalize a.eval (.tmp 64)=y64 at he
  generalize a.eval (.tmp 65)=y65 at he
  generalize a.eval (.tmp 66)=y66 at he
  generalize a.eval (.tmp 67)=y67 at he
  generalize a.eval (.tmp 68)=y68 at he
  generalize a.eval (.tmp 69)=y69 at he
  generalize a.eval (.tmp 70)=y70 at he
  generalize a.eval (.tmp 71)=y71 at he
  generalize a.eval (.tmp 72)=y72 at he
  generalize a.eval (.tmp 73)=y73 at he
  generalize a.eval (.tmp 74)=y74 at he
  generalize a.eval (.tmp 75)=y75 at he
  generalize a.eval (.tmp 76)=y76 at he
  generalize a.eval (.tmp 77)=y77 at he
  generalize a.eval (.tmp 78)=y78 at he
  generalize a.eval (.tmp 79)=y79 at he
  generalize a.eval (.tmp 80)=y80 at he
  simp only[dQ] at he
  dsimp only[List.set_cons_zero,List.set_cons_succ] at he
  subst he
  clear hsame hall
  go_wp2_with fail
  go_ret
  exact⟨rfl,HB5.o.trans (hbz.mono HB5.o.size)⟩
end Go.Proofs.YtlholdllibghbaaGreat
