/- ManifestBytes: the walk of the law. -/
import Derived.Test.YtlholdllibghbaaGreatAwk14
import Derived.Test.YtlholdllibghbaaGreatManChk
import Derived.Test.YtlholdllibghbaaGreatG21
import Derived.Test.YtlholdllibghbaaGreatManArg
import Derived.Test.YtlholdllibghbaaGreatG13
import Derived.Test.YtlholdllibghbaaGreatG15
import Derived.Test.YtlholdllibghbaaGreatG11
import Derived.Test.YtlholdllibghbaaGreatG35
import Derived.Test.YtlholdllibghbaaGreatKit
set_option maxRecDepth 100000
set_option maxHeartbeats 8000000
namespace Go.Proofs.YtlholdllibghbaaGreat
open Go Go.RowKit Go.Cit
theorem GI {w:World} {a:Option Addr} {l:List UInt8} {c:Nat} (h:Row w a l c):Vec cb 1 w a l c:=Vec.Uo (v:=vb) h.le h.top h.nil h.spot h.cell
def VG (B:Nat) (M:aV) (ab:Option Addr) (nL kb:Nat) (g b9:Bool):Nat→Value
 | 20=>(.pointer (some ⟨B,34,none⟩))
 | 21=>(.agg #[.slice M.cfg.wa M.cfg.ws.length M.cfg.wc, .slice M.cfg.pa M.cfg.ps.length M.cfg.pc, .slice M.cfg.ca M.cfg.cs.length M.cfg.cc])
 | 22=>(.bool g)
 | 23=>(.bool g)
 | 24=>(bif (!g) then (.slice ab nL kb) else undef)
 | 25=>(bif (!g) then (.int .i64 (nL:Int)) else undef)
 | 26=>(bif (!g) then (.bool b9) else undef)
 | 27=>(.bool (g || b9))
 | _=>undef
def UU (B:Nat) (_:aV) (ab:Option Addr) (nL kb:Nat) (_ _:Bool):Nat→Value
 | 1=>(.slice ab nL kb)
 | 5=>(.pointer (some ⟨B,0,none⟩))
 | _=>undef
def Vw (_ _:Nat) (C CS TH:Array Value) (k:Bool):Nat→Value
 | 37=>(.agg CS)
 | 38=>(.bool k)
 | 39=>(.bool k)
 | 40=>(.bool false)
 | 41=>(.bool false)
 | 42=>(bif (!false) then (.agg CS) else undef)
 | 43=>(bif (!false) then (.agg TH) else undef)
 | 44=>(bif (!false) then (.agg C) else undef)
 | 45=>(bif (!false) then (.agg TH) else undef)
 | 46=>(bif (!false) then (.bool false) else undef)
 | 47=>(.bool (false || false))
 | _=>undef
def UD (B ps:Nat) (_ _ _:Array Value) (k:Bool):Nat→Value
 | 5=>(.pointer (some ⟨B,0,none⟩))
 | 11=>(.pointer (some ⟨ps,0,none⟩))
 | 14=>(.bool k)
 | _=>undef
theorem wC (w:World) (M:aV) (ab:Option Addr) (L:List UInt8) (kb:Nat) (own:Bool) (at_:Int) (turn:UInt8) (h:M.At w) (hb:∀x∈M.cfg.ps,x.img.length≤140737488351232) (hr:Row w ab L kb):Calls Tryz.prog 4 #[.agg (cM M), .slice ab L.length kb, .bool own, .int .i64 at_,vb turn] w fun e w'=>e= .returned (.bool true)∧Below w.heap.size w w':=by
 have HAM:=AQ (fun ρ d ty ps af w=>gV ρ d ty ps (af:=af) w)
 obtain⟨Z,hZ⟩:=AU (cM zM)
 rw[←hZ.o] at HAM
 have HZS:Hid (Z.size=69∧Z.all (·.oneCell')=true):=by rw[hZ.o];exact⟨fM rfl rfl,fP _⟩
 obtain⟨C,hC⟩:=AU (cM M)
 obtain⟨w0,hw0⟩:=AV (w.alloc (.cells C 55))
 have B0:Below w.heap.size w w0:=by rw[hw0];exact(Below.refl _ w).alloc (Nat.le_refl _) _
 have hI:eY w0 w.heap.size M:=by rw[hw0,hC.o];exact eY.new w h
 have HI0:=AQ hI
 have HB0:=AQ B0
 have HM:=AQ (h.stay B0)
 have HI:=HI0
 have HR:=AQ (hr.stay B0)
 obtain⟨nL,hnL⟩:=AU L.length
 obtain⟨g,hg⟩:=AU (ug M.cfg)
 obtain⟨b9,hb9⟩:=AU (decide ((nL:Int)>9000))
 obtain⟨R1,hR1⟩:=AU ((g || b9))
 have HR1:=hR1
 have H9:Hid (decide ((9000:Int)<nL)=b9):=by rw[Hid,hb9.o]
 have HG:Hid (∀q:After w0,Calls Tryz.prog 8 #[.agg #[.slice M.cfg.wa M.cfg.ws.length M.cfg.wc, .slice M.cfg.pa M.cfg.ps.length M.cfg.pc, .slice M.cfg.ca M.cfg.cs.length M.cfg.cc]] q.to fun e w'=>e= .returned (.bool g)∧Below q.to.heap.size q.to w'):=fun q=>by rw[hg.o];exact EC q.to M.cfg ((h.stay B0).stay q.bel).cfg hb
 have HP32:=AQ h.p32
 have HT32:=AQ h.t32
 rw[←hC.o,←hnL.o]
 clear hI h B0 hr
 go_enter Tryz.func4,Tryz.ntmps4
 go_upto_region 1 with fail
 rw[←hw0]
 clear hw0
 refine fQ (VG w.heap.size M ab nL kb g b9) (UU w.heap.size M ab nL kb g b9) [1,5] AB ⟨rfl,rfl,trivial⟩ ?_ ?_
 ·repeat' (first |exact aU |refine aI ?_ ?_)
  all_goals intro a hk
  ·
   exact .inl ⟨ah rfl,eP (.tmp 5) rfl (hk.o 5) (v:=(.pointer (some ⟨w.heap.size,34,none⟩))) (fun w=>AB) rfl⟩
  ·
   exact .inl ⟨ah rfl,dG (.tmp 20) rfl (hk.s 20) (v:=(.agg #[.slice M.cfg.wa M.cfg.ws.length M.cfg.wc, .slice M.cfg.pa M.cfg.ps.length M.cfg.pc, .slice M.cfg.ca M.cfg.cs.length M.cfg.cc])) (fun q=>(HI.o.keep q.bel).Ph) rfl⟩
  ·
   exact .inl ⟨ah rfl,iD rfl rfl #[(.agg #[.slice M.cfg.wa M.cfg.ws.length M.cfg.wc, .slice M.cfg.pa M.cfg.ps.length M.cfg.pc, .slice M.cfg.ca M.cfg.cs.length M.cfg.cc])] (fun w=>AB) (by simp only[List.map_toArray,List.map_cons,List.map_nil,(show a.eval (.tmp 21)=(.agg #[.slice M.cfg.wa M.cfg.ws.length M.cfg.wc, .slice M.cfg.pa M.cfg.ps.length M.cfg.pc, .slice M.cfg.ca M.cfg.cs.length M.cfg.cc]) from hk.s 21)]) (v:=(.bool g)) (fun q=>HG.o q) rfl⟩
  ·
   exact .inl ⟨ah rfl,bZ (.tmp 22) rfl (hk.s 22)⟩
  ·
   cases g<;>first |exact hk.no 23 false |skip
   exact .inl ⟨hk.yes 23 false,bZ (.tmp 1) rfl (hk.o 1)⟩
  ·
   cases g<;>first |exact hk.no 23 false |skip
   exact .inl ⟨hk.yes 23 false,q_len rfl AB (hk.s 24) rfl⟩
  ·
   cases g<;>first |exact hk.no 23 false |skip
   exact .inl ⟨hk.yes 23 false,jG rfl (hk.s 25) rfl (v:= .bool (decide ((9000:Int)<(nL:Int)))) (fun w=>AB) (congrArg Value.bool (H9.o))⟩
  ·
   cases g with
   |
    true=>
    exact .inl ⟨ah rfl,aT rfl true (hk.s 23) rfl⟩
   |
    false=>
    exact .inl ⟨ah rfl,aT rfl false (hk.s 23) (hk.s 26)⟩
 intro a ⟨w1,hb1⟩ hsame hall
 have he:=dn hsame [20,21,22,23,24,25,26,27] AB
 simp only[List.foldl_cons,List.foldl_nil] at he
 rw[show a.eval (.tmp 27)=(.bool R1) from(hall 27 AB).trans (congrArg Value.bool HR1.o.symm)] at he
 generalize a.eval (.tmp 20)=x20 at he
 generalize a.eval (.tmp 21)=x21 at he
 generalize a.eval (.tmp 22)=x22 at he
 generalize a.eval (.tmp 23)=x23 at he
 generalize a.eval (.tmp 24)=x24 at he
 generalize a.eval (.tmp 25)=x25 at he
 generalize a.eval (.tmp 26)=x26 at he
 simp only[fV] at he
 dsimp only[List.set_cons_zero,List.set_cons_succ] at he
 subst he
 clear hsame hall
 cases R1 with
 |
  true=>
  go_wp2_with fail
  go_ret
  exact⟨rfl,HB0.o.trans (hb1.mono HB0.o.size)⟩
 |
  false=>
  dsimp only
  have hf:=hR1.o
  have HGF:Hid (g=false∧b9=false):=by cases g<;>cases b9<;>first |exact⟨rfl,rfl⟩ |exact absurd hf AP
  clear hf
  have HSS:Hid (cu M.cfg):=Pn (hg.o.symm.trans HGF.o.1)
  have HN9:Hid (L.length≤9000):=by
   have h1:=hb9.o
   rw[HGF.o.2] at h1
   have:=of_decide_eq_false h1.symm
   have:=hnL.o
   rw[Hid];omega
  have HM1:=AQ (HM.o.stay hb1)
  have HI1:=AQ (HI.o.keep hb1)
  have HRa:=AQ (HR.o.stay hb1)
  have HB1:=AQ (HB0.o.trans (hb1.mono HB0.o.size))
  clear hb1 HG HI HR HM HB0 HI0
  have hw:=HI1.o.whole
  rw[←hC.o] at hw
  have HL1:=AQ hw
  have hcp:=sU w1 M HM1.o HSS.o
  rw[←hC.o] at hcp
  have HCP:=AQ hcp
  clear hw hcp
  go_wp2_with (first |(with_reducible refine aN (o:=⟨some 28, .load 55 (.tmp 5),_,_,_,_⟩) AA AA AA HL1.o ?_))
  refine(HCP.o).mono ?_
  rintro e wb ⟨S,rfl,hSm,hSF,hbb⟩
  obtain⟨CS,hCS⟩:=AU (cM S)
  have HCS:Hid (CS.size=69∧CS.all (·.oneCell')=true):=by rw[hCS.o];exact⟨fM hSF.p32 hSF.t32,fP _⟩
  rw[←hCS.o]
  obtain⟨ps,hps⟩:=AV (wb.heap.size)
  have HNW:=AQ (heap_alloc_new wb (.cells Z 55))
  have HIb:=AQ (HI1.o.keep hbb)
  have HMb:=AQ (HM1.o.stay hbb)
  have HRb:=AQ (HRa.o.stay hbb)
  have HBb:=AQ (HB1.o.trans (hbb.mono HB1.o.size))
  have HSM:=AQ hSm
  have HSF:=AQ hSF
  clear hSm hSF hbb HCP HL1 HI1 HM1 HRa HB1
  go_upto_region 4 with (first |((with_reducible refine aj (o:=⟨some 11, .alloc _,_,_,_,_⟩) AA (HAM.o _ _ _ _ _ _) ?_)) |((with_reducible refine ay (o:=⟨none, .store _ (.tmp 11) (.tmp 29),_,_,_,_⟩) iw (.tmp 11) (.tmp 29) AA AA AA AA AA HNW.o HZS.o.1 HCS.o.1 HCS.o.2 ?_);intro w3 hbw3 hSw3;have HBw3:=AQ hbw3;have HSw3:=AQ hSw3;clear hbw3 hSw3))
  have HBS:Hid (Below wb.heap.size wb w3):=by
   have h1:Below wb.heap.size wb (wb.alloc (.cells Z 55)):=(Below.refl _ _).alloc (Nat.le_refl _) _
   exact h1.trans (HSw3.o.below AO (fun k hk=>by omega))
  have HIS:Hid (eY w3 ps S):=by rw[Hid,hps];exact⟨by rw[←hCS.o];exact HBw3.o,HSF.o.p32,HSF.o.t32⟩
  have HI3:=AQ (HIb.o.keep HBS.o)
  have HM3:=AQ (HMb.o.stay HBS.o)
  have HR3:=AQ (HRb.o.stay HBS.o)
  have HB3:=AQ (HBb.o.trans (HBS.o.mono HBb.o.size))
  have HS3:Hid (S.At w3):=HSF.o.at.stay HBS.o
  rw[←hps]
  clear HBw3 HSw3 HNW HBS HIb HMb HRb HBb HSF hps
  obtain⟨k,hk⟩:=AU (jK M)
  obtain⟨F,hF⟩:=AU (iZ M)
  obtain⟨E,hE⟩:=AU (kW M)
  have hp:=lW w3 S HS3.o
  rw[nP,xR,HSM.o,←nP,←xR,←hCS.o,←hF.o,←hE.o] at hp
  have HP:=AQ hp
  have hw:=HIS.o.whole
  rw[←hCS.o] at hw
  have HL2:=AQ hw
  clear hp hw
  go_wp2_with (first |(with_reducible refine aN (o:=⟨some 31, .load 55 (.tmp 11),_,_,_,_⟩) AA AA AA HL2.o ?_))
  refine(HP.o).mono ?_
  rintro e wd ⟨a2,c2,rfl,hF2,hbd⟩
  have HFd:=AQ hF2.row
  have HISd:=AQ (HIS.o.keep hbd)
  have HId:=AQ (HI3.o.keep hbd)
  have HMd:=AQ (HM3.o.stay hbd)
  have HRd:=AQ (HR3.o.stay hbd)
  have HSd:=AQ (HS3.o.stay hbd)
  have HBd:=AQ (HB3.o.trans (hbd.mono HB3.o.size))
  clear hF2 hbd HP HL2 HIS HI3 HM3 HR3 HB3 HS3
  have hcn:=oh wd M HMd.o
  rw[←hk.o,←hC.o] at hcn
  have HCN:=AQ hcn
  have hw:=HId.o.whole
  rw[←hC.o] at hw
  have HL3:=AQ hw
  clear hcn hw
  go_wp2_with (first |(with_reducible refine aN (o:=⟨some 35, .load 55 (.tmp 5),_,_,_,_⟩) AA AA AA HL3.o ?_))
  refine(HCN.o).mono ?_
  rintro e we ⟨rfl,hbe⟩
  have HFe:=AQ (HFd.o.stay hbe)
  have HISe:=AQ (HISd.o.keep hbe)
  have HIe:=AQ (HId.o.keep hbe)
  have HMe:=AQ (HMd.o.stay hbe)
  have HRe:=AQ (HRd.o.stay hbe)
  have HSe:=AQ (HSd.o.stay hbe)
  have HBe:=AQ (HBd.o.trans (hbe.mono HBd.o.size))
  clear hbe HCN HL3 HFd HISd HId HMd HRd HSd HBd
  obtain⟨TH,hTH⟩:=AU (((ji M).map vb).toArray)
  have LS:Hid (∀q:After we,(Instr.loadAt 55 (.pointer (some ⟨ps,0,none⟩))).run Tryz.prog q.to= .ok (.agg CS) q.to):=fun q=>by rw[hCS.o];exact(HISe.o.keep q.bel).whole
  have LC:Hid (∀q:After we,(Instr.loadAt 55 (.pointer (some ⟨w.heap.size,0,none⟩))).run Tryz.prog q.to= .ok (.agg C) q.to):=fun q=>by rw[hC.o];exact(HIe.o.keep q.bel).whole
  have HCA:Hid (∀q:After we,Calls Tryz.prog 17 #[.agg CS] q.to fun e w'=>e= .returned (.bool k)∧Below q.to.heap.size q.to w'):=fun q=>by
   have:=jM q.to S (HSe.o.stay q.bel)
   rw[iE,HSM.o,←iE,←hk.o,←hCS.o] at this;exact this
  have HH1:Hid (∀q:After we,Calls Tryz.prog 18 #[.agg CS] q.to fun e w'=>e= .returned (.agg TH)∧Below q.to.heap.size q.to w'):=fun q=>by
   have:=qX q.to S (HSe.o.stay q.bel)
   rw[nN,HSM.o,←nN,←hTH.o,←hCS.o] at this;exact this
  have HH2:Hid (∀q:After we,Calls Tryz.prog 19 #[.agg C] q.to fun e w'=>e= .returned (.agg TH)∧Below q.to.heap.size q.to w'):=fun q=>by
   have:=zX q.to M (HMe.o.stay q.bel)
   rw[←hTH.o,←hC.o] at this;exact this
  have HX:Hid (∀w:World,(do eqGuard .neq 53 (.tmp 43) (.tmp 45) (.agg TH) (.agg TH);binOp .neq 53 (.agg TH) (.agg TH):Sem Value).run Tryz.prog w= .ok (.bool false) w):=fun w=>by
   have:=Ii Gm.guard (.tmp 43) (.tmp 45) (lV Gm (ji M) (ji M) (kK _) (kK _)) w
   rw[decide_eq_true rfl,←hTH.o] at this;exact this
  go_upto_region 6 with fail
  refine ni (Vw w.heap.size ps C CS TH k) (UD w.heap.size ps C CS TH k) [5,11,14] AB AB AB ⟨rfl,rfl,rfl,trivial⟩ ?_ ?_
  ·repeat' (first |exact aU |refine aI ?_ ?_)
   all_goals intro a hk
   ·
    exact .inl ⟨ah rfl,dG (.tmp 11) rfl (hk.o 11) (v:=(.agg CS)) (fun q=>LS.o q) rfl⟩
   ·
    exact .inl ⟨ah rfl,iD rfl rfl #[(.agg CS)] (fun w=>AB) (by simp only[List.map_toArray,List.map_cons,List.map_nil,(show a.eval (.tmp 37)=(.agg CS) from hk.s 37)]) (v:=(.bool k)) (fun q=>HCA.o q) rfl⟩
   ·
    exact .inl ⟨ah rfl,bZ (.tmp 14) rfl (hk.o 14)⟩
   ·
    exact .inl ⟨ah rfl,jG rfl (hk.s 38) (hk.s 39) (v:=(.bool false)) (fun w=>by cases k<;>kernel_rfl) rfl⟩
   ·
    exact .inl ⟨ah rfl,bZ (.tmp 40) rfl (hk.s 40)⟩
   ·
    exact .inl ⟨hk.yes 41 false,dG (.tmp 11) rfl (hk.o 11) (v:=(.agg CS)) (fun q=>LS.o q) rfl⟩
   ·
    exact .inl ⟨hk.yes 41 false,iD rfl rfl #[(.agg CS)] (fun w=>AB) (by simp only[List.map_toArray,List.map_cons,List.map_nil,(show a.eval (.tmp 42)=(.agg CS) from hk.s 42)]) (v:=(.agg TH)) (fun q=>HH1.o q) rfl⟩
   ·
    exact .inl ⟨hk.yes 41 false,dG (.tmp 5) rfl (hk.o 5) (v:=(.agg C)) (fun q=>LC.o q) rfl⟩
   ·
    exact .inl ⟨hk.yes 41 false,iD rfl rfl #[(.agg C)] (fun w=>AB) (by simp only[List.map_toArray,List.map_cons,List.map_nil,(show a.eval (.tmp 44)=(.agg C) from hk.s 44)]) (v:=(.agg TH)) (fun q=>HH2.o q) rfl⟩
   ·
    exact .inl ⟨hk.yes 41 false,jG rfl (hk.s 43) (hk.s 45) (v:=(.bool false)) (fun w=>HX.o w) rfl⟩
   ·
    exact .inl ⟨ah rfl,aT rfl false (hk.s 41) (hk.s 46)⟩
  intro a ⟨wf,hbf⟩ hsame hall
  have he:=dn hsame [37,38,39,40,41,42,43,44,45,46,47] AB
  simp only[List.foldl_cons,List.foldl_nil] at he
  rw[show a.eval (.tmp 47)=(.bool (false || false)) from hall 47 AB] at he
  generalize a.eval (.tmp 37)=x37 at he
  generalize a.eval (.tmp 38)=x38 at he
  generalize a.eval (.tmp 39)=x39 at he
  generalize a.eval (.tmp 40)=x40 at he
  generalize a.eval (.tmp 41)=x41 at he
  generalize a.eval (.tmp 42)=x42 at he
  generalize a.eval (.tmp 43)=x43 at he
  generalize a.eval (.tmp 44)=x44 at he
  generalize a.eval (.tmp 45)=x45 at he
  generalize a.eval (.tmp 46)=x46 at he
  simp only[fV] at he
  dsimp only[List.set_cons_zero,List.set_cons_succ] at he
  subst he
  clear hsame hall
  dsimp only
  have HFf:=AQ (HFe.o.stay hbf)
  have HISf:=AQ (HISe.o.keep hbf)
  have HIf:=AQ (HIe.o.keep hbf)
  have HMf:=AQ (HMe.o.stay hbf)
  have HRf:=AQ (HRe.o.stay hbf)
  have HSf:=AQ (HSe.o.stay hbf)
  have HBf:=AQ (HBe.o.trans (hbf.mono HBe.o.size))
  clear hbf LS LC HCA HH1 HH2 HX HFe HISe HIe HMe HRe HSe HBe
  obtain⟨n,hn⟩:=AU F.length
  rw[←hn.o]
  go_upto_if 48 with fail
  go_cut [1] (fun s1 wx=>∃(a:Option Addr) (X:List UInt8) (c:Nat),s1= .slice a X.length c∧Hid (X.length≤9000)∧Hid (Row wx a X c)∧Hid (Below wf.heap.size wf wx))
  case first=>
   cases k with
   |
    false=>
    have hn':=sJ hk.o.symm
    have h0:F=[]:=hF.o.trans hn'.1
    have h2:E=2:=hE.o.trans hn'.2
    have h3:n=0:=by rw[hn.o,h0];rfl
    clear hn'
    subst h3
    subst h2
    go_wp2_with fail
    go_meet
    exact⟨ab,L,kb,by rw[hnL.o],HN9.o,HRf.o,Below.refl _ _⟩
   |
    true=>
    have h0:=rY hk.o.symm
    have h2:E=0:=hE.o.trans h0.2
    subst h2
    have hby:=qw wf M HMf.o hk.o.symm
    rw[show pz M=F from(hF.o.trans h0.1).symm,←hC.o,←hn.o] at hby
    have HBY:=AQ hby
    have HXL:Hid (F.length≤9000):=by have:=zo HP32.o HT32.o;rw[Hid,hF.o];omega
    have HPOS:Hid (0<F.length):=by rw[Hid,hF.o,h0.1,List.length_append,HT32.o];omega
    have hw:=HIf.o.whole
    rw[←hC.o] at hw
    have HL4:=AQ hw
    clear h0 hby hw
    go_wp2_with (first |(with_reducible refine aN (o:=⟨some 49, .load 55 (.tmp 5),_,_,_,_⟩) AA AA AA HL4.o ?_))
    refine(HBY.o).mono ?_
    rintro e wg ⟨a3,c3,rfl,hr3,hbg⟩
    have HFg:=AQ (HFf.o.stay hbg)
    have HWg:=AQ hr3
    have HRg:=AQ (HRf.o.stay hbg)
    have HBg:=AQ hbg
    clear hr3 hbg HBY HL4
    cases own with
    |
     false=>
     go_wp2_with (first |((with_reducible refine eG (o:=⟨some 55, .convert _ _ _,_,_,_,_⟩) AA (rZ (x:= .tmp 54) AA AA hn.o.symm HFg.o) ?_)) |((with_reducible refine eG (o:=⟨some 57, .convert _ _ _,_,_,_,_⟩) AA (rZ (x:= .tmp 56) AA AA hn.o.symm HWg.o) ?_)))
     go_meet
     exact⟨ab,L,kb,by rw[hnL.o],HN9.o,HRg.o,HBg.o⟩
    |
     true=>
     have HO0:Hid (aS cb 1 5 wg.heap.size (wg.alloc (.cells #[] 5)) (some ⟨wg.heap.size,0,none⟩) [] 0):=(kZ wg #[] 5 [] rfl AP).uU
     have HV0:Hid (Vec cb 1 (wg.alloc (.cells #[] 5)) a3 F c3):=GI (HWg.o.stay ((Below.refl _ _).alloc (Nat.le_refl _) _))
     have HL0:Hid (([]:List UInt8).length+F.length≤1000000000):=by have:=HXL.o;rw[Hid,List.length_nil];omega
     have HS0:Hid (wg.heap.size≤(wg.alloc (.cells #[] 5)).heap.size):=by rw[Hid,World.size_alloc];omega
     have HBa:Hid (Below wg.heap.size wg (wg.alloc (.cells #[] 5))):=(Below.refl _ _).alloc (Nat.le_refl _) _
     go_upto_region 14 with (first |((with_reducible refine eG (o:=⟨some 55, .convert _ _ _,_,_,_,_⟩) AA (rZ (x:= .tmp 54) AA AA hn.o.symm HFg.o) ?_)) |((with_reducible refine eG (o:=⟨some 57, .convert _ _ _,_,_,_,_⟩) AA (rZ (x:= .tmp 56) AA AA hn.o.symm HWg.o) ?_)) |((with_reducible refine nI (o:=⟨some 63, .call _,_,_,_,_⟩) U7 yV DN (.tmp 61) (.tmp 62) AA AA HO0.o HV0.o HL0.o HS0.o AA (by rw[←hn.o];with_unfolding_all rfl) ?_);intro a6 k6 w6 hO3 hg3;rw[List.nil_append];rw[List.nil_append] at hO3;rw[←hn.o];have HO3:=AQ (And.intro hO3.own (HBa.o.trans (HO0.o.grown hg3 HS0.o)));clear hO3 hg3))
     have hn9:n≤9000:=by rw[hn.o];exact HXL.o
     have hpos:0<n:=by rw[hn.o];exact HPOS.o
     obtain⟨j,hj,ek⟩:=PU at_ n hpos AL
     have hkX:j<F.length:=by rw[←hn.o];exact hj
     have hr:=HO3.o.1.isRow
     have ij:=hr.index bt.slice bt.sz j hkX
     rw[←hn.o,←ek] at ij
     have ej:=hr.cell j hkX
     have fj:=HO3.o.1.frozen j hkX
     obtain⟨y,hy⟩:∃y,F[j]=y:=⟨_,rfl⟩
     rw[hy] at ej
     have hst:=HO3.o.1.stored j hkX (yD y turn)
     have HG6:=HBg.o.trans (HO3.o.2.mono HBg.o.size)
     have HST:=AQ (And.intro hst.1 (HG6.trans ((Save.grown hst.2).below HG6.size (fun g hg e=>by have:=(HO3.o.1.aK e.symm).1;have:=HBg.o.size;omega))))
     clear ek hr hy hst hkX HG6 HO0 HV0 HL0 HS0 HBa
     go_wp2_with fail
     go_meet
     exact⟨a6,F.set j (yD y turn),k6,by rw[List.length_set,hn.o],by rw[Hid,List.length_set];exact HXL.o,HST.o.1.isRow,HST.o.2⟩
  case rest=>
   obtain⟨a1,X,c1,rfl,HXL,HRX,HBX⟩:=hcut
   clear hn
   obtain⟨n,hn⟩:=AU X.length
   rw[←hn.o]
   have HISc:=AQ (HISf.o.keep HBX.o)
   have HIc:=AQ (HIf.o.keep HBX.o)
   have HMc:=AQ (HMf.o.stay HBX.o)
   have HSc:=AQ (HSf.o.stay HBX.o)
   have HBc:=AQ (HBf.o.trans (HBX.o.mono HBf.o.size))
   clear HFf HISf HIf HMf HRf HSf HBf HBX
   have HO0:Hid (aS cb 1 5 wc.heap.size (wc.alloc (.cells #[] 5)) (some ⟨wc.heap.size,0,none⟩) [] 0):=(kZ wc #[] 5 [] rfl AP).uU
   have HV0:Hid (Vec cb 1 (wc.alloc (.cells #[] 5)) a1 X c1):=GI (HRX.o.stay ((Below.refl _ _).alloc (Nat.le_refl _) _))
   have HL0:Hid (([]:List UInt8).length+X.length≤1000000000):=by have:=HXL.o;rw[Hid,List.length_nil];omega
   have HS0:Hid (wc.heap.size≤(wc.alloc (.cells #[] 5)).heap.size):=by rw[Hid,World.size_alloc];omega
   have HBa:Hid (Below wc.heap.size wc (wc.alloc (.cells #[] 5))):=(Below.refl _ _).alloc (Nat.le_refl _) _
   go_wp2_with (first |((with_reducible refine nI (o:=⟨some 87, .call _,_,_,_,_⟩) U7 yV DN (.tmp 85) (.tmp 86) AA AA HO0.o HV0.o HL0.o HS0.o AA (by rw[←hn.o];with_unfolding_all rfl) ?_);intro a6 k6 w6 hO3 hg3;rw[List.nil_append];rw[List.nil_append] at hO3;rw[←hn.o];have HO3:=AQ (And.intro hO3.own (HBa.o.trans (HO0.o.grown hg3 HS0.o)));clear hO3 hg3))
   obtain⟨E2,hE2⟩:=AU (nX X)
   have hq:=vU w6 HO3.o.1.isRow
   rw[←hn.o,←hE2.o] at hq
   have HQ:=AQ hq
   have HR6:=AQ (HRX.o.stay HO3.o.2)
   have HIS6:=AQ (HISc.o.keep HO3.o.2)
   have HI6:=AQ (HIc.o.keep HO3.o.2)
   have HM6:=AQ (HMc.o.stay HO3.o.2)
   have HS6:=AQ (HSc.o.stay HO3.o.2)
   have HB6:=AQ (HBc.o.trans (HO3.o.2.mono HBc.o.size))
   clear hq HO0 HV0 HL0 HS0 HBa HO3 HRX HISc HIc HMc HSc HBc
   refine(HQ.o).mono ?_
   rintro e w7 ⟨U,rfl,hUm,hUF,hb7⟩
   obtain⟨CU,hCU⟩:=AU (cM U)
   have HCU:Hid (CU.size=69∧CU.all (·.oneCell')=true):=by rw[hCU.o];exact⟨fM hUF.p32 hUF.t32,fP _⟩
   rw[←hCU.o]
   obtain⟨pu,hpu⟩:=AV (w7.heap.size)
   have HNW:=AQ (heap_alloc_new w7 (.cells Z 55))
   have HR7:=AQ (HR6.o.stay hb7)
   have HIS7:=AQ (HIS6.o.keep hb7)
   have HI7:=AQ (HI6.o.keep hb7)
   have HM7:=AQ (HM6.o.stay hb7)
   have HS7:=AQ (HS6.o.stay hb7)
   have HB7:=AQ (HB6.o.trans (hb7.mono HB6.o.size))
   have HUM:=AQ hUm
   have HUF:=AQ hUF
   clear hUm hUF hb7 HQ HR6 HIS6 HI6 HM6 HS6 HB6
   go_upto_region 18 with (first |((with_reducible refine aj (o:=⟨some 16, .alloc _,_,_,_,_⟩) AA (HAM.o _ _ _ _ _ _) ?_)) |((with_reducible refine ay (o:=⟨none, .store _ (.tmp 16) (.tmp 89),_,_,_,_⟩) iw (.tmp 16) (.tmp 89) AA AA AA AA AA HNW.o HZS.o.1 HCU.o.1 HCU.o.2 ?_);intro w8 hbw8 hSw8;have HBw8:=AQ hbw8;have HSw8:=AQ hSw8;clear hbw8 hSw8))
   have HBS:Hid (Below w7.heap.size w7 w8):=by
    have h1:Below w7.heap.size w7 (w7.alloc (.cells Z 55)):=(Below.refl _ _).alloc (Nat.le_refl _) _
    exact h1.trans (HSw8.o.below AO (fun k hk=>by omega))
   have HIU:Hid (eY w8 pu U):=by rw[Hid,hpu];exact⟨by rw[←hCU.o];exact HBw8.o,HUF.o.p32,HUF.o.t32⟩
   have HU8:Hid (U.At w8):=HUF.o.at.stay HBS.o
   have HR8:=AQ (HR7.o.stay HBS.o)
   have HIS8:=AQ (HIS7.o.keep HBS.o)
   have HI8:=AQ (HI7.o.keep HBS.o)
   have HM8:=AQ (HM7.o.stay HBS.o)
   have HS8:=AQ (HS7.o.stay HBS.o)
   have HB8:=AQ (HB7.o.trans (HBS.o.mono HB7.o.size))
   rw[←hpu]
   clear HBw8 HSw8 HNW HBS HR7 HIS7 HI7 HM7 HS7 HB7 HUF hpu
   have hq:=yx w8 HR8.o
   rw[←hn.o,←hE2.o] at hq
   have HQ:=AQ hq
   clear hq
   go_wp2_with fail
   refine(HQ.o).mono ?_
   rintro e w9 ⟨Y,rfl,hYm,hYF,hb9'⟩
   obtain⟨CY,hCY⟩:=AU (cM Y)
   have HCY:Hid (CY.size=69∧CY.all (·.oneCell')=true):=by rw[hCY.o];exact⟨fM hYF.p32 hYF.t32,fP _⟩
   rw[←hCY.o]
   obtain⟨py,hpy⟩:=AV (w9.heap.size)
   have HNW:=AQ (heap_alloc_new w9 (.cells Z 55))
   have HIU9:=AQ (HIU.o.keep hb9')
   have HU9:=AQ (HU8.o.stay hb9')
   have HIS9:=AQ (HIS8.o.keep hb9')
   have HI9:=AQ (HI8.o.keep hb9')
   have HM9:=AQ (HM8.o.stay hb9')
   have HS9:=AQ (HS8.o.stay hb9')
   have HBZ:=AQ (HB8.o.trans (hb9'.mono HB8.o.size))
   have HYM:=AQ hYm
   have HYF:=AQ hYF
   clear hYm hYF hb9' HQ HR8 HIU HU8 HIS8 HI8 HM8 HS8 HB8
   go_upto_region 19 with (first |((with_reducible refine aj (o:=⟨some 18, .alloc _,_,_,_,_⟩) AA (HAM.o _ _ _ _ _ _) ?_)) |((with_reducible refine ay (o:=⟨none, .store _ (.tmp 18) (.tmp 94),_,_,_,_⟩) iw (.tmp 18) (.tmp 94) AA AA AA AA AA HNW.o HZS.o.1 HCY.o.1 HCY.o.2 ?_);intro wh hbwh hSwh;have HBwh:=AQ hbwh;have HSwh:=AQ hSwh;clear hbwh hSwh))
   have HBS:Hid (Below w9.heap.size w9 wh):=by
    have h1:Below w9.heap.size w9 (w9.alloc (.cells Z 55)):=(Below.refl _ _).alloc (Nat.le_refl _) _
    exact h1.trans (HSwh.o.below AO (fun k hk=>by omega))
   have HIY:Hid (eY wh py Y):=by rw[Hid,hpy];exact⟨by rw[←hCY.o];exact HBwh.o,HYF.o.p32,HYF.o.t32⟩
   have HYA:Hid (Y.At wh):=HYF.o.at.stay HBS.o
   have HIUh:=AQ (HIU9.o.keep HBS.o)
   have HUh:=AQ (HU9.o.stay HBS.o)
   have HISh:=AQ (HIS9.o.keep HBS.o)
   have HIh:=AQ (HI9.o.keep HBS.o)
   have HMh:=AQ (HM9.o.stay HBS.o)
   have HSh:=AQ (HS9.o.stay HBS.o)
   have HBh:=AQ (HBZ.o.trans (HBS.o.mono HBZ.o.size))
   rw[←hpy]
   clear HBwh HSwh HNW HBS HIU9 HU9 HIS9 HI9 HM9 HS9 HBZ HYF hpy
   have hsm:=qG wh U Y HUh.o HYA.o
   rw[decide_eq_true (show U.man=Y.man from HUM.o.trans HYM.o.symm),←hCU.o,←hCY.o] at hsm
   have HSA:=AQ hsm
   have hw1:=HIUh.o.whole
   rw[←hCU.o] at hw1
   have HLA:=AQ hw1
   have hw2:=HIY.o.whole
   rw[←hCY.o] at hw2
   have HLB:=AQ hw2
   clear hsm hw1 hw2
   go_wp2_with (first |((with_reducible refine eG (o:=⟨some 100, .load _ _,_,_,_,_⟩) AA (oU (x:= .tmp 16) AA AA HLA.o) ?_)) |((with_reducible refine eG (o:=⟨some 101, .load _ _,_,_,_,_⟩) AA (oU (x:= .tmp 18) AA AA HLB.o) ?_)))
   refine(HSA.o).mono ?_
   rintro e wi ⟨rfl,hbi⟩
   have hsm:=qG wi S M (HSh.o.stay hbi) (HMh.o.stay hbi)
   rw[decide_eq_true (show S.man=M.man from HSM.o),←hCS.o,←hC.o] at hsm
   have HSB:=AQ hsm
   have hw1:=(HISh.o.keep hbi).whole
   rw[←hCS.o] at hw1
   have HLC:=AQ hw1
   have hw2:=(HIh.o.keep hbi).whole
   rw[←hC.o] at hw2
   have HLD:=AQ hw2
   have HBi:=AQ (HBh.o.trans (hbi.mono HBh.o.size))
   clear hsm hw1 hw2 hbi HSA HLA HLB HIUh HUh HISh HIh HMh HSh HBh HIY HYA
   go_wp2_with (first |((with_reducible refine eG (o:=⟨some 105, .load _ _,_,_,_,_⟩) AA (oU (x:= .tmp 11) AA AA HLC.o) ?_)) |((with_reducible refine eG (o:=⟨some 106, .load _ _,_,_,_,_⟩) AA (oU (x:= .tmp 5) AA AA HLD.o) ?_)))
   refine(HSB.o).mono ?_
   rintro e wj ⟨rfl,hbj⟩
   have HBj:=AQ (HBi.o.trans (hbj.mono HBi.o.size))
   clear hbj HSB HLC HLD HBi
   go_wp2_with fail
   refine(BQ wj).mono ?_
   rintro e wq ⟨rfl,hbq⟩
   go_wp2_with fail
   go_ret
   exact⟨rfl,HBj.o.trans (hbq.mono HBj.o.size)⟩
end Go.Proofs.YtlholdllibghbaaGreat
