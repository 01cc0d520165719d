/- citadelref14.Check: walked. -/
import Derived.Test.YtlholdllibghbaaGreatManChk
import Derived.Test.YtlholdllibghbaaGreatKit
set_option maxRecDepth 100000
set_option maxHeartbeats 8000000
namespace Go.Proofs.YtlholdllibghbaaGreat
open Go Go.RowKit Go.Cit
def Xu (_ p:Nat) (C _ T1 T2:Array Value) (_:Option Addr) (_ _:Nat) (_ _:bD) (_ r2 _ _:Bool) (_:Int):Nat→Value
 | 23=>(.int .i64 140)
 | 24=>(.bool false)
 | 25=>(.bool false)
 | 26=>(bif false then (.pointer (some ⟨p,1,none⟩)) else undef)
 | 27=>(bif false then (.agg T1) else undef)
 | 28=>(bif false then (.agg C) else undef)
 | 29=>(bif false then (.agg T2) else undef)
 | 30=>(bif false then (.bool (!r2)) else undef)
 | 31=>(.bool (false && (!r2)))
 | _=>undef
def VH (_ _:Nat) (_ _ _ _:Array Value) (_:Option Addr) (_ _:Nat) (_ _:bD) (_ _ _ _:Bool) (_:Int):Nat→Value
 | 9=>(.int .i64 140)
 | _=>undef
def Xg (_ _:Nat) (_ CS _ _:Array Value) (ak:Option Addr) (n c:Nat) (_ _:bD) (r1 _ _ _:Bool) (_:Int):Nat→Value
 | 15=>(.int .i64 0)
 | 16=>(.bool true)
 | 17=>(.bool true)
 | 18=>(bif true then (.slice ak n c) else undef)
 | 19=>(bif true then (.agg CS) else undef)
 | 20=>(bif true then (.bool r1) else undef)
 | 21=>(bif true then (.bool (!r1)) else undef)
 | 22=>(.bool (true && (!r1)))
 | _=>undef
def Ve (_ p:Nat) (_ _ _ _:Array Value) (ak:Option Addr) (n c:Nat) (_ _:bD) (_ _ _ _:Bool) (_:Int):Nat→Value
 | 0=>(.slice ak n c)
 | 8=>(.pointer (some ⟨p,0,none⟩))
 | 9=>(.int .i64 0)
 | _=>undef
def XH (_ p:Nat) (C _ T1 T2:Array Value) (_:Option Addr) (_ _:Nat) (_ _:bD) (_ r2 _ _:Bool) (_:Int):Nat→Value
 | 23=>(.int .i64 141)
 | 24=>(.bool false)
 | 25=>(.bool false)
 | 26=>(bif false then (.pointer (some ⟨p,1,none⟩)) else undef)
 | 27=>(bif false then (.agg T1) else undef)
 | 28=>(bif false then (.agg C) else undef)
 | 29=>(bif false then (.agg T2) else undef)
 | 30=>(bif false then (.bool (!r2)) else undef)
 | 31=>(.bool (false && (!r2)))
 | _=>undef
def U8 (_ _:Nat) (_ _ _ _:Array Value) (_:Option Addr) (_ _:Nat) (_ _:bD) (_ _ _ _:Bool) (_:Int):Nat→Value
 | 9=>(.int .i64 141)
 | _=>undef
def WE (_ p:Nat) (C _ T1 T2:Array Value) (_:Option Addr) (_ _:Nat) (_ _:bD) (_ r2 _ _:Bool) (_:Int):Nat→Value
 | 23=>(.int .i64 0)
 | 24=>(.bool true)
 | 25=>(.bool true)
 | 26=>(bif true then (.pointer (some ⟨p,1,none⟩)) else undef)
 | 27=>(bif true then (.agg T1) else undef)
 | 28=>(bif true then (.agg C) else undef)
 | 29=>(bif true then (.agg T2) else undef)
 | 30=>(bif true then (.bool (!r2)) else undef)
 | 31=>(.bool (true && (!r2)))
 | _=>undef
def Vk (B p:Nat) (_ _ _ _:Array Value) (_:Option Addr) (_ _:Nat) (_ _:bD) (_ _ _ _:Bool) (_:Int):Nat→Value
 | 4=>(.pointer (some ⟨B,0,none⟩))
 | 8=>(.pointer (some ⟨p,0,none⟩))
 | 9=>(.int .i64 0)
 | _=>undef
def Xk (B p:Nat) (_ _ _ _:Array Value) (_:Option Addr) (_ _:Nat) (M S:bD) (_ _ r3 _:Bool) (_:Int):Nat→Value
 | 32=>(.int .i64 0)
 | 33=>(.bool true)
 | 34=>(.bool true)
 | 35=>(bif true then (.pointer (some ⟨p,0,none⟩)) else undef)
 | 36=>(bif true then (.int .i64 S.ver.1) else undef)
 | 37=>(bif true then (.pointer (some ⟨B,0,none⟩)) else undef)
 | 38=>(bif true then (.int .i64 M.ver.1) else undef)
 | 39=>(bif true then (.bool (!r3)) else undef)
 | 40=>(.bool (true && (!r3)))
 | _=>undef
def VK (B p:Nat) (_ _ _ _:Array Value) (_:Option Addr) (_ _:Nat) (_ _:bD) (_ _ _ _:Bool) (_:Int):Nat→Value
 | 4=>(.pointer (some ⟨B,0,none⟩))
 | 8=>(.pointer (some ⟨p,0,none⟩))
 | 9=>(.int .i64 0)
 | _=>undef
def WU (B p:Nat) (_ _ _ _:Array Value) (_:Option Addr) (_ _:Nat) (M S:bD) (_ _ _ r5:Bool) (cE:Int):Nat→Value
 | 46=>(.int .i64 0)
 | 47=>(.bool true)
 | 48=>(.bool true)
 | 49=>(bif true then (.pointer (some ⟨B,34,none⟩)) else undef)
 | 50=>(bif true then (.agg #[.slice M.cfg.wa M.cfg.ws.length M.cfg.wc, .slice M.cfg.pa M.cfg.ps.length M.cfg.pc, .slice M.cfg.ca M.cfg.cs.length M.cfg.cc]) else undef)
 | 51=>(bif true then (.pointer (some ⟨p,34,none⟩)) else undef)
 | 52=>(bif true then (.agg #[.slice S.cfg.wa S.cfg.ws.length S.cfg.wc, .slice S.cfg.pa S.cfg.ps.length S.cfg.pc, .slice S.cfg.ca S.cfg.cs.length S.cfg.cc]) else undef)
 | 53=>(bif true then (.int .i64 cE) else undef)
 | 54=>(bif true then (.bool (!r5)) else undef)
 | 55=>(.bool (true && (!r5)))
 | _=>undef
def Vd (B p:Nat) (_ _ _ _:Array Value) (_:Option Addr) (_ _:Nat) (_ _:bD) (_ _ _ _:Bool) (_:Int):Nat→Value
 | 4=>(.pointer (some ⟨B,0,none⟩))
 | 8=>(.pointer (some ⟨p,0,none⟩))
 | 9=>(.int .i64 0)
 | _=>undef
theorem Aj (w:World) (ak:Option Addr) (key:List UInt8) (c:Nat) (hk:Row w ak key c) (hkl:key.length≤100000) (M:bD) (h:M.At w) (hs:bV M.cfg) (ab:Option Addr) (l:List UInt8) (cb:Nat) (hb:Row w ab l cb):Calls Tryz.prog 27 #[.slice ak key.length c, .agg (cM M), .slice ab l.length cb] w fun e w'=>∃U:bD,e= .returned (.tuple #[.agg (cM U), .int .i64 (iP key M.man l)])∧U.man=jE key M.man l∧jo w.heap.size w' U∧Below w.heap.size w w':=by
 have HAM:=AQ (fun ρ d ty ps af w=>gy ρ d ty ps (af:=af) w)
 have HBM:=AQ (fun ρ d ty ps af w=>uN ρ d ty ps (af:=af) w)
 obtain⟨Z,hZ⟩:=AU (cM zM)
 rw[←hZ.o] at HAM HBM
 have HZS:Hid (Z.size=69∧Z.all (·.oneCell')=true):=by rw[hZ.o];exact⟨eY rfl rfl,eH _⟩
 obtain⟨C,hC⟩:=AU (cM M)
 obtain⟨w0,hw0⟩:=AV ((w.alloc (.cells C 55)).alloc (.cells Z 55))
 have B1:Below (w.alloc (.cells C 55)).heap.size (w.alloc (.cells C 55)) w0:=by rw[hw0];exact(Below.refl _ _).alloc (Nat.le_refl _) _
 have B0:Below w.heap.size w w0:=((Below.refl _ w).alloc (Nat.le_refl _) _).trans (B1.mono AO)
 have hI:fE w0 w.heap.size M:=by rw[hC.o] at B1;exact(fE.new w h).keep B1
 obtain⟨g,hg⟩:=AV (w.heap.size+1)
 have hgb:w0.heap[g]? =some (.cells Z 55 (0,0)):=by
  rw[hw0,hg];have:=heap_alloc_new (w.alloc (.cells C 55)) (.cells Z 55);simpa using this
 have HGW:Hid (g=w.heap.size+1):=hg
 have HGS:Hid (w0.heap.size=w.heap.size+2):=by rw[Hid,hw0];simp
 have HG:=AQ hgb
 have HI0:=AQ hI
 have HB0:=AQ B0
 have HK:=AQ hk
 have HMV:=AQ h
 obtain⟨E,hE⟩:=AU (nR l)
 have hp:=Af w0 (hb.stay B0)
 rw[←hE.o] at hp
 have HP:=AQ hp
 obtain⟨QE,hQE⟩:=AU (iP key M.man l)
 obtain⟨QM,hQM⟩:=AU (jE key M.man l)
 obtain⟨n,hn⟩:=AU key.length
 rw[←hC.o,←hn.o,←hQE.o,←hQM.o]
 clear hgb hI h B0 B1 hk hp hb
 go_enter Tryz.func27,Tryz.ntmps27
 go_upto_region 1 with ((with_reducible refine aj (o:=⟨some 6, .alloc _,_,_,_,_⟩) AA (HAM.o _ _ _ _ _ _) ?_))
 rw[←hw0,←hg]
 clear hw0 hg
 go_wp2_with fail
 refine(HP.o).mono ?_
 rintro e w1 ⟨S,rfl,hSm,hSF,hb1⟩
 have HB1:=AQ (HB0.o.trans (hb1.mono HB0.o.size))
 have HI1:=AQ (HI0.o.keep hb1)
 have HG1:=AQ (aH HG.o hb1)
 have HSM:=AQ hSm
 have HSF:=AQ hSF
 have HS0:Hid (w0.heap.size≤w1.heap.size):=hb1.size
 obtain⟨CS,hCS⟩:=AU (cM S)
 have HCS:Hid (CS.size=69∧CS.all (·.oneCell')=true):=by rw[hCS.o];exact⟨eY HSF.o.p32 HSF.o.t32,eH _⟩
 rw[←hCS.o]
 obtain⟨p,hp⟩:=AV (w1.heap.size)
 have HNW:=AQ (heap_alloc_new w1 (.cells Z 55))
 clear hb1 HP HI0 HG hSm hSF HB0
 go_upto_region 2 with (first |((with_reducible refine aj (o:=⟨some 8, .alloc _,_,_,_,_⟩) AA (HAM.o _ _ _ _ _ _) ?_)) |((with_reducible refine au (o:=⟨none, .store _ (.tmp 8) (.tmp 13),_,_,_,_⟩) eU (.tmp 8) (.tmp 13) AA AA AA AA AA HNW.o HZS.o.1 HCS.o.1 HCS.o.2 ?_);intro w3 hbw3 hSw3;have HBw3:=AQ hbw3;have HSw3:=AQ hSw3;clear hbw3 hSw3))
 have HS3:Hid (Below w1.heap.size w1 w3):=by
  have h1:Below w1.heap.size w1 (w1.alloc (.cells Z 55)):=(Below.refl _ _).alloc (Nat.le_refl _) _
  exact h1.trans (HSw3.o.below AO (fun k hk=>by omega))
 have HIM:=AQ (HI1.o.keep HS3.o)
 have HIS:Hid (fE w3 p S):=by rw[Hid,hp];exact⟨by rw[←hCS.o];exact HBw3.o,HSF.o.p32,HSF.o.t32⟩
 have HG3:=AQ (aH HG1.o HS3.o)
 have HB3:=AQ (HB1.o.trans (HS3.o.mono HB1.o.size))
 have HF3:Hid (jo w0.heap.size w3 S):=⟨HSF.o.p32,HSF.o.t32,HSF.o.cfg.stay HS3.o⟩
 have HPW:Hid (w0.heap.size≤p):=by rw[Hid,hp];exact HS0.o
 rw[←hp]
 clear HBw3 HSw3 HNW HS3 HI1 HG1 HB1 HSF HS0 hp
 obtain⟨ok,hok⟩:=AU (qx l)
 cases ok with
 |
  false=>
  have e1:E=140:=by rw[hE.o,nR,←hok.o];rfl
  subst e1
  have C5:∀q:After w3,(Instr.loadAt 55 (.pointer (some ⟨p,0,none⟩))).run Tryz.prog q.to= .ok (.agg CS) q.to:=fun q=>by rw[hCS.o];exact(HIS.o.keep q.bel).whole
  obtain⟨r1,r2,r3,r5,cE,T1,T2, -⟩:∃(_ _ _ _:Bool) (_:Int) (_ _:Array Value),True:=⟨true,true,true,true,0, #[], #[],trivial⟩
  go_upto_region 4 with fail
  refine eu (Xu w.heap.size p C CS T1 T2 ak n c M S r1 r2 r3 r5 cE) (VH w.heap.size p C CS T1 T2 ak n c M S r1 r2 r3 r5 cE) [9] AB AB AB ⟨rfl,trivial⟩ ?_ ?_
  ·repeat' (first |exact aQ |refine aB ?_ ?_)
   all_goals intro a hk
   ·
    exact .inl ⟨ah rfl,aO (.tmp 9) rfl (hk.o 9)⟩
   ·
    exact .inl ⟨ah rfl,eP rfl (hk.s 23) rfl (v:= .bool (((140:Int)==0))) (fun w=>AB) (congrArg Value.bool (rfl))⟩
   ·
    exact .inl ⟨ah rfl,aO (.tmp 24) rfl (hk.s 24)⟩
   ·
    exact hk.no 25 true
   ·
    exact hk.no 25 true
   ·
    exact hk.no 25 true
   ·
    exact hk.no 25 true
   ·
    exact hk.no 25 true
   ·
    exact .inl ⟨ah rfl,aI rfl false (hk.s 25) rfl⟩
  intro a ⟨w5,hb5⟩ hsame hall
  have he:=bn hsame [23,24,25,26,27,28,29,30,31] AB
  simp only[List.foldl_cons,List.foldl_nil] at he
  rw[show a.eval (.tmp 31)=(.bool false) from(hall 31 AB).trans (rfl)] at he
  generalize a.eval (.tmp 23)=x23 at he
  generalize a.eval (.tmp 24)=x24 at he
  generalize a.eval (.tmp 25)=x25 at he
  generalize a.eval (.tmp 26)=x26 at he
  generalize a.eval (.tmp 27)=x27 at he
  generalize a.eval (.tmp 28)=x28 at he
  generalize a.eval (.tmp 29)=x29 at he
  generalize a.eval (.tmp 30)=x30 at he
  simp only[cu] at he
  dsimp only[List.set_cons_zero,List.set_cons_succ] at he
  subst he
  clear hsame hall
  have hqe:Hid (QE=140):=by rw[Hid];rw[hQE.o,iP,←hE.o];rfl
  have HG9:=AQ (aH HG3.o hb5)
  have HB9:=AQ (HB3.o.trans (hb5.mono HB3.o.size))
  go_wp2_with (first |((with_reducible refine aj (o:=⟨some 58, .build _ _,_,_,_,_⟩) AA (HBM.o _ _ _ _ _ _) ?_)) |((with_reducible refine au (o:=⟨none, .store _ (.tmp 6) (.tmp 58),_,_,_,_⟩) eU (.tmp 6) (.tmp 58) AA AA AA AA AA HG9.o HZS.o.1 HZS.o.1 HZS.o.2 ?_);intro wf hbwf hSwf;have HBwf:=AQ hbwf;have HSwf:=AQ hSwf;clear hbwf hSwf))
  refine bodyPost_ret (iY eU rfl rfl HBwf.o HZS.o.1) rfl ⟨zM, ?_, ?_,iM _ _, ?_⟩
  ·(first |rw[hqe.o] |skip);rw[hZ.o];rfl
  ·rw[hQM.o,jE,←hQE.o,hqe.o,if_neg AP];rfl
  ·exact HB9.o.trans (HSwf.o.below HB9.o.size (fun k hk=>by have:=HGW.o;omega))
 |
  true=>
  have e1:E=0:=by rw[hE.o,nR,←hok.o];rfl
  subst e1
  have HKK:Hid (qh l=Fp l):=by rw[Hid,qh,←hok.o];rfl
  have hcs:jf S=true:=by
   rw[jy,HSM.o,HKK.o]
   have:=hok.o.symm
   unfold qx at this
   simp only[Bool.and_eq_true] at this
   exact this.2
  have HSS:Hid (bV S.cfg):=kL (jq hcs)
  have HAS:Hid (S.At w3):=HF3.o.at
  have HAM3:=AQ (HMV.o.stay HB3.o)
  have HK3:=AQ (HK.o.stay HB3.o)
  obtain⟨r1,h1⟩:=AU (qp key S.man)
  obtain⟨r2,h2⟩:=AU (decide (S.prev=jm M))
  obtain⟨r3,h3⟩:=AU (decide (M.ver.1<S.ver.1))
  obtain⟨cE,hcE⟩:=AU (NQ M.cfg.cfg S.cfg.cfg)
  obtain⟨r5,h5⟩:=AU (decide (cE=0))
  obtain⟨vE,hvE⟩:=AU (Oj S.cfg.cfg)
  have HQ:Hid (QE=yM [if r1 then 0 else 141,if r2 then 0 else 142,if r3 then 0 else 143,vE,if r5 then 0 else 130]):=by
   rw[Hid,hQE.o,iP,←hE.o,if_neg AP,QI,←HSM.o,h1.o,h2.o,h3.o,hvE.o,h5.o,hcE.o,rM]
   simp only[decide_eq_true_eq];rfl
  obtain⟨T1,hT1⟩:=AU ((S.prev.map vb).toArray)
  obtain⟨T2,hT2⟩:=AU (((jm M).map vb).toArray)
  have HR1:Hid (∀q:After w3,Calls Tryz.prog 30 #[.slice ak n c, .agg CS] q.to fun e w'=>e= .returned (.bool r1)∧Below q.to.heap.size q.to w'):=fun q=>by rw[hCS.o,h1.o,hn.o];exact zZ q.to ak key c (HK3.o.stay q.bel) hkl S (HAS.o.stay q.bel)
  have HH2:Hid (∀q:After w3,Calls Tryz.prog 19 #[.agg C] q.to fun e w'=>e= .returned (.agg T2)∧Below q.to.heap.size q.to w'):=fun q=>by rw[hC.o,hT2.o];exact ug q.to M (HAM3.o.stay q.bel)
  have HC5:Hid (∀q:After w3,Calls Tryz.prog 78 #[.agg #[.slice M.cfg.wa M.cfg.ws.length M.cfg.wc, .slice M.cfg.pa M.cfg.ps.length M.cfg.pc, .slice M.cfg.ca M.cfg.cs.length M.cfg.cc], .agg #[.slice S.cfg.wa S.cfg.ws.length S.cfg.wc, .slice S.cfg.pa S.cfg.ps.length S.cfg.pc, .slice S.cfg.ca S.cfg.cs.length S.cfg.cc]] q.to fun e w'=>e= .returned (.int .i64 cE)∧Below q.to.heap.size q.to w'):=fun q=>by
   have:=Ht q.to M.cfg S.cfg (HAM3.o.cfg.stay q.bel) (HAS.o.cfg.stay q.bel) hs HSS.o
   rw[Ci,←hcE.o] at this
   exact this
  have C5:∀q:After w3,(Instr.loadAt 55 (.pointer (some ⟨p,0,none⟩))).run Tryz.prog q.to= .ok (.agg CS) q.to:=fun q=>by rw[hCS.o];exact(HIS.o.keep q.bel).whole
  have C6:∀q:After w3,(Instr.loadAt 53 (.pointer (some ⟨p,1,none⟩))).run Tryz.prog q.to= .ok (.agg T1) q.to:=fun q=>by rw[hT1.o];exact(HIS.o.keep q.bel).prev
  have C7:∀q:After w3,(Instr.loadAt 55 (.pointer (some ⟨w.heap.size,0,none⟩))).run Tryz.prog q.to= .ok (.agg C) q.to:=fun q=>by rw[hC.o];exact(HIM.o.keep q.bel).whole
  have HX2:Hid (∀w:World,(do eqGuard .neq 53 (.tmp 27) (.tmp 29) (.agg T1) (.agg T2);binOp .neq 53 (.agg T1) (.agg T2):Sem Value).run Tryz.prog w= .ok (.bool (!r2)) w):=fun w=>by
   rw[hT1.o,hT2.o,h2.o];exact LY Ec.guard _ _ (kZ Ec _ _ HIS.o.p32 (jK _)) w
  have HX3:Hid (decide ((S.ver.1:Int)≤M.ver.1)= !r3):=by
   rw[Hid,h3.o,←decide_not];exact decide_eq_decide.2 AL
  have HX5:Hid (((cE:Int) !=0)= !r5):=by rw[Hid,h5.o];rfl
  go_upto_region 2 with fail
  refine bJ (Xg w.heap.size p C CS T1 T2 ak n c M S r1 r2 r3 r5 cE) (Ve w.heap.size p C CS T1 T2 ak n c M S r1 r2 r3 r5 cE) [0,8,9] AB ⟨rfl,rfl,rfl,trivial⟩ ?_ ?_
  ·repeat' (first |exact aQ |refine aB ?_ ?_)
   all_goals intro a hk
   ·
    exact .inl ⟨ah rfl,aO (.tmp 9) rfl (hk.o 9)⟩
   ·
    exact .inl ⟨ah rfl,eP rfl (hk.s 15) rfl (v:= .bool (((0:Int)==0))) (fun w=>AB) (congrArg Value.bool (rfl))⟩
   ·
    exact .inl ⟨ah rfl,aO (.tmp 16) rfl (hk.s 16)⟩
   ·
    exact .inl ⟨hk.yes 17 true,aO (.tmp 0) rfl (hk.o 0)⟩
   ·
    exact .inl ⟨hk.yes 17 true,aV (.tmp 8) rfl (hk.o 8) (v:=(.agg CS)) (fun q=>C5 q) rfl⟩
   ·
    exact .inl ⟨hk.yes 17 true,dV rfl rfl #[(.slice ak n c),(.agg CS)] (fun w=>AB) (by simp only[List.map_toArray,List.map_cons,List.map_nil,(show a.eval (.tmp 18)=(.slice ak n c) from hk.s 18),(show a.eval (.tmp 19)=(.agg CS) from hk.s 19)]) (v:=(.bool r1)) (fun q=>HR1.o q) rfl⟩
   ·
    exact .inl ⟨hk.yes 17 true,qN rfl _ (hk.s 20) rfl⟩
   ·
    exact .inl ⟨ah rfl,aI rfl true (hk.s 17) (hk.s 21)⟩
  intro a ⟨wa,hba⟩ hsame hall
  have he:=bn hsame [15,16,17,18,19,20,21,22] AB
  simp only[List.foldl_cons,List.foldl_nil] at he
  rw[show a.eval (.tmp 22)=(.bool (true && (!r1))) from hall 22 AB] at he
  generalize a.eval (.tmp 15)=x15 at he
  generalize a.eval (.tmp 16)=x16 at he
  generalize a.eval (.tmp 17)=x17 at he
  generalize a.eval (.tmp 18)=x18 at he
  generalize a.eval (.tmp 19)=x19 at he
  generalize a.eval (.tmp 20)=x20 at he
  generalize a.eval (.tmp 21)=x21 at he
  simp only[cu] at he
  dsimp only[List.set_cons_zero,List.set_cons_succ] at he
  subst he
  clear hsame hall
  have HIM:=AQ (HIM.o.keep hba)
  have HIS:=AQ (HIS.o.keep hba)
  have HG3:=AQ (aH HG3.o hba)
  have HB3:=AQ (HB3.o.trans (hba.mono HB3.o.size))
  have HF3:Hid (jo w0.heap.size wa S):=⟨HF3.o.p32,HF3.o.t32,HF3.o.cfg.stay hba⟩
  have HR1:Hid (∀q:After wa,_):=fun q=>HR1.o ⟨q.to,hba.trans (q.bel.mono hba.size)⟩
  have HH2:Hid (∀q:After wa,_):=fun q=>HH2.o ⟨q.to,hba.trans (q.bel.mono hba.size)⟩
  have HC5:Hid (∀q:After wa,_):=fun q=>HC5.o ⟨q.to,hba.trans (q.bel.mono hba.size)⟩
  have C5:∀q:After wa,_:=fun q=>C5 ⟨q.to,hba.trans (q.bel.mono hba.size)⟩
  have C6:∀q:After wa,_:=fun q=>C6 ⟨q.to,hba.trans (q.bel.mono hba.size)⟩
  have C7:∀q:After wa,_:=fun q=>C7 ⟨q.to,hba.trans (q.bel.mono hba.size)⟩
  cases r1 with
  |
   false=>
   have hqe:Hid (QE=141):=by rw[Hid];rw[HQ.o];rfl
   go_upto_region 4 with fail
   refine eu (XH w.heap.size p C CS T1 T2 ak n c M S false r2 r3 r5 cE) (U8 w.heap.size p C CS T1 T2 ak n c M S false r2 r3 r5 cE) [9] AB AB AB ⟨rfl,trivial⟩ ?_ ?_
   ·repeat' (first |exact aQ |refine aB ?_ ?_)
    all_goals intro a hk
    ·
     exact .inl ⟨ah rfl,aO (.tmp 9) rfl (hk.o 9)⟩
    ·
     exact .inl ⟨ah rfl,eP rfl (hk.s 23) rfl (v:= .bool (((141:Int)==0))) (fun w=>AB) (congrArg Value.bool (rfl))⟩
    ·
     exact .inl ⟨ah rfl,aO (.tmp 24) rfl (hk.s 24)⟩
    ·
     exact hk.no 25 true
    ·
     exact hk.no 25 true
    ·
     exact hk.no 25 true
    ·
     exact hk.no 25 true
    ·
     exact hk.no 25 true
    ·
     exact .inl ⟨ah rfl,aI rfl false (hk.s 25) rfl⟩
   intro a ⟨wb,hbb⟩ hsame hall
   have he:=bn hsame [23,24,25,26,27,28,29,30,31] AB
   simp only[List.foldl_cons,List.foldl_nil] at he
   rw[show a.eval (.tmp 31)=(.bool false) from(hall 31 AB).trans (rfl)] at he
   generalize a.eval (.tmp 23)=x23 at he
   generalize a.eval (.tmp 24)=x24 at he
   generalize a.eval (.tmp 25)=x25 at he
   generalize a.eval (.tmp 26)=x26 at he
   generalize a.eval (.tmp 27)=x27 at he
   generalize a.eval (.tmp 28)=x28 at he
   generalize a.eval (.tmp 29)=x29 at he
   generalize a.eval (.tmp 30)=x30 at he
   simp only[cu] at he
   dsimp only[List.set_cons_zero,List.set_cons_succ] at he
   subst he
   clear hsame hall
   have HG9:=AQ (aH HG3.o hbb)
   have HB9:=AQ (HB3.o.trans (hbb.mono HB3.o.size))
   go_wp2_with (first |((with_reducible refine aj (o:=⟨some 58, .build _ _,_,_,_,_⟩) AA (HBM.o _ _ _ _ _ _) ?_)) |((with_reducible refine au (o:=⟨none, .store _ (.tmp 6) (.tmp 58),_,_,_,_⟩) eU (.tmp 6) (.tmp 58) AA AA AA AA AA HG9.o HZS.o.1 HZS.o.1 HZS.o.2 ?_);intro wf hbwf hSwf;have HBwf:=AQ hbwf;have HSwf:=AQ hSwf;clear hbwf hSwf))
   refine bodyPost_ret (iY eU rfl rfl HBwf.o HZS.o.1) rfl ⟨zM, ?_, ?_,iM _ _, ?_⟩
   ·(first |rw[hqe.o] |skip);rw[hZ.o];rfl
   ·rw[hQM.o,jE,←hQE.o,hqe.o,if_neg AP];rfl
   ·exact HB9.o.trans (HSwf.o.below HB9.o.size (fun k hk=>by have:=HGW.o;omega))
  |
   true=>
   go_upto_region 4 with fail
   refine eu (WE w.heap.size p C CS T1 T2 ak n c M S true r2 r3 r5 cE) (Vk w.heap.size p C CS T1 T2 ak n c M S true r2 r3 r5 cE) [4,8,9] AB AB AB ⟨rfl,rfl,rfl,trivial⟩ ?_ ?_
   ·repeat' (first |exact aQ |refine aB ?_ ?_)
    all_goals intro a hk
    ·
     exact .inl ⟨ah rfl,aO (.tmp 9) rfl (hk.o 9)⟩
    ·
     exact .inl ⟨ah rfl,eP rfl (hk.s 23) rfl (v:= .bool (((0:Int)==0))) (fun w=>AB) (congrArg Value.bool (rfl))⟩
    ·
     exact .inl ⟨ah rfl,aO (.tmp 24) rfl (hk.s 24)⟩
    ·
     exact .inl ⟨hk.yes 25 true,aX (.tmp 8) rfl (hk.o 8) (v:=(.pointer (some ⟨p,1,none⟩))) (fun w=>AB) rfl⟩
    ·
     exact .inl ⟨hk.yes 25 true,aV (.tmp 26) rfl (hk.s 26) (v:=(.agg T1)) (fun q=>C6 q) rfl⟩
    ·
     exact .inl ⟨hk.yes 25 true,aV (.tmp 4) rfl (hk.o 4) (v:=(.agg C)) (fun q=>C7 q) rfl⟩
    ·
     exact .inl ⟨hk.yes 25 true,dV rfl rfl #[(.agg C)] (fun w=>AB) (by simp only[List.map_toArray,List.map_cons,List.map_nil,(show a.eval (.tmp 28)=(.agg C) from hk.s 28)]) (v:=(.agg T2)) (fun q=>HH2.o q) rfl⟩
    ·
     exact .inl ⟨hk.yes 25 true,eP rfl (hk.s 27) (hk.s 29) (v:=(.bool (!r2))) (fun w=>HX2.o w) rfl⟩
    ·
     exact .inl ⟨ah rfl,aI rfl true (hk.s 25) (hk.s 30)⟩
   intro a ⟨wb,hbb⟩ hsame hall
   have he:=bn hsame [23,24,25,26,27,28,29,30,31] AB
   simp only[List.foldl_cons,List.foldl_nil] at he
   rw[show a.eval (.tmp 31)=(.bool (true && (!r2))) from hall 31 AB] at he
   generalize a.eval (.tmp 23)=x23 at he
   generalize a.eval (.tmp 24)=x24 at he
   generalize a.eval (.tmp 25)=x25 at he
   generalize a.eval (.tmp 26)=x26 at he
   generalize a.eval (.tmp 27)=x27 at he
   generalize a.eval (.tmp 28)=x28 at he
   generalize a.eval (.tmp 29)=x29 at he
   generalize a.eval (.tmp 30)=x30 at he
   simp only[cu] at he
   dsimp only[List.set_cons_zero,List.set_cons_succ] at he
   subst he
   clear hsame hall
   have HIM:=AQ (HIM.o.keep hbb)
   have HIS:=AQ (HIS.o.keep hbb)
   have HG3:=AQ (aH HG3.o hbb)
   have HB3:=AQ (HB3.o.trans (hbb.mono HB3.o.size))
   have HF3:Hid (jo w0.heap.size wb S):=⟨HF3.o.p32,HF3.o.t32,HF3.o.cfg.stay hbb⟩
   have HR1:Hid (∀q:After wb,_):=fun q=>HR1.o ⟨q.to,hbb.trans (q.bel.mono hbb.size)⟩
   have HH2:Hid (∀q:After wb,_):=fun q=>HH2.o ⟨q.to,hbb.trans (q.bel.mono hbb.size)⟩
   have HC5:Hid (∀q:After wb,_):=fun q=>HC5.o ⟨q.to,hbb.trans (q.bel.mono hbb.size)⟩
   have C5:∀q:After wb,_:=fun q=>C5 ⟨q.to,hbb.trans (q.bel.mono hbb.size)⟩
   have C6:∀q:After wb,_:=fun q=>C6 ⟨q.to,hbb.trans (q.bel.mono hbb.size)⟩
   have C7:∀q:After wb,_:=fun q=>C7 ⟨q.to,hbb.trans (q.bel.mono hbb.size)⟩
   cases r2 with
   |
    false=>
    have hqe:Hid (QE=142):=by rw[Hid];rw[HQ.o];rfl
    have hrf:=Below.refl wb.heap.size wb
    have HG9:=AQ (aH HG3.o hrf)
    have HB9:=AQ (HB3.o.trans (hrf.mono HB3.o.size))
    go_wp2_with (first |((with_reducible refine aj (o:=⟨some 58, .build _ _,_,_,_,_⟩) AA (HBM.o _ _ _ _ _ _) ?_)) |((with_reducible refine au (o:=⟨none, .store _ (.tmp 6) (.tmp 58),_,_,_,_⟩) eU (.tmp 6) (.tmp 58) AA AA AA AA AA HG9.o HZS.o.1 HZS.o.1 HZS.o.2 ?_);intro wf hbwf hSwf;have HBwf:=AQ hbwf;have HSwf:=AQ hSwf;clear hbwf hSwf))
    refine bodyPost_ret (iY eU rfl rfl HBwf.o HZS.o.1) rfl ⟨zM, ?_, ?_,iM _ _, ?_⟩
    ·(first |rw[hqe.o] |skip);rw[hZ.o];rfl
    ·rw[hQM.o,jE,←hQE.o,hqe.o,if_neg AP];rfl
    ·exact HB9.o.trans (HSwf.o.below HB9.o.size (fun k hk=>by have:=HGW.o;omega))
   |
    true=>
    go_upto_region 6 with fail
    refine bJ (Xk w.heap.size p C CS T1 T2 ak n c M S true true r3 r5 cE) (VK w.heap.size p C CS T1 T2 ak n c M S true true r3 r5 cE) [4,8,9] AB ⟨rfl,rfl,rfl,trivial⟩ ?_ ?_
    ·repeat' (first |exact aQ |refine aB ?_ ?_)
     all_goals intro a hk
     ·
      exact .inl ⟨ah rfl,aO (.tmp 9) rfl (hk.o 9)⟩
     ·
      exact .inl ⟨ah rfl,eP rfl (hk.s 32) rfl (v:= .bool (((0:Int)==0))) (fun w=>AB) (congrArg Value.bool (rfl))⟩
     ·
      exact .inl ⟨ah rfl,aO (.tmp 33) rfl (hk.s 33)⟩
     ·
      exact .inl ⟨hk.yes 34 true,aX (.tmp 8) rfl (hk.o 8) (v:=(.pointer (some ⟨p,0,none⟩))) (fun w=>AB) rfl⟩
     ·
      exact .inl ⟨hk.yes 34 true,aV (.tmp 35) rfl (hk.s 35) (v:=(.int .i64 S.ver.1)) (fun q=>aT (fun w=>AB) (HIS.o.keep q.bel).ver) rfl⟩
     ·
      exact .inl ⟨hk.yes 34 true,aX (.tmp 4) rfl (hk.o 4) (v:=(.pointer (some ⟨w.heap.size,0,none⟩))) (fun w=>AB) rfl⟩
     ·
      exact .inl ⟨hk.yes 34 true,aV (.tmp 37) rfl (hk.s 37) (v:=(.int .i64 M.ver.1)) (fun q=>aT (fun w=>AB) (HIM.o.keep q.bel).ver) rfl⟩
     ·
      exact .inl ⟨hk.yes 34 true,eP rfl (hk.s 36) (hk.s 38) (v:= .bool (decide ((S.ver.1:Int)≤M.ver.1))) (fun w=>AB) (congrArg Value.bool (HX3.o))⟩
     ·
      exact .inl ⟨ah rfl,aI rfl true (hk.s 34) (hk.s 39)⟩
    intro a ⟨wc,hbc⟩ hsame hall
    have he:=bn hsame [32,33,34,35,36,37,38,39,40] AB
    simp only[List.foldl_cons,List.foldl_nil] at he
    rw[show a.eval (.tmp 40)=(.bool (true && (!r3))) from hall 40 AB] at he
    generalize a.eval (.tmp 32)=x32 at he
    generalize a.eval (.tmp 33)=x33 at he
    generalize a.eval (.tmp 34)=x34 at he
    generalize a.eval (.tmp 35)=x35 at he
    generalize a.eval (.tmp 36)=x36 at he
    generalize a.eval (.tmp 37)=x37 at he
    generalize a.eval (.tmp 38)=x38 at he
    generalize a.eval (.tmp 39)=x39 at he
    simp only[cu] at he
    dsimp only[List.set_cons_zero,List.set_cons_succ] at he
    subst he
    clear hsame hall
    have HIM:=AQ (HIM.o.keep hbc)
    have HIS:=AQ (HIS.o.keep hbc)
    have HG3:=AQ (aH HG3.o hbc)
    have HB3:=AQ (HB3.o.trans (hbc.mono HB3.o.size))
    have HF3:Hid (jo w0.heap.size wc S):=⟨HF3.o.p32,HF3.o.t32,HF3.o.cfg.stay hbc⟩
    have HR1:Hid (∀q:After wc,_):=fun q=>HR1.o ⟨q.to,hbc.trans (q.bel.mono hbc.size)⟩
    have HH2:Hid (∀q:After wc,_):=fun q=>HH2.o ⟨q.to,hbc.trans (q.bel.mono hbc.size)⟩
    have HC5:Hid (∀q:After wc,_):=fun q=>HC5.o ⟨q.to,hbc.trans (q.bel.mono hbc.size)⟩
    have C5:∀q:After wc,_:=fun q=>C5 ⟨q.to,hbc.trans (q.bel.mono hbc.size)⟩
    have C6:∀q:After wc,_:=fun q=>C6 ⟨q.to,hbc.trans (q.bel.mono hbc.size)⟩
    have C7:∀q:After wc,_:=fun q=>C7 ⟨q.to,hbc.trans (q.bel.mono hbc.size)⟩
    cases r3 with
    |
     false=>
     have hqe:Hid (QE=143):=by rw[Hid];rw[HQ.o];rfl
     have hrf:=Below.refl wc.heap.size wc
     have HG9:=AQ (aH HG3.o hrf)
     have HB9:=AQ (HB3.o.trans (hrf.mono HB3.o.size))
     go_wp2_with (first |((with_reducible refine aj (o:=⟨some 58, .build _ _,_,_,_,_⟩) AA (HBM.o _ _ _ _ _ _) ?_)) |((with_reducible refine au (o:=⟨none, .store _ (.tmp 6) (.tmp 58),_,_,_,_⟩) eU (.tmp 6) (.tmp 58) AA AA AA AA AA HG9.o HZS.o.1 HZS.o.1 HZS.o.2 ?_);intro wf hbwf hSwf;have HBwf:=AQ hbwf;have HSwf:=AQ hSwf;clear hbwf hSwf))
     refine bodyPost_ret (iY eU rfl rfl HBwf.o HZS.o.1) rfl ⟨zM, ?_, ?_,iM _ _, ?_⟩
     ·(first |rw[hqe.o] |skip);rw[hZ.o];rfl
     ·rw[hQM.o,jE,←hQE.o,hqe.o,if_neg AP];rfl
     ·exact HB9.o.trans (HSwf.o.below HB9.o.size (fun k hk=>by have:=HGW.o;omega))
    |
     true=>
     have hkv:=pJ yZ wc S.cfg HF3.o.cfg.at HSS.o
     rw[Ih,←hvE.o] at hkv
     have HKV:=AQ hkv
     have d0:=HIS.o.d0
     have d1:=HIS.o.d1
     have d2:=HIS.o.d2
     have f3:=Pz p
     clear hkv
     go_wp2_with fail
     refine(HKV.o).mono ?_
     rintro e1 wd ⟨rfl,hbd⟩
     clear d0 d1 d2 HKV
     have HIM:=AQ (HIM.o.keep hbd)
     have HIS:=AQ (HIS.o.keep hbd)
     have HG3:=AQ (aH HG3.o hbd)
     have HB3:=AQ (HB3.o.trans (hbd.mono HB3.o.size))
     have HF3:Hid (jo w0.heap.size wd S):=⟨HF3.o.p32,HF3.o.t32,HF3.o.cfg.stay hbd⟩
     have HR1:Hid (∀q:After wd,_):=fun q=>HR1.o ⟨q.to,hbd.trans (q.bel.mono hbd.size)⟩
     have HH2:Hid (∀q:After wd,_):=fun q=>HH2.o ⟨q.to,hbd.trans (q.bel.mono hbd.size)⟩
     have HC5:Hid (∀q:After wd,_):=fun q=>HC5.o ⟨q.to,hbd.trans (q.bel.mono hbd.size)⟩
     have C5:∀q:After wd,_:=fun q=>C5 ⟨q.to,hbd.trans (q.bel.mono hbd.size)⟩
     have C6:∀q:After wd,_:=fun q=>C6 ⟨q.to,hbd.trans (q.bel.mono hbd.size)⟩
     have C7:∀q:After wd,_:=fun q=>C7 ⟨q.to,hbd.trans (q.bel.mono hbd.size)⟩
     by_cases hv0:vE=0
     ·subst hv0
      go_upto_region 10 with fail
      refine bJ (WU w.heap.size p C CS T1 T2 ak n c M S true true true r5 cE) (Vd w.heap.size p C CS T1 T2 ak n c M S true true true r5 cE) [4,8,9] AB ⟨rfl,rfl,rfl,trivial⟩ ?_ ?_
      ·repeat' (first |exact aQ |refine aB ?_ ?_)
       all_goals intro a hk
       ·
        exact .inl ⟨ah rfl,aO (.tmp 9) rfl (hk.o 9)⟩
       ·
        exact .inl ⟨ah rfl,eP rfl (hk.s 46) rfl (v:= .bool (((0:Int)==0))) (fun w=>AB) (congrArg Value.bool (rfl))⟩
       ·
        exact .inl ⟨ah rfl,aO (.tmp 47) rfl (hk.s 47)⟩
       ·
        exact .inl ⟨hk.yes 48 true,aX (.tmp 4) rfl (hk.o 4) (v:=(.pointer (some ⟨w.heap.size,34,none⟩))) (fun w=>AB) rfl⟩
       ·
        exact .inl ⟨hk.yes 48 true,aV (.tmp 49) rfl (hk.s 49) (v:=(.agg #[.slice M.cfg.wa M.cfg.ws.length M.cfg.wc, .slice M.cfg.pa M.cfg.ps.length M.cfg.pc, .slice M.cfg.ca M.cfg.cs.length M.cfg.cc])) (fun q=>(HIM.o.keep q.bel).IB) rfl⟩
       ·
        exact .inl ⟨hk.yes 48 true,aX (.tmp 8) rfl (hk.o 8) (v:=(.pointer (some ⟨p,34,none⟩))) (fun w=>AB) rfl⟩
       ·
        exact .inl ⟨hk.yes 48 true,aV (.tmp 51) rfl (hk.s 51) (v:=(.agg #[.slice S.cfg.wa S.cfg.ws.length S.cfg.wc, .slice S.cfg.pa S.cfg.ps.length S.cfg.pc, .slice S.cfg.ca S.cfg.cs.length S.cfg.cc])) (fun q=>(HIS.o.keep q.bel).IB) rfl⟩
       ·
        exact .inl ⟨hk.yes 48 true,dV rfl rfl #[(.agg #[.slice M.cfg.wa M.cfg.ws.length M.cfg.wc, .slice M.cfg.pa M.cfg.ps.length M.cfg.pc, .slice M.cfg.ca M.cfg.cs.length M.cfg.cc]),(.agg #[.slice S.cfg.wa S.cfg.ws.length S.cfg.wc, .slice S.cfg.pa S.cfg.ps.length S.cfg.pc, .slice S.cfg.ca S.cfg.cs.length S.cfg.cc])] (fun w=>AB) (by simp only[List.map_toArray,List.map_cons,List.map_nil,(show a.eval (.tmp 50)=(.agg #[.slice M.cfg.wa M.cfg.ws.length M.cfg.wc, .slice M.cfg.pa M.cfg.ps.length M.cfg.pc, .slice M.cfg.ca M.cfg.cs.length M.cfg.cc]) from hk.s 50),(show a.eval (.tmp 52)=(.agg #[.slice S.cfg.wa S.cfg.ws.length S.cfg.wc, .slice S.cfg.pa S.cfg.ps.length S.cfg.pc, .slice S.cfg.ca S.cfg.cs.length S.cfg.cc]) from hk.s 52)]) (v:=(.int .i64 cE)) (fun q=>HC5.o q) rfl⟩
       ·
        exact .inl ⟨hk.yes 48 true,eP rfl (hk.s 53) rfl (v:= .bool (((cE:Int) !=0))) (fun w=>AB) (congrArg Value.bool (HX5.o))⟩
       ·
        exact .inl ⟨ah rfl,aI rfl true (hk.s 48) (hk.s 54)⟩
      intro a ⟨we,hbe⟩ hsame hall
      have he:=bn hsame [46,47,48,49,50,51,52,53,54,55] AB
      simp only[List.foldl_cons,List.foldl_nil] at he
      rw[show a.eval (.tmp 55)=(.bool (true && (!r5))) from hall 55 AB] at he
      generalize a.eval (.tmp 46)=x46 at he
      generalize a.eval (.tmp 47)=x47 at he
      generalize a.eval (.tmp 48)=x48 at he
      generalize a.eval (.tmp 49)=x49 at he
      generalize a.eval (.tmp 50)=x50 at he
      generalize a.eval (.tmp 51)=x51 at he
      generalize a.eval (.tmp 52)=x52 at he
      generalize a.eval (.tmp 53)=x53 at he
      generalize a.eval (.tmp 54)=x54 at he
      simp only[cu] at he
      dsimp only[List.set_cons_zero,List.set_cons_succ] at he
      subst he
      clear hsame hall
      have HIM:=AQ (HIM.o.keep hbe)
      have HIS:=AQ (HIS.o.keep hbe)
      have HG3:=AQ (aH HG3.o hbe)
      have HB3:=AQ (HB3.o.trans (hbe.mono HB3.o.size))
      have HF3:Hid (jo w0.heap.size we S):=⟨HF3.o.p32,HF3.o.t32,HF3.o.cfg.stay hbe⟩
      have HR1:Hid (∀q:After we,_):=fun q=>HR1.o ⟨q.to,hbe.trans (q.bel.mono hbe.size)⟩
      have HH2:Hid (∀q:After we,_):=fun q=>HH2.o ⟨q.to,hbe.trans (q.bel.mono hbe.size)⟩
      have HC5:Hid (∀q:After we,_):=fun q=>HC5.o ⟨q.to,hbe.trans (q.bel.mono hbe.size)⟩
      have C5:∀q:After we,_:=fun q=>C5 ⟨q.to,hbe.trans (q.bel.mono hbe.size)⟩
      have C6:∀q:After we,_:=fun q=>C6 ⟨q.to,hbe.trans (q.bel.mono hbe.size)⟩
      have C7:∀q:After we,_:=fun q=>C7 ⟨q.to,hbe.trans (q.bel.mono hbe.size)⟩
      have hw:=HIS.o.whole
      rw[←hCS.o] at hw
      have HL5:=AQ hw
      clear hw
      cases r5 with
      |
       false=>
       have hqe:Hid (QE=130):=by rw[Hid];rw[HQ.o];rfl
       have hrf:=Below.refl we.heap.size we
       have HG9:=AQ (aH HG3.o hrf)
       have HB9:=AQ (HB3.o.trans (hrf.mono HB3.o.size))
       go_wp2_with (first |((with_reducible refine aj (o:=⟨some 58, .build _ _,_,_,_,_⟩) AA (HBM.o _ _ _ _ _ _) ?_)) |((with_reducible refine au (o:=⟨none, .store _ (.tmp 6) (.tmp 58),_,_,_,_⟩) eU (.tmp 6) (.tmp 58) AA AA AA AA AA HG9.o HZS.o.1 HZS.o.1 HZS.o.2 ?_);intro wf hbwf hSwf;have HBwf:=AQ hbwf;have HSwf:=AQ hSwf;clear hbwf hSwf))
       refine bodyPost_ret (iY eU rfl rfl HBwf.o HZS.o.1) rfl ⟨zM, ?_, ?_,iM _ _, ?_⟩
       ·(first |rw[hqe.o] |skip);rw[hZ.o];rfl
       ·rw[hQM.o,jE,←hQE.o,hqe.o,if_neg AP];rfl
       ·exact HB9.o.trans (HSwf.o.below HB9.o.size (fun k hk=>by have:=HGW.o;omega))
      |
       true=>
       have hqe:Hid (QE=0):=by rw[Hid];rw[HQ.o];rfl
       go_wp2_with (first |(with_reducible refine aN (o:=⟨some 60, .load 55 (.tmp 8),_,_,_,_⟩) AA AA AA HL5.o ?_) |((with_reducible refine au (o:=⟨none, .store _ (.tmp 6) (.tmp 60),_,_,_,_⟩) eU (.tmp 6) (.tmp 60) AA AA AA AA AA HG3.o HZS.o.1 HCS.o.1 HCS.o.2 ?_);intro wf hbwf hSwf;have HBwf:=AQ hbwf;have HSwf:=AQ hSwf;clear hbwf hSwf))
       refine bodyPost_ret (iY eU rfl rfl HBwf.o HCS.o.1) rfl ⟨S, ?_, ?_,⟨HF3.o.p32,HF3.o.t32, ?_⟩, ?_⟩
       ·(first |rw[hqe.o] |skip);rw[hCS.o];rfl
       ·rw[hQM.o,jE,←hQE.o,hqe.o,if_pos rfl];exact HSM.o
       ·exact(HF3.o.cfg.lM HSwf.o (fun k hk=>by have:=HGW.o;have:=HGS.o;omega)).low (by have:=HGS.o;omega)
       ·exact HB3.o.trans (HSwf.o.below HB3.o.size (fun k hk=>by have:=HGW.o;omega))
     ·have z0:((vE:Int)==0)=false:=by simp[hv0]
      have z1:((vE:Int) !=0)=true:=by simp[hv0]
      have hqe:Hid (QE=vE):=by rw[Hid];rw[HQ.o];simp[yM,hv0]
      have HVN:=AQ hv0
      clear hv0
      have hrf:=Below.refl wd.heap.size wd
      have HG9:=AQ (aH HG3.o hrf)
      have HB9:=AQ (HB3.o.trans (hrf.mono HB3.o.size))
      go_wp2_with (first |((with_reducible refine aj (o:=⟨some 58, .build _ _,_,_,_,_⟩) AA (HBM.o _ _ _ _ _ _) ?_)) |((with_reducible refine au (o:=⟨none, .store _ (.tmp 6) (.tmp 58),_,_,_,_⟩) eU (.tmp 6) (.tmp 58) AA AA AA AA AA HG9.o HZS.o.1 HZS.o.1 HZS.o.2 ?_);intro wf hbwf hSwf;have HBwf:=AQ hbwf;have HSwf:=AQ hSwf;clear hbwf hSwf))
      refine bodyPost_ret (iY eU rfl rfl HBwf.o HZS.o.1) rfl ⟨zM, ?_, ?_,iM _ _, ?_⟩
      ·(first |rw[hqe.o] |skip);rw[hZ.o];rfl
      ·rw[hQM.o,jE,←hQE.o,hqe.o,if_neg (by exact HVN.o)];rfl
      ·exact HB9.o.trans (HSwf.o.below HB9.o.size (fun k hk=>by have:=HGW.o;omega))
end Go.Proofs.YtlholdllibghbaaGreat
