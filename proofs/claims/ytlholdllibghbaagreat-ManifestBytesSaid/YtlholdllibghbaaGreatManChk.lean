/- manifest.Check: walked. -/
import Derived.Test.YtlholdllibghbaaGreatManChk1
import Derived.Test.YtlholdllibghbaaGreatG30
import Derived.Test.YtlholdllibghbaaGreatKit
set_option maxRecDepth 100000
set_option maxHeartbeats 8000000
namespace Go.Proofs.YtlholdllibghbaaGreat
open Go Go.RowKit Go.Cit
def EO:List Int→Int
 | []=>0
 | e::r=>if e≠0 then e else EO r
def Ri (key:List UInt8) (R m:oZ):Int:=
 EO [if wF key m then 0 else 141,if m.prev=pK R then 0 else 142,if R.ver.1<m.ver.1 then 0 else 143,PL m.cfg,if OG R.cfg m.cfg=0 then 0 else 130]
def jB (key:List UInt8) (R:oZ) (l:List UInt8):Int:=if nX l≠0 then nX l else Ri key R (qy l)
def pV (key:List UInt8) (R:oZ) (l:List UInt8):oZ:=if jB key R l=0 then qy l else Tn
theorem U8 (b:Nat) (w:World):(Instr.indexAt 119 (.slice (some ⟨b,0,none⟩) 5 5) (.int .i64 0)).run Tryz.prog w= .ok (.pointer (some ⟨b,0,none⟩)) w:=by kernel_rfl
theorem U2 (b:Nat) (w:World):(Instr.indexAt 119 (.slice (some ⟨b,0,none⟩) 5 5) (.int .i64 1)).run Tryz.prog w= .ok (.pointer (some ⟨b,1,none⟩)) w:=by kernel_rfl
theorem UH (b:Nat) (w:World):(Instr.indexAt 119 (.slice (some ⟨b,0,none⟩) 5 5) (.int .i64 2)).run Tryz.prog w= .ok (.pointer (some ⟨b,2,none⟩)) w:=by kernel_rfl
theorem UM (b:Nat) (w:World):(Instr.indexAt 119 (.slice (some ⟨b,0,none⟩) 5 5) (.int .i64 3)).run Tryz.prog w= .ok (.pointer (some ⟨b,3,none⟩)) w:=by kernel_rfl
theorem UQ (b:Nat) (w:World):(Instr.indexAt 119 (.slice (some ⟨b,0,none⟩) 5 5) (.int .i64 4)).run Tryz.prog w= .ok (.pointer (some ⟨b,4,none⟩)) w:=by kernel_rfl
def Uj (g p:Nat) (C CS T1 T2:Array Value) (a:Option Addr) (n c:Nat) (M S:aV) (r1 r2 r3 r5:Bool) (cE:Int):Nat→Value→World→Prop
 | 24=>fun v _=>v=(.func (.func 73) #[] #[])
 | 25=>fun v _=>v=(.slice a n c)
 | 26=>fun v _=>v=(.agg CS)
 | 27=>fun v _=>v=(.bool r1)
 | 28=>tF r1 141
 | 29=>fun v _=>v=(.func (.func 73) #[] #[])
 | 30=>fun v _=>v=(.pointer (some ⟨p,1,none⟩))
 | 31=>fun v _=>v=(.agg T1)
 | 32=>fun v _=>v=(.agg C)
 | 33=>fun v _=>v=(.agg T2)
 | 34=>fun v _=>v=(.bool r2)
 | 35=>tF r2 142
 | 36=>fun v _=>v=(.func (.func 73) #[] #[])
 | 37=>fun v _=>v=(.pointer (some ⟨p,0,none⟩))
 | 38=>fun v _=>v=(.int .i64 S.ver.1)
 | 39=>fun v _=>v=(.pointer (some ⟨g,0,none⟩))
 | 40=>fun v _=>v=(.int .i64 M.ver.1)
 | 41=>fun v _=>v=(.bool r3)
 | 42=>tF r3 143
 | 43=>fun v _=>v=(.func (.func 75) #[] #[.pointer (some ⟨p,0,none⟩)])
 | 44=>fun v _=>v=(.func (.func 73) #[] #[])
 | 45=>fun v _=>v=(.pointer (some ⟨g,34,none⟩))
 | 46=>fun v _=>v=(.agg #[.slice M.cfg.wa M.cfg.ws.length M.cfg.wc, .slice M.cfg.pa M.cfg.ps.length M.cfg.pc, .slice M.cfg.ca M.cfg.cs.length M.cfg.cc])
 | 47=>fun v _=>v=(.pointer (some ⟨p,34,none⟩))
 | 48=>fun v _=>v=(.agg #[.slice S.cfg.wa S.cfg.ws.length S.cfg.wc, .slice S.cfg.pa S.cfg.ps.length S.cfg.pc, .slice S.cfg.ca S.cfg.cs.length S.cfg.cc])
 | 49=>fun v _=>v=(.int .i64 cE)
 | 50=>fun v _=>v=(.bool r5)
 | 51=>tF r5 130
 | _=>fun _ _=>True
theorem OT (g p:Nat) (C CS T1 T2:Array Value) (a:Option Addr) (n c:Nat) (M S:aV) (r1 r2 r3 r5:Bool) (cE:Int):∀d v w1 w2,Below w1.heap.size w1 w2→Uj g p C CS T1 T2 a n c M S r1 r2 r3 r5 cE d v w1→Uj g p C CS T1 T2 a n c M S r1 r2 r3 r5 cE d v w2:=by
 intro d v w1 w2 hb h
 unfold Uj at h ⊢
 split at h<;>first |exact h |exact QC hb h |trivial
theorem pU (w:World) (a:Option Addr) (key:List UInt8) (c:Nat) (hk:Row w a key c) (hkl:key.length≤100000) (M:aV) (h:M.At w) (hs:cu M.cfg) (ab:Option Addr) (l:List UInt8) (cb:Nat) (hb:Row w ab l cb):Calls Tryz.prog 26 #[.slice a key.length c, .agg (cM M), .slice ab l.length cb] w fun e w'=>∃U:aV,e= .returned (.tuple #[.agg (cM U), .int .i64 (jB key M.man l)])∧U.man=pV key M.man l∧lQ w.heap.size w' U∧Below w.heap.size w w':=by
 have HAM:=AQ (fun ρ d ty ps af w=>gV ρ d ty ps (af:=af) w)
 have HBM:=AQ (fun ρ d ty ps af w=>wW ρ d ty ps (af:=af) w)
 obtain⟨Z,hZ⟩:=AU (cM zM)
 rw[←hZ.o] at HAM HBM
 have HZS:Hid (Z.size=69∧Z.all (·.oneCell')=true):=by rw[hZ.o];exact⟨fM rfl rfl,fP _⟩
 obtain⟨C,hC⟩:=AU (cM M)
 obtain⟨w0,hw0⟩:=AV ((w.alloc (.cells C 55)).alloc (.cells Z 55))
 have B1:Below (w.alloc (.cells C 55)).heap.size (w.alloc (.cells C 55)) w0:=by rw[hw0];exact(Below.refl _ _).alloc (Nat.le_refl _) _
 have B0:Below w.heap.size w w0:=((Below.refl _ w).alloc (Nat.le_refl _) _).trans (B1.mono AO)
 have hI:eY w0 w.heap.size M:=by rw[hC.o] at B1;exact(eY.new w h).keep B1
 obtain⟨g,hg⟩:=AV (w.heap.size+1)
 have hgb:w0.heap[g]? =some (.cells Z 55 (0,0)):=by
  rw[hw0,hg];have:=heap_alloc_new (w.alloc (.cells C 55)) (.cells Z 55);simpa using this
 have HGW:Hid (g=w.heap.size+1):=hg
 have HGS:Hid (w0.heap.size=w.heap.size+2):=by rw[Hid,hw0];simp
 have HG:=AQ hgb
 have HI0:=AQ hI
 have HB0:=AQ B0
 have HK:=AQ hk
 have HMV:=AQ h
 obtain⟨E,hE⟩:=AU (nX l)
 have hp:=vU w0 (hb.stay B0)
 rw[←hE.o] at hp
 have HP:=AQ hp
 obtain⟨QE,hQE⟩:=AU (jB key M.man l)
 obtain⟨QM,hQM⟩:=AU (pV key M.man l)
 obtain⟨n,hn⟩:=AU key.length
 rw[←hC.o,←hn.o,←hQE.o,←hQM.o]
 clear hgb hI h B0 B1 hk hp hb
 go_enter Tryz.func26,Tryz.ntmps26
 go_upto_region 1 with ((with_reducible refine aj (o:=⟨some 6, .alloc _,_,_,_,_⟩) AA (HAM.o _ _ _ _ _ _) ?_))
 rw[←hw0,←hg]
 clear hw0 hg
 go_wp2_with fail
 refine(HP.o).mono ?_
 rintro e w1 ⟨S,rfl,hSm,hSF,hb1⟩
 have HB1:=AQ (HB0.o.trans (hb1.mono HB0.o.size))
 have HI1:=AQ (HI0.o.keep hb1)
 have HG1:=AQ (aG HG.o hb1)
 have HSM:=AQ hSm
 have HSF:=AQ hSF
 have HS0:Hid (w0.heap.size≤w1.heap.size):=hb1.size
 obtain⟨CS,hCS⟩:=AU (cM S)
 have HCS:Hid (CS.size=69∧CS.all (·.oneCell')=true):=by rw[hCS.o];exact⟨fM HSF.o.p32 HSF.o.t32,fP _⟩
 rw[←hCS.o]
 obtain⟨p,hp⟩:=AV (w1.heap.size)
 have HNW:=AQ (heap_alloc_new w1 (.cells Z 55))
 clear hb1 HP HI0 HG hSm hSF HB0
 go_upto_region 2 with (first |((with_reducible refine aj (o:=⟨some 8, .alloc _,_,_,_,_⟩) AA (HAM.o _ _ _ _ _ _) ?_)) |((with_reducible refine ay (o:=⟨none, .store _ (.tmp 8) (.tmp 18),_,_,_,_⟩) iw (.tmp 8) (.tmp 18) AA AA AA AA AA HNW.o HZS.o.1 HCS.o.1 HCS.o.2 ?_);intro w3 hbw3 hSw3;have HBw3:=AQ hbw3;have HSw3:=AQ hSw3;clear hbw3 hSw3))
 have HS3:Hid (Below w1.heap.size w1 w3):=by
  have h1:Below w1.heap.size w1 (w1.alloc (.cells Z 55)):=(Below.refl _ _).alloc (Nat.le_refl _) _
  exact h1.trans (HSw3.o.below AO (fun k hk=>by omega))
 have HIM:=AQ (HI1.o.keep HS3.o)
 have HIS:Hid (eY w3 p S):=by rw[Hid,hp];exact⟨by rw[←hCS.o];exact HBw3.o,HSF.o.p32,HSF.o.t32⟩
 have HG3:=AQ (aG HG1.o HS3.o)
 have HB3:=AQ (HB1.o.trans (HS3.o.mono HB1.o.size))
 have HF3:Hid (lQ w0.heap.size w3 S):=⟨HSF.o.p32,HSF.o.t32,HSF.o.cfg.stay HS3.o⟩
 have HPW:Hid (w0.heap.size≤p):=by rw[Hid,hp];exact HS0.o
 rw[←hp]
 clear HBw3 HSw3 HNW HS3 HI1 HG1 HB1 HSF HS0 hp
 obtain⟨ok,hok⟩:=AU (qY l)
 cases ok with
 |
  false=>
  have e1:E=140:=by rw[hE.o,nX,←hok.o];rfl
  subst e1
  go_wp2_with (first |((with_reducible refine aj (o:=⟨some 22, .build _ _,_,_,_,_⟩) AA (HBM.o _ _ _ _ _ _) ?_)) |((with_reducible refine ay (o:=⟨none, .store _ (.tmp 6) (.tmp 22),_,_,_,_⟩) iw (.tmp 6) (.tmp 22) AA AA AA AA AA HG3.o HZS.o.1 HZS.o.1 HZS.o.2 ?_);intro w4 hbw4 hSw4;have HBw4:=AQ hbw4;have HSw4:=AQ hSw4;clear hbw4 hSw4))
  refine bodyPost_ret (jS iw rfl rfl HBw4.o HZS.o.1) rfl ⟨zM, ?_, ?_,lI _ _, ?_⟩
  ·rw[hQE.o,jB,←hE.o,hZ.o];rfl
  ·rw[hQM.o,pV,jB,←hE.o];rfl
  ·exact HB3.o.trans (HSw4.o.below HB3.o.size (fun k hk=>by have:=HGW.o;omega))
 |
  true=>
  have e1:E=0:=by rw[hE.o,nX,←hok.o];rfl
  subst e1
  have HKK:Hid (qy l=Hl l):=by rw[Hid,qy,←hok.o];rfl
  have hcs:jK S=true:=by
   rw[iE,HSM.o,HKK.o]
   have:=hok.o.symm
   unfold qY at this
   simp only[Bool.and_eq_true] at this
   exact this.2
  have HSS:Hid (cu S.cfg):=kS (jF hcs)
  have HAS:Hid (S.At w3):=HF3.o.at
  have HAM3:=AQ (HMV.o.stay HB3.o)
  have HK3:=AQ (HK.o.stay HB3.o)
  obtain⟨r1,h1⟩:=AU (wF key S.man)
  obtain⟨r2,h2⟩:=AU (decide (S.prev=ji M))
  obtain⟨r3,h3⟩:=AU (decide (M.ver.1<S.ver.1))
  obtain⟨cE,hcE⟩:=AU (OG M.cfg.cfg S.cfg.cfg)
  obtain⟨r5,h5⟩:=AU (decide (cE=0))
  obtain⟨vE,hvE⟩:=AU (PL S.cfg.cfg)
  have HQ:Hid (QE=EO [if r1 then 0 else 141,if r2 then 0 else 142,if r3 then 0 else 143,vE,if r5 then 0 else 130]):=by
   rw[Hid,hQE.o,jB,←hE.o,if_neg AP,Ri,←HSM.o,h1.o,h2.o,h3.o,hvE.o,h5.o,hcE.o,nN]
   simp only[decide_eq_true_eq];rfl
  obtain⟨T1,hT1⟩:=AU ((S.prev.map vb).toArray)
  obtain⟨T2,hT2⟩:=AU (((ji M).map vb).toArray)
  have HR1:Hid (∀q:After w3,Calls Tryz.prog 29 #[.slice a n c, .agg CS] q.to fun e w'=>e= .returned (.bool r1)∧Below q.to.heap.size q.to w'):=fun q=>by rw[hCS.o,h1.o,hn.o];exact uV q.to a key c (HK3.o.stay q.bel) hkl S (HAS.o.stay q.bel)
  have HH2:Hid (∀q:After w3,Calls Tryz.prog 18 #[.agg C] q.to fun e w'=>e= .returned (.agg T2)∧Below q.to.heap.size q.to w'):=fun q=>by rw[hC.o,hT2.o];exact qX q.to M (HAM3.o.stay q.bel)
  have HC5:Hid (∀q:After w3,Calls Tryz.prog 76 #[.agg #[.slice M.cfg.wa M.cfg.ws.length M.cfg.wc, .slice M.cfg.pa M.cfg.ps.length M.cfg.pc, .slice M.cfg.ca M.cfg.cs.length M.cfg.cc], .agg #[.slice S.cfg.wa S.cfg.ws.length S.cfg.wc, .slice S.cfg.pa S.cfg.ps.length S.cfg.pc, .slice S.cfg.ca S.cfg.cs.length S.cfg.cc]] q.to fun e w'=>e= .returned (.int .i64 cE)∧Below q.to.heap.size q.to w'):=fun q=>by
   have:=Ew q.to M.cfg S.cfg (HAM3.o.cfg.stay q.bel) (HAS.o.cfg.stay q.bel) hs HSS.o
   rw[OH,Jm,←hcE.o] at this
   exact this
  have C5:∀q:After w3,(Instr.loadAt 55 (.pointer (some ⟨p,0,none⟩))).run Tryz.prog q.to= .ok (.agg CS) q.to:=fun q=>by rw[hCS.o];exact(HIS.o.keep q.bel).whole
  have C6:∀q:After w3,(Instr.loadAt 53 (.pointer (some ⟨p,1,none⟩))).run Tryz.prog q.to= .ok (.agg T1) q.to:=fun q=>by rw[hT1.o];exact(HIS.o.keep q.bel).prev
  have C7:∀q:After w3,(Instr.loadAt 55 (.pointer (some ⟨w.heap.size,0,none⟩))).run Tryz.prog q.to= .ok (.agg C) q.to:=fun q=>by rw[hC.o];exact(HIM.o.keep q.bel).whole
  have HX2:Hid (∀w:World,(do eqGuard .eql 53 (.tmp 31) (.tmp 33) (.agg T1) (.agg T2);binOp .eql 53 (.agg T1) (.agg T2):Sem Value).run Tryz.prog w= .ok (.bool r2) w):=fun w=>by
   rw[hT1.o,hT2.o,h2.o];exact oO Gm.guard _ _ (lV Gm _ _ HIS.o.p32 (kK _)) w
  have HX3:Hid (∀w:World,(do eqGuard .gtr 3 (.tmp 38) (.tmp 40) (.int .i64 S.ver.1) (.int .i64 M.ver.1);binOp .gtr 3 (.int .i64 S.ver.1) (.int .i64 M.ver.1):Sem Value).run Tryz.prog w= .ok (.bool r3) w):=fun w=>by
   rw[h3.o];kernel_rfl
  have HX5:Hid (∀w:World,(do eqGuard .eql 33 (.tmp 49) (.const (.int .i64 0)) (.int .i64 cE) (.int .i64 0);binOp .eql 33 (.int .i64 cE) (.int .i64 0):Sem Value).run Tryz.prog w= .ok (.bool r5) w):=fun w=>by
   rw[h5.o];kernel_rfl
  go_upto_region 5 with fail
  refine rG 28 (Uj w.heap.size p C CS T1 T2 a n c M S r1 r2 r3 r5 cE) AB AB AB AB (OT w.heap.size p C CS T1 T2 a n c M S r1 r2 r3 r5 cE) ?_ ?_
  ·simp only[List.take_succ_cons,List.take_zero]
   repeat' (first |exact aU |refine aI ?_ ?_)
   all_goals intro av wx hk
   ·exact .inl ⟨ah rfl,eH (.tmp 10) rfl ⟨Below.refl _ _,(hk.o 10).trans rfl⟩⟩
   ·exact .inl ⟨ah rfl,eH (.tmp 0) rfl ⟨Below.refl _ _,(hk.o 0).trans rfl⟩⟩
   ·exact .inl ⟨ah rfl,bg (.tmp 8) rfl (show av.eval (.tmp 8)=(.pointer (some ⟨p,0,none⟩)) from((hk.o 8).trans rfl)) (C5 ⟨wx,hk.below⟩) ⟨Below.refl _ _,rfl⟩⟩
   ·exact .inl ⟨ah rfl,bJ rfl (hk.fn _) #[.slice a n c, .agg CS] (fun w=>AB) (by simp only[List.map_toArray,List.map_cons,List.map_nil,(show av.eval (.tmp 25)=(.slice a n c) from hk.s 25),(show av.eval (.tmp 26)=(.agg CS) from hk.s 26)]) ((HR1.o ⟨wx,hk.below⟩).mono fun e w' ⟨he,hb⟩=>⟨_,he,hb,rfl⟩)⟩
   ·exact .inl ⟨ah rfl,qJ (cap:= #[]) rfl (hk.s 24) #[.bool r1, .int .i64 141] #[.bool r1, .int .i64 141] rfl (fun w=>AB) (by simp only[List.map_toArray,List.map_cons,List.map_nil,show ∀v,av.eval (.const v)=v from hk.lit,show av.eval (.tmp 27)= .bool r1 from hk.s 27]) ((lX wx r1 141).mono fun e w' ⟨v,he,hb,hv⟩=>⟨v,he,hb,hv⟩)⟩
   ·exact .inl ⟨ah rfl,eH (.tmp 10) rfl ⟨Below.refl _ _,(hk.o 10).trans rfl⟩⟩
   ·exact .inl ⟨ah rfl,bF (.tmp 8) rfl (show av.eval (.tmp 8)=(.pointer (some ⟨p,0,none⟩)) from((hk.o 8).trans rfl)) (v:= .pointer (some ⟨p,1,none⟩)) (fun w=>AB) ⟨Below.refl _ _,rfl⟩⟩
   ·exact .inl ⟨ah rfl,bg (.tmp 30) rfl (hk.s 30) (C6 ⟨wx,hk.below⟩) ⟨Below.refl _ _,rfl⟩⟩
   ·exact .inl ⟨ah rfl,bg (.tmp 4) rfl (show av.eval (.tmp 4)=(.pointer (some ⟨w.heap.size,0,none⟩)) from((hk.o 4).trans rfl)) (C7 ⟨wx,hk.below⟩) ⟨Below.refl _ _,rfl⟩⟩
   ·exact .inl ⟨ah rfl,bJ rfl (hk.fn _) #[.agg C] (fun w=>AB) (by simp only[List.map_toArray,List.map_cons,List.map_nil,(show av.eval (.tmp 32)=(.agg C) from hk.s 32)]) ((HH2.o ⟨wx,hk.below⟩).mono fun e w' ⟨he,hb⟩=>⟨_,he,hb,rfl⟩)⟩
   ·exact .inl ⟨ah rfl,wS rfl (hk.s 31) (hk.s 33) (v:= .bool r2) (fun w=>HX2.o w) ⟨Below.refl _ _,rfl⟩⟩
   ·exact .inl ⟨ah rfl,qJ (cap:= #[]) rfl (hk.s 29) #[.bool r2, .int .i64 142] #[.bool r2, .int .i64 142] rfl (fun w=>AB) (by simp only[List.map_toArray,List.map_cons,List.map_nil,show ∀v,av.eval (.const v)=v from hk.lit,show av.eval (.tmp 34)= .bool r2 from hk.s 34]) ((lX wx r2 142).mono fun e w' ⟨v,he,hb,hv⟩=>⟨v,he,hb,hv⟩)⟩
   ·exact .inl ⟨ah rfl,eH (.tmp 10) rfl ⟨Below.refl _ _,(hk.o 10).trans rfl⟩⟩
   ·exact .inl ⟨ah rfl,bF (.tmp 8) rfl (show av.eval (.tmp 8)=(.pointer (some ⟨p,0,none⟩)) from((hk.o 8).trans rfl)) (v:= .pointer (some ⟨p,0,none⟩)) (fun w=>AB) ⟨Below.refl _ _,rfl⟩⟩
   ·exact .inl ⟨ah rfl,bg (.tmp 37) rfl (hk.s 37) (bM (fun w=>AB) (HIS.o.keep hk.below).ver) ⟨Below.refl _ _,rfl⟩⟩
   ·exact .inl ⟨ah rfl,bF (.tmp 4) rfl (show av.eval (.tmp 4)=(.pointer (some ⟨w.heap.size,0,none⟩)) from((hk.o 4).trans rfl)) (v:= .pointer (some ⟨w.heap.size,0,none⟩)) (fun w=>AB) ⟨Below.refl _ _,rfl⟩⟩
   ·exact .inl ⟨ah rfl,bg (.tmp 39) rfl (hk.s 39) (bM (fun w=>AB) (HIM.o.keep hk.below).ver) ⟨Below.refl _ _,rfl⟩⟩
   ·exact .inl ⟨ah rfl,wS rfl (hk.s 38) (hk.s 40) (v:= .bool r3) (fun w=>HX3.o w) ⟨Below.refl _ _,rfl⟩⟩
   ·exact .inl ⟨ah rfl,qJ (cap:= #[]) rfl (hk.s 36) #[.bool r3, .int .i64 143] #[.bool r3, .int .i64 143] rfl (fun w=>AB) (by simp only[List.map_toArray,List.map_cons,List.map_nil,show ∀v,av.eval (.const v)=v from hk.lit,show av.eval (.tmp 41)= .bool r3 from hk.s 41]) ((lX wx r3 143).mono fun e w' ⟨v,he,hb,hv⟩=>⟨v,he,hb,hv⟩)⟩
   ·refine .inl ⟨ah rfl,fA (v:= .func (.func 75) #[] #[.pointer (some ⟨p,0,none⟩)]) (w':=wx) ?_ ⟨Below.refl _ _,rfl⟩⟩
    unfold execOp
    simp only[List.map_toArray,List.map_cons,List.map_nil,show av.eval (.tmp 8)= .pointer (some ⟨p,0,none⟩) from(hk.o 8).trans rfl]
    rfl
   ·exact .inl ⟨ah rfl,eH (.tmp 10) rfl ⟨Below.refl _ _,(hk.o 10).trans rfl⟩⟩
   ·exact .inl ⟨ah rfl,bF (.tmp 4) rfl (show av.eval (.tmp 4)=(.pointer (some ⟨w.heap.size,0,none⟩)) from((hk.o 4).trans rfl)) (v:= .pointer (some ⟨w.heap.size,34,none⟩)) (fun w=>AB) ⟨Below.refl _ _,rfl⟩⟩
   ·exact .inl ⟨ah rfl,bg (.tmp 45) rfl (hk.s 45) ((HIM.o.keep hk.below).Ph) ⟨Below.refl _ _,rfl⟩⟩
   ·exact .inl ⟨ah rfl,bF (.tmp 8) rfl (show av.eval (.tmp 8)=(.pointer (some ⟨p,0,none⟩)) from((hk.o 8).trans rfl)) (v:= .pointer (some ⟨p,34,none⟩)) (fun w=>AB) ⟨Below.refl _ _,rfl⟩⟩
   ·exact .inl ⟨ah rfl,bg (.tmp 47) rfl (hk.s 47) ((HIS.o.keep hk.below).Ph) ⟨Below.refl _ _,rfl⟩⟩
   ·exact .inl ⟨ah rfl,bJ rfl (hk.fn _) #[.agg #[.slice M.cfg.wa M.cfg.ws.length M.cfg.wc, .slice M.cfg.pa M.cfg.ps.length M.cfg.pc, .slice M.cfg.ca M.cfg.cs.length M.cfg.cc], .agg #[.slice S.cfg.wa S.cfg.ws.length S.cfg.wc, .slice S.cfg.pa S.cfg.ps.length S.cfg.pc, .slice S.cfg.ca S.cfg.cs.length S.cfg.cc]] (fun w=>AB) (by simp only[List.map_toArray,List.map_cons,List.map_nil,(show av.eval (.tmp 46)=(.agg #[.slice M.cfg.wa M.cfg.ws.length M.cfg.wc, .slice M.cfg.pa M.cfg.ps.length M.cfg.pc, .slice M.cfg.ca M.cfg.cs.length M.cfg.cc]) from hk.s 46),(show av.eval (.tmp 48)=(.agg #[.slice S.cfg.wa S.cfg.ws.length S.cfg.wc, .slice S.cfg.pa S.cfg.ps.length S.cfg.pc, .slice S.cfg.ca S.cfg.cs.length S.cfg.cc]) from hk.s 48)]) ((HC5.o ⟨wx,hk.below⟩).mono fun e w' ⟨he,hb⟩=>⟨_,he,hb,rfl⟩)⟩
   ·exact .inl ⟨ah rfl,wS rfl (hk.s 49) rfl (v:= .bool r5) (fun w=>HX5.o w) ⟨Below.refl _ _,rfl⟩⟩
   ·exact .inl ⟨ah rfl,qJ (cap:= #[]) rfl (hk.s 44) #[.bool r5, .int .i64 130] #[.bool r5, .int .i64 130] rfl (fun w=>AB) (by simp only[List.map_toArray,List.map_cons,List.map_nil,show ∀v,av.eval (.const v)=v from hk.lit,show av.eval (.tmp 50)= .bool r5 from hk.s 50]) ((lX wx r5 130).mono fun e w' ⟨v,he,hb,hv⟩=>⟨v,he,hb,hv⟩)⟩
  intro av wz hbz hsame hall
  have he:=dn hsame [24,25,26,27,28,29,30,31,32,33,34,35,36,37,38,39,40,41,42,43,44,45,46,47,48,49,50,51] AB
  simp only[List.foldl_cons,List.foldl_nil] at he
  have T28:tF r1 141 (av.eval (.tmp 28)) wz:=hall 28 AB
  generalize av.eval (.tmp 28)=g28 at he T28
  have T35:tF r2 142 (av.eval (.tmp 35)) wz:=hall 35 AB
  generalize av.eval (.tmp 35)=g35 at he T35
  have T42:tF r3 143 (av.eval (.tmp 42)) wz:=hall 42 AB
  generalize av.eval (.tmp 42)=g42 at he T42
  have T51:tF r5 130 (av.eval (.tmp 51)) wz:=hall 51 AB
  generalize av.eval (.tmp 51)=g51 at he T51
  rw[show av.eval (.tmp 43)=(.func (.func 75) #[] #[.pointer (some ⟨p,0,none⟩)]) from hall 43 AB] at he
  generalize av.eval (.tmp 24)=y24 at he
  generalize av.eval (.tmp 25)=y25 at he
  generalize av.eval (.tmp 26)=y26 at he
  generalize av.eval (.tmp 27)=y27 at he
  generalize av.eval (.tmp 29)=y29 at he
  generalize av.eval (.tmp 30)=y30 at he
  generalize av.eval (.tmp 31)=y31 at he
  generalize av.eval (.tmp 32)=y32 at he
  generalize av.eval (.tmp 33)=y33 at he
  generalize av.eval (.tmp 34)=y34 at he
  generalize av.eval (.tmp 36)=y36 at he
  generalize av.eval (.tmp 37)=y37 at he
  generalize av.eval (.tmp 38)=y38 at he
  generalize av.eval (.tmp 39)=y39 at he
  generalize av.eval (.tmp 40)=y40 at he
  generalize av.eval (.tmp 41)=y41 at he
  generalize av.eval (.tmp 44)=y44 at he
  generalize av.eval (.tmp 45)=y45 at he
  generalize av.eval (.tmp 46)=y46 at he
  generalize av.eval (.tmp 47)=y47 at he
  generalize av.eval (.tmp 48)=y48 at he
  generalize av.eval (.tmp 49)=y49 at he
  generalize av.eval (.tmp 50)=y50 at he
  simp only[fV] at he
  dsimp only[List.set_cons_zero,List.set_cons_succ] at he
  subst he
  clear hsame hall
  simp only[List.drop_succ_cons,List.drop_zero]
  obtain⟨p1,q1,rfl,u1,x1⟩:=T28
  obtain⟨p2,q2,rfl,u2,x2⟩:=T35
  obtain⟨p3,q3,rfl,u3,x3⟩:=T42
  obtain⟨p5,q5,rfl,u5,x5⟩:=T51
  have HBZ:=AQ hbz
  have HU:=AQ (And.intro u1 (And.intro x1 (And.intro u2 (And.intro x2 (And.intro u3 (And.intro x3 (And.intro u5 x5)))))))
  clear HR1 HH2 HC5 C5 C6 C7 HX2 HX3 HX5 hbz u1 x1 u2 x2 u3 x3 u5 x5
  go_upto_region 6 with fail
  obtain⟨b,hb⟩:=AV (wz.heap.size)
  obtain⟨W,hW⟩:∃W,W=wz.alloc (Obj.cells #[Value.func (Fn.func 74) #[] #[Value.pointer (some {block:=p1,off:=0}),Value.pointer (some {block:=q1,off:=0})],Value.func (Fn.func 74) #[] #[Value.pointer (some {block:=p2,off:=0}),Value.pointer (some {block:=q2,off:=0})],Value.func (Fn.func 74) #[] #[Value.pointer (some {block:=p3,off:=0}),Value.pointer (some {block:=q3,off:=0})],Value.func (Fn.func 75) #[] #[Value.pointer (some {block:=p,off:=0})],Value.func (Fn.func 74) #[] #[Value.pointer (some {block:=p5,off:=0}),Value.pointer (some {block:=q5,off:=0})]] 107):=⟨_,rfl⟩
  have hN:=heap_alloc_new wz (Obj.cells #[Value.func (Fn.func 74) #[] #[Value.pointer (some {block:=p1,off:=0}),Value.pointer (some {block:=q1,off:=0})],Value.func (Fn.func 74) #[] #[Value.pointer (some {block:=p2,off:=0}),Value.pointer (some {block:=q2,off:=0})],Value.func (Fn.func 74) #[] #[Value.pointer (some {block:=p3,off:=0}),Value.pointer (some {block:=q3,off:=0})],Value.func (Fn.func 75) #[] #[Value.pointer (some {block:=p,off:=0})],Value.func (Fn.func 74) #[] #[Value.pointer (some {block:=p5,off:=0}),Value.pointer (some {block:=q5,off:=0})]] 107)
  rw[←hW,←hb] at hN
  rw[←hW,←hb]
  have HBW:Hid (Below wz.heap.size wz W):=by rw[hW];exact(Below.refl _ _).alloc (Nat.le_refl _) _
  have HU2:Hid ((W.cell? ⟨p1,0,none⟩=some (.bool r1)∧W.cell? ⟨q1,0,none⟩=some (.int .i64 141))∧(W.cell? ⟨p2,0,none⟩=some (.bool r2)∧W.cell? ⟨q2,0,none⟩=some (.int .i64 142))∧(W.cell? ⟨p3,0,none⟩=some (.bool r3)∧W.cell? ⟨q3,0,none⟩=some (.int .i64 143))∧(W.cell? ⟨p5,0,none⟩=some (.bool r5)∧W.cell? ⟨q5,0,none⟩=some (.int .i64 130))):=by
   obtain⟨u1,x1,u2,x2,u3,x3,u5,x5⟩:=HU.o
   exact⟨⟨Go.Cit.keep HBW.o u1,Go.Cit.keep HBW.o x1⟩,⟨Go.Cit.keep HBW.o u2,Go.Cit.keep HBW.o x2⟩,⟨Go.Cit.keep HBW.o u3,Go.Cit.keep HBW.o x3⟩,⟨Go.Cit.keep HBW.o u5,Go.Cit.keep HBW.o x5⟩⟩
  have HIS2:=AQ ((HIS.o.keep HBZ.o).keep HBW.o)
  have HG4:=AQ (aG (aG HG3.o HBZ.o) HBW.o)
  have HB4:Hid (Below w.heap.size w W):=(HB3.o.trans (HBZ.o.mono HB3.o.size)).trans (HBW.o.mono (Nat.le_trans HB3.o.size HBZ.o.size))
  have HF4:Hid (lQ w0.heap.size W S):=⟨HF3.o.p32,HF3.o.t32,(HF3.o.cfg.stay HBZ.o).stay HBW.o⟩
  have HK4:=AQ (au hN)
  have HS4:=AQ ((HAS.o.stay HBZ.o).stay HBW.o)
  have HW0:Hid (w.heap.size≤w0.heap.size):=by have:=HGS.o;rw[Hid];omega
  have ix0:=fun w=>U8 b w
  have ix1:=fun w=>U2 b w
  have ix2:=fun w=>UH b w
  have ix3:=fun w=>UM b w
  have ix4:=fun w=>UQ b w
  clear hb hW hN HBW HBZ HU HIS HG3 HB3 HF3 HAS HIM HAM3 HK3
  have c0:=HK4.o 0 rfl
  have c1:=HK4.o 1 rfl
  have c2:=HK4.o 2 rfl
  have c3:=HK4.o 3 rfl
  have c4:=HK4.o 4 rfl
  clear HK4
  go_wp2_with fail
  refine wp_loop_rounds 6 ?_
  rw[rounds_succ]
  go_wp2_with fail
  refine(kU _ r1 141 _ _ HU2.o.1.1 HU2.o.1.2).mono ?_
  rintro e1 w' ⟨rfl,rfl⟩
  cases r1 with
  |
   false=>
   have hqe:QE=141:=by rw[HQ.o];rfl
   go_wp2_with (first |((with_reducible refine aj (o:=⟨some 63, .build _ _,_,_,_,_⟩) AA (HBM.o _ _ _ _ _ _) ?_)) |((with_reducible refine ay (o:=⟨none, .store _ (.tmp 6) (.tmp 63),_,_,_,_⟩) iw (.tmp 6) (.tmp 63) AA AA AA AA AA HG4.o HZS.o.1 HZS.o.1 HZS.o.2 ?_);intro wf hbwf hSwf;have HBwf:=AQ hbwf;have HSwf:=AQ hSwf;clear hbwf hSwf))
   refine bodyPost_ret (jS iw rfl rfl HBwf.o HZS.o.1) rfl ⟨zM, ?_, ?_,lI _ _, ?_⟩
   ·rw[hqe,hZ.o];rfl
   ·rw[hQM.o,pV,←hQE.o,hqe,if_neg AP];rfl
   ·exact HB4.o.trans (HSwf.o.below HB4.o.size (fun k hk=>by have:=HGW.o;omega))
  |
   true=>
   go_wp2_with fail
   rw[rounds_succ]
   go_wp2_with fail
   refine(kU _ r2 142 _ _ HU2.o.2.1.1 HU2.o.2.1.2).mono ?_
   rintro e1 w' ⟨rfl,rfl⟩
   cases r2 with
   |
    false=>
    have hqe:QE=142:=by rw[HQ.o];rfl
    go_wp2_with (first |((with_reducible refine aj (o:=⟨some 63, .build _ _,_,_,_,_⟩) AA (HBM.o _ _ _ _ _ _) ?_)) |((with_reducible refine ay (o:=⟨none, .store _ (.tmp 6) (.tmp 63),_,_,_,_⟩) iw (.tmp 6) (.tmp 63) AA AA AA AA AA HG4.o HZS.o.1 HZS.o.1 HZS.o.2 ?_);intro wf hbwf hSwf;have HBwf:=AQ hbwf;have HSwf:=AQ hSwf;clear hbwf hSwf))
    refine bodyPost_ret (jS iw rfl rfl HBwf.o HZS.o.1) rfl ⟨zM, ?_, ?_,lI _ _, ?_⟩
    ·rw[hqe,hZ.o];rfl
    ·rw[hQM.o,pV,←hQE.o,hqe,if_neg AP];rfl
    ·exact HB4.o.trans (HSwf.o.below HB4.o.size (fun k hk=>by have:=HGW.o;omega))
   |
    true=>
    go_wp2_with fail
    rw[rounds_succ]
    go_wp2_with fail
    refine(kU _ r3 143 _ _ HU2.o.2.2.1.1 HU2.o.2.2.1.2).mono ?_
    rintro e1 w' ⟨rfl,rfl⟩
    cases r3 with
    |
     false=>
     have hqe:QE=143:=by rw[HQ.o];rfl
     go_wp2_with (first |((with_reducible refine aj (o:=⟨some 63, .build _ _,_,_,_,_⟩) AA (HBM.o _ _ _ _ _ _) ?_)) |((with_reducible refine ay (o:=⟨none, .store _ (.tmp 6) (.tmp 63),_,_,_,_⟩) iw (.tmp 6) (.tmp 63) AA AA AA AA AA HG4.o HZS.o.1 HZS.o.1 HZS.o.2 ?_);intro wf hbwf hSwf;have HBwf:=AQ hbwf;have HSwf:=AQ hSwf;clear hbwf hSwf))
     refine bodyPost_ret (jS iw rfl rfl HBwf.o HZS.o.1) rfl ⟨zM, ?_, ?_,lI _ _, ?_⟩
     ·rw[hqe,hZ.o];rfl
     ·rw[hQM.o,pV,←hQE.o,hqe,if_neg AP];rfl
     ·exact HB4.o.trans (HSwf.o.below HB4.o.size (fun k hk=>by have:=HGW.o;omega))
    |
     true=>
     go_wp2_with fail
     rw[rounds_succ]
     go_wp2_with fail
     have hkv:=Gu _ p S HIS2.o HS4.o HSS.o
     rw[←hvE.o] at hkv
     refine hkv.mono ?_
     rintro e1 wv ⟨rfl,hbv⟩
     have HG5:=AQ (aG HG4.o hbv)
     have HB5:=AQ (HB4.o.trans (hbv.mono HB4.o.size))
     have HF5:Hid (lQ w0.heap.size wv S):=⟨HF4.o.p32,HF4.o.t32,HF4.o.cfg.stay hbv⟩
     have HIS5:=AQ (HIS2.o.keep hbv)
     have k4:=Go.Cit.keep hbv c4
     have HU5:=AQ (And.intro (Go.Cit.keep hbv HU2.o.2.2.2.1) (Go.Cit.keep hbv HU2.o.2.2.2.2))
     clear hkv hbv c0 c1 c2 c3 c4
     by_cases hv0:vE=0
     ·have z1:((vE:Int) !=0)=false:=by simp[hv0]
      have HV0:=AQ hv0
      clear hv0
      go_wp2_with fail
      rw[rounds_succ]
      go_wp2_with fail
      refine(kU _ r5 130 _ _ HU5.o.1 HU5.o.2).mono ?_
      rintro e1 w' ⟨rfl,rfl⟩
      have hw:=HIS5.o.whole
      rw[←hCS.o] at hw
      have HL5:=AQ hw
      clear hw
      cases r5 with
      |
       false=>
       have hqe:QE=130:=by rw[HQ.o,HV0.o];rfl
       go_wp2_with (first |((with_reducible refine aj (o:=⟨some 63, .build _ _,_,_,_,_⟩) AA (HBM.o _ _ _ _ _ _) ?_)) |((with_reducible refine ay (o:=⟨none, .store _ (.tmp 6) (.tmp 63),_,_,_,_⟩) iw (.tmp 6) (.tmp 63) AA AA AA AA AA HG5.o HZS.o.1 HZS.o.1 HZS.o.2 ?_);intro wf hbwf hSwf;have HBwf:=AQ hbwf;have HSwf:=AQ hSwf;clear hbwf hSwf))
       refine bodyPost_ret (jS iw rfl rfl HBwf.o HZS.o.1) rfl ⟨zM, ?_, ?_,lI _ _, ?_⟩
       ·rw[hqe,hZ.o];rfl
       ·rw[hQM.o,pV,←hQE.o,hqe,if_neg AP];rfl
       ·exact HB5.o.trans (HSwf.o.below HB5.o.size (fun k hk=>by have:=HGW.o;omega))
      |
       true=>
       go_wp2_with fail
       rw[rounds_succ]
       have hqe:QE=0:=by rw[HQ.o,HV0.o];rfl
       go_wp2_with (first |(with_reducible refine aN (o:=⟨some 66, .load 55 (.tmp 8),_,_,_,_⟩) AA AA AA HL5.o ?_) |((with_reducible refine ay (o:=⟨none, .store _ (.tmp 6) (.tmp 66),_,_,_,_⟩) iw (.tmp 6) (.tmp 66) AA AA AA AA AA HG5.o HZS.o.1 HCS.o.1 HCS.o.2 ?_);intro wf hbwf hSwf;have HBwf:=AQ hbwf;have HSwf:=AQ hSwf;clear hbwf hSwf))
       refine bodyPost_ret (jS iw rfl rfl HBwf.o HCS.o.1) rfl ⟨S, ?_, ?_,⟨HF5.o.p32,HF5.o.t32, ?_⟩, ?_⟩
       ·rw[hqe,hCS.o];rfl
       ·rw[hQM.o,pV,←hQE.o,hqe,if_pos rfl];exact HSM.o
       ·exact(HF5.o.cfg.lg HSwf.o (fun k hk=>by have:=HGW.o;have:=HGS.o;omega)).low HW0.o
       ·exact HB5.o.trans (HSwf.o.below HB5.o.size (fun k hk=>by have:=HGW.o;omega))
     ·have z1:((vE:Int) !=0)=true:=by simp[hv0]
      have hqe:QE=vE:=by rw[HQ.o];simp[EO,hv0]
      have HVN:=AQ hv0
      clear hv0
      go_wp2_with (first |((with_reducible refine aj (o:=⟨some 63, .build _ _,_,_,_,_⟩) AA (HBM.o _ _ _ _ _ _) ?_)) |((with_reducible refine ay (o:=⟨none, .store _ (.tmp 6) (.tmp 63),_,_,_,_⟩) iw (.tmp 6) (.tmp 63) AA AA AA AA AA HG5.o HZS.o.1 HZS.o.1 HZS.o.2 ?_);intro wf hbwf hSwf;have HBwf:=AQ hbwf;have HSwf:=AQ hSwf;clear hbwf hSwf))
      refine bodyPost_ret (jS iw rfl rfl HBwf.o HZS.o.1) rfl ⟨zM, ?_, ?_,lI _ _, ?_⟩
      ·rw[hqe,hZ.o];rfl
      ·rw[hQM.o,pV,←hQE.o,hqe,if_neg (by exact HVN.o)];rfl
      ·exact HB5.o.trans (HSwf.o.below HB5.o.size (fun k hk=>by have:=HGW.o;omega))
end Go.Proofs.YtlholdllibghbaaGreat
