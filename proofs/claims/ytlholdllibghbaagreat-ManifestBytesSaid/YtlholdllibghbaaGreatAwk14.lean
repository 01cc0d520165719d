/- Chapter 14's examples: walked. -/
import Derived.Test.YtlholdllibghbaaGreatAwk14p
import Derived.Test.YtlholdllibghbaaGreatG14
import Derived.Test.YtlholdllibghbaaGreatKit
set_option maxRecDepth 100000
set_option maxHeartbeats 8000000
namespace Go.Proofs.YtlholdllibghbaaGreat
open Go Go.RowKit Go.Cit
theorem RY:(55:Nat)≠77:=by decide
theorem SV:(55:Nat)≠46:=by decide
theorem TG:(55:Nat)≠48:=by decide
theorem UL:(5:Nat)≠55:=by decide
theorem bV.Om {B k:Nat} {w w':World} {V:aO} {C:Array Value} {fr:Nat×Nat} (h:bV B w V) (hs:Save (· ≠k) w w') (hk:w.heap[k]? =some (.cells C 55 fr)):bV B w' V:=by
 have e:∀ {E:TypeId} {g:Nat},(∃cs,w.heap[g]? =some (.cells cs E (0,0)))→(55:Nat)≠E→g≠k:=by
  rintro E g ⟨cs,hg⟩ hE rfl
  rw[hk] at hg;injection hg with hg;injection hg with _ h2;exact hE h2
 have s:∀ {E:TypeId} {g:Nat},(∃cs,w.heap[g]? =some (.cells cs E (0,0)))→(55:Nat)≠E→∃cs,w'.heap[g]? =some (.cells cs E (0,0)):=by
  rintro E g ⟨cs,hg⟩ hE
  exact⟨cs,(hs.block g (Array.getElem?_eq_some_iff.1 hg).1 (e ⟨cs,hg⟩ hE)).trans hg⟩
 exact⟨h.win.save dW hs (fun _ j hj=>e (h.wb j hj).2 RY),h.pts.save dY hs (fun _ j hj=>e (h.pb j hj).2 SV),h.kL.save gK hs (fun _ j hj=>e (h.cb j hj).2 TG),
  fun g hg=>⟨(h.wb g hg).1,s (h.wb g hg).2 RY⟩,fun g hg=>⟨(h.pb g hg).1,s (h.pb g hg).2 SV⟩,fun g hg=>⟨(h.cb g hg).1,s (h.cb g hg).2 TG⟩,fun x hx=>(h.img x hx).save hs (fun j hj=>mF (h.img x hx) hk UL j hj)⟩
theorem bV.UO {B:Nat} {w:World} {V:aO} (h:bV B w V) {x:qm} (hx:V.ws=[x]) (n:I64):∃g off,V.wa=some ⟨g,off,none⟩∧B≤g∧(∃cs,w.heap[g]? =some (.cells cs 77 (0,0)))∧w.frozen? ⟨g,off+1,none⟩=false∧w.cell? ⟨g,off+1,none⟩=some (.int .i64 x.part.1)∧
 bV B (w.setCell ⟨g,off+1,none⟩ (.int .i64 n.1)) {V with ws:=[⟨x.len,n⟩]}:=by
 obtain⟨g,off,hw⟩:=h.win.spot (by rw[hx];simp)
 have hb:=h.wb g (by rw[hw];rfl)
 obtain⟨cs,hg⟩:=hb.2
 have hv:=h.win
 rw[hx,hw] at hv
 have e0:w.cell? ⟨g,off,none⟩=some (.int .i64 x.len.1):=by have:=hv.cell 0 AO 0 AP;simpa[ad] using this
 have e1:w.cell? ⟨g,off+1,none⟩=some (.int .i64 x.part.1):=by have:=hv.cell 0 AO 1 AP;simpa[ad] using this
 have hs:Save (· ≠g) w (w.setCell ⟨g,off+1,none⟩ (.int .i64 n.1)):=Save.set
 have ne:∀ {E:TypeId} {k:Nat},(∃cs,w.heap[k]? =some (.cells cs E (0,0)))→(E:Nat)≠77→k≠g:=by
  rintro E k ⟨ds,hk⟩ hE rfl
  rw[hg] at hk;injection hk with hk;injection hk with _ h2;exact hE h2.symm
 have st:∀ {E:TypeId} {k:Nat},(∃cs,w.heap[k]? =some (.cells cs E (0,0)))→(E:Nat)≠77→∃cs,(w.setCell ⟨g,off+1,none⟩ (.int .i64 n.1)).heap[k]? =some (.cells cs E (0,0)):=by
  rintro E k ⟨ds,hk⟩ hE
  exact⟨ds,(hs.block k (Array.getElem?_eq_some_iff.1 hk).1 (ne ⟨ds,hk⟩ hE)).trans hk⟩
 refine⟨g,off,hw,hb.1,⟨cs,hg⟩,by simp[World.frozen?,hg],e1, ?_⟩
 refine⟨?_,h.pts.save dY hs (fun _ j hj=>ne (h.pb j hj).2 AP),h.kL.save gK hs (fun _ j hj=>ne (h.cb j hj).2 AP),fun k hk=> ?_,fun k hk=>⟨(h.pb k hk).1,st (h.pb k hk).2 AP⟩,fun k hk=>⟨(h.cb k hk).1,st (h.cb k hk).2 AP⟩,fun y hy=>(h.img y hy).save hs (fun j hj=>mF (h.img y hy) hg AP j hj)⟩
 ·show Vec mY 2 _ V.wa [_] V.wc
  rw[hw]
  refine⟨hv.le,hv.top,fun e=>by simp at e,fun _=>⟨g,off,rfl⟩,fun i hi j hj=> ?_⟩
  obtain rfl:i=0:=by simp at hi;omega
  match j,hj with
  |
   0,_=>
   have:((w.setCell ⟨g,off+1,none⟩ (.int .i64 n.1)).cell? ⟨g,off,none⟩)=w.cell? ⟨g,off,none⟩:=World.cell?_setCell_other w _ _ _ (by intro e;injection e with _ e;omega)
   simpa[ad] using this.trans e0
  |
   1,_=>
   have:((w.setCell ⟨g,off+1,none⟩ (.int .i64 n.1)).cell? ⟨g,off+1,none⟩)=some (.int .i64 n.1):=World.cell?_setCell_same w _ _ e1
   simpa[ad] using this
 ·obtain rfl:k=g:=by rw[hw] at hk;simpa[Go.Cit.blk] using hk.symm
  refine⟨hb.1, ?_⟩
  simp[World.setCell,Array.getElem?_modify,hg]
def G8:kH:=⟨3,fun j=>4+j,fun j=>7+j,fun j=>2+j,fun _=>55,fun _=>cM zM⟩
def tS (B:Nat) (K:oZ) (C:Array Value) (w:World):Prop:=∃S:aV,C=cM S∧S.man=K∧lQ B w S
def Ur (C1:Array Value) (B:Nat) (K:oZ) (j:Nat) (C:Array Value) (w:World):Prop:=if j=2 then tS B K C w else C=C1
def Ug (C1:Array Value) (B:Nat) (K:oZ):Nat→Value→World→Prop
 | 26=>fun v _=>v= .agg C1
 | 27=>fun v _=>v= .agg C1
 | 28=>fun v _=>v= .agg C1
 | 29=>fun v w=>∃C,v= .agg C∧tS B K C w
 | _=>fun _ _=>True
def VK (_ _ _ _ _:Nat) (C9 CA CB CC CD CF:Array Value):Nat→Value
 | 49=>(.agg C9)
 | 50=>(.int .i64 0)
 | 51=>(.bool true)
 | 52=>(.bool true)
 | 53=>(bif true then (.agg C9) else undef)
 | 54=>(bif true then (.int .i64 141) else undef)
 | 55=>(bif true then (.bool true) else undef)
 | 56=>(.bool (true || false))
 | 57=>(.bool (true || false))
 | 58=>(bif (true || false) then (.agg CA) else undef)
 | 59=>(bif (true || false) then (.int .i64 142) else undef)
 | 60=>(bif (true || false) then (.bool true) else undef)
 | 61=>(.bool ((true || false) || false))
 | 62=>(.bool ((true || false) || false))
 | 63=>(bif ((true || false) || false) then (.agg CB) else undef)
 | 64=>(bif ((true || false) || false) then (.int .i64 143) else undef)
 | 65=>(bif ((true || false) || false) then (.bool true) else undef)
 | 66=>(.bool (((true || false) || false) || false))
 | 67=>(.bool (((true || false) || false) || false))
 | 68=>(bif (((true || false) || false) || false) then (.agg CC) else undef)
 | 69=>(bif (((true || false) || false) || false) then (.int .i64 90) else undef)
 | 70=>(bif (((true || false) || false) || false) then (.bool true) else undef)
 | 71=>(.bool ((((true || false) || false) || false) || false))
 | 72=>(.bool ((((true || false) || false) || false) || false))
 | 73=>(bif ((((true || false) || false) || false) || false) then (.int .i64 140) else undef)
 | 74=>(bif ((((true || false) || false) || false) || false) then (.bool true) else undef)
 | 75=>(.bool (((((true || false) || false) || false) || false) || false))
 | 76=>(.bool (((((true || false) || false) || false) || false) || false))
 | 77=>(bif (((((true || false) || false) || false) || false) || false) then (.agg CD) else undef)
 | 78=>(bif (((((true || false) || false) || false) || false) || false) then (.bool false) else undef)
 | 79=>(bif (((((true || false) || false) || false) || false) || false) then (.bool (!false)) else undef)
 | 80=>(.bool ((((((true || false) || false) || false) || false) || false) && (!false)))
 | 81=>(.bool ((((((true || false) || false) || false) || false) || false) && (!false)))
 | 82=>(bif ((((((true || false) || false) || false) || false) || false) && (!false)) then (.agg CF) else undef)
 | 83=>(bif ((((((true || false) || false) || false) || false) || false) && (!false)) then (.bool false) else undef)
 | 84=>(bif ((((((true || false) || false) || false) || false) || false) && (!false)) then (.bool (!false)) else undef)
 | 85=>(.bool (((((((true || false) || false) || false) || false) || false) && (!false)) && (!false)))
 | 0=>(.bool (((((((true || false) || false) || false) || false) || false) && (!false)) && (!false)))
 | _=>undef
def U4 (p1 p2 p3 p4 p7:Nat) (_ _ _ _ _ _:Array Value):Nat→Value
 | 1=>(.pointer (some ⟨p1,0,none⟩))
 | 2=>(.pointer (some ⟨p2,0,none⟩))
 | 3=>(.pointer (some ⟨p3,0,none⟩))
 | 4=>(.pointer (some ⟨p4,0,none⟩))
 | 6=>(.int .i64 140)
 | 7=>(.pointer (some ⟨p7,0,none⟩))
 | 8=>(.pointer (some ⟨(p7+1),0,none⟩))
 | _=>undef
theorem Q7 {B:Nat} {K:oZ} {C:Array Value} {W w1 w2:World} (hG:Pm G8 W w1 w2) (h:tS B K C w1):tS B K C w2:=by
 obtain⟨S,h1,h2,h3⟩:=h
 refine⟨S,h1,h2,h3.p32,h3.t32, ?_⟩
 rcases hG with hb |⟨g,j,D,_,_,hg,hs⟩
 ·exact h3.cfg.stay hb
 ·exact h3.cfg.Om hs hg
theorem Ry {C1:Array Value} {B:Nat} {K:oZ} {j:Nat} {C:Array Value} {W w1 w2:World} (hG:Pm G8 W w1 w2) (h:Ur C1 B K j C w1):Ur C1 B K j C w2:=by
 unfold Ur at h ⊢
 split
 ·rename_i e;rw[if_pos e] at h;exact Q7 hG h
 ·rename_i e;rw[if_neg e] at h;exact h
theorem Sr {C1:Array Value} {B:Nat} {K:oZ} {d:Nat} {v:Value} {W w1 w2:World} (hG:Pm G8 W w1 w2) (h:Ug C1 B K d v w1):Ug C1 B K d v w2:=by
 unfold Ug at h ⊢
 split at h
 ·exact h
 ·exact h
 ·exact h
 ·obtain⟨C,e,hC⟩:=h
  exact⟨C,e,Q7 hG hC⟩
 ·trivial
theorem Qx {n d:Nat} (hn:n<4) (hd:26≤d):∀j,j<G8.nb→n≠G8.ia j∧n≠G8.IU j∧(some d:Option Nat)≠some (G8.d j):=fun j hj=>by
 have hj:j<3:=hj
 refine⟨by show n≠4+j;omega,by show n≠7+j;omega,fun e=> ?_⟩
 have e:d=2+j:=Option.some.inj e
 omega
theorem D9 {ρ:Operand→Value} {o:Oper} {wx:World} {x y:Operand} (ho:o.op= .store 55 x y) {g:Nat} {D C:Array Value} (hx:ρ x= .pointer (some ⟨g,0,none⟩)) (hy:ρ y= .agg C) (hD:wx.heap[g]? =some (.cells D 55 (0,0))) (hDs:D.size=C.size) (hC:C.size=69) (h1:C.all (·.oneCell')=true):
 ∃w',(execOp ρ o).run Tryz.prog wx= .ok .skip w'∧w'.heap[g]? =some (.cells C 55 (0,0))∧Save (· ≠g) wx w':=by
 have hr:=run_storeVar_row (P:=Tryz.prog) wx g 55 55 D C hD (by rw[hC];kernel_rfl) hDs h1
 refine⟨wx.setRow g C, ?_,lC hD,lG _ _ _⟩
 unfold execOp
 simp only[ho,hx,hy,Sem.run_bind,Instr.storeAt,Instr.sureAddr,Sem.run_pure,Result.andThen,hr]
theorem eY.off {w w':World} {g k:Nat} {M:aV} (h:eY w g M) (hs:Save (· ≠k) w w') (hne:g≠k):eY w' g M:=h.save hs hne
theorem BQ (w:World):Calls Tryz.prog 24 #[] w fun e w'=>e= .returned (.bool true)∧Below w.heap.size w w':=by
 have HAM:=AQ (fun ρ d ty ps af w=>gV ρ d ty ps (af:=af) w)
 have HZT:=AQ (fun ρ d ty ps af w=>Nz ρ d ty ps (af:=af) w)
 obtain⟨Z,hZ⟩:=AU (cM zM)
 rw[←hZ.o] at HAM
 have HZS:Hid (Z.size=69):=by rw[Hid,hZ.o];rfl
 have HS1:=AQ (iM w)
 have hcv:=Ae
 go_enter Tryz.func24,Tryz.ntmps24
 go_wp2_with fail
 refine(HS1.o).mono ?_
 rintro e w1 ⟨S1,rfl,hm1,hF1,hb1⟩
 have HB1:=AQ hb1
 have HM1:=AQ hm1
 have HF1:=AQ hF1
 obtain⟨p1,hp1⟩:=AV (w1.heap.size)
 obtain⟨CS,hCS⟩:=AU (cM S1)
 have HCS:Hid (CS.size=69∧CS.all (·.oneCell')=true):=by rw[hCS.o];exact⟨fM HF1.o.p32 HF1.o.t32,fP _⟩
 rw[←hCS.o]
 have HNW:=AQ (heap_alloc_new w1 (.cells Z 55))
 clear hm1 hF1 hb1 HS1
 go_upto_region 2 with (first |((with_reducible refine aj (o:=⟨some 1, .alloc _,_,_,_,_⟩) AA (HAM.o _ _ _ _ _ _) ?_)) |((with_reducible refine ay (o:=⟨none, .store _ (.tmp 1) (.tmp 9),_,_,_,_⟩) iw (.tmp 1) (.tmp 9) AA AA AA AA AA HNW.o HZS.o HCS.o.1 HCS.o.2 ?_);intro w2 hbw2 hSw2;have HBw2:=AQ hbw2;have HSw2:=AQ hSw2;clear hbw2 hSw2))
 have hb2:Below w1.heap.size w1 w2:=by
  have h1:Below w1.heap.size w1 (w1.alloc (.cells Z 55)):=(Below.refl _ _).alloc (Nat.le_refl _) _
  exact h1.trans (HSw2.o.below AO (fun k hk=>by omega))
 have HI2:Hid (eY w2 p1 S1):=by rw[Hid,hp1];exact⟨by rw[←hCS.o];exact HBw2.o,HF1.o.p32,HF1.o.t32⟩
 have HF2:Hid (bV w.heap.size w2 S1.cfg):=HF1.o.cfg.stay hb2
 have HB2:=AQ (HB1.o.trans (hb2.mono HB1.o.size))
 have HP1:Hid (w.heap.size≤p1):=by rw[Hid,hp1];exact HB1.o.size
 have HK9:Hid (p1=w1.heap.size∧w1.heap.size<w2.heap.size):=⟨hp1,by have:=HI2.o.lt;rw[←hp1];exact this⟩
 rw[←hp1]
 clear hb2 HBw2 HSw2 HNW HB1 hp1
 obtain⟨w3,hw3⟩:=AV (w2.alloc (.cells #[.int .u8 107, .int .u8 101, .int .u8 121] 5 (3,4)))
 have bk:Below w2.heap.size w2 w3:=by rw[hw3];exact(Below.refl _ _).alloc (Nat.le_refl _) _
 have hkr:Row w3 (some ⟨w2.heap.size,0,none⟩) keyS 3:=by rw[hw3];exact sG keyS (World.alloc_heap_new w2 _) rfl AP
 have hI3:=HI2.o.keep bk
 have hF3:=HF2.o.stay bk
 have HF3:=AQ hF3
 have HI3:=AQ hI3
 have HB3:=AQ (HB2.o.trans (bk.mono HB2.o.size))
 have hr:=uV w3 _ keyS 3 hkr AP S1 ⟨hI3.p32,hI3.t32,hF3.at⟩
 rw[HM1.o,Lj,←hCS.o] at hr
 have HR:=AQ hr
 have hw:=hI3.whole
 rw[←hCS.o,hw3] at hw
 have HL:=AQ hw
 clear bk hkr hI3 hF3 hr hw HI2 HF2 HB2
 go_wp2_with ((with_reducible refine aN (o:=⟨some 12, .load 55 (.tmp 1),_,_,_,_⟩) AA AA AA HL.o ?_))
 rw[←hw3]
 clear hw3
 refine(HR.o).mono ?_
 rintro e w4 ⟨rfl,hb4⟩
 have HI4:=AQ (HI3.o.keep hb4)
 have HF4:=AQ (HF3.o.stay hb4)
 have HB4:=AQ (HB3.o.trans (hb4.mono HB3.o.size))
 have d0:=HI4.o.d0
 have hws:S1.cfg.ws=[vT]:=by
  have h1:S1.cfg.cfg=sS:=by rw[show S1.cfg.cfg=S1.man.cfg from rfl,HM1.o];rfl
  exact congrArg Bq.wins h1
 have HWS:=AQ hws
 have hwl:((S1.cfg.ws.length:Int) !=1)=false:=by rw[hws];rfl
 have f3:=OQ p1
 have f0:=SI p1
 have f1:=mf1 p1
 have u0:=HI4.o.ver
 have z0:w4.frozen? ⟨p1,0,none⟩=false:=by simp[World.frozen?,HI4.o.blk]
 clear hws hb4 HR HL HI3 HF3 HB3
 go_upto_region 5 with fail
 obtain⟨w5,hw5⟩:=AV (w4.setCell ⟨p1,0,none⟩ (.int .i64 2))
 rw[←hw5]
 have HI5:Hid (eY w5 p1 {S1 with ver:=j2}):=by rw[Hid,hw5];exact HI4.o.JB j2
 have hs5:Save (· ≠p1) w4 w5:=by rw[hw5];exact Save.set
 have HF5:=AQ (HF4.o.Om hs5 HI4.o.blk)
 have HB5:Hid (Below w.heap.size w w5):=HB4.o.trans (hs5.below HB4.o.size (fun k hk=>by have:=HP1.o;omega))
 have HS2:=AQ (iM w5)
 clear hs5 hw5 d0 hwl u0 z0 HI4 HF4 HB4
 go_wp2_with fail
 refine(HS2.o).mono ?_
 rintro e w6 ⟨S2,rfl,hm2,hF2,hb6⟩
 have hh:=qX w6 S2 hF2.at
 rw[nN,hm2] at hh
 obtain⟨C2,hC2⟩:=AU (cM S2)
 rw[←hC2.o] at hh ⊢
 obtain⟨TH,hTH⟩:=AU (((pK jy).map vb).toArray)
 have hl32:(pK jy).length=32:=by rw[←hm2,←nN];exact kK _
 have HTC:Hid (TH.size=32∧TH.all (·.oneCell')=true):=by rw[hTH.o];exact bP _ hl32
 have HL32:=AQ hl32
 rw[←hTH.o] at hh
 have HH:=AQ hh
 have HI6:=AQ (HI5.o.keep hb6)
 have HF6:=AQ (HF5.o.stay hb6)
 have HB6:=AQ (HB5.o.trans (hb6.mono HB5.o.size))
 clear hh hm2 hF2 hb6 hl32 HS2 HI5 HF5 HB5
 go_wp2_with fail
 refine(HH.o).mono ?_
 rintro e w7 ⟨rfl,hb7⟩
 have HI7:=AQ (HI6.o.keep hb7)
 have HF7:=AQ (HF6.o.stay hb7)
 have HB7:=AQ (HB6.o.trans (hb7.mono HB6.o.size))
 clear hb7 HH HI6 HF6 HB6
 go_upto_region 6 with ((with_reducible refine dO (o:=⟨none, .store _ (.tmp 25) (.tmp 24),_,_,_,_⟩) (C:=cM {S1 with ver:=j2}) dP.info (.tmp 25) (.tmp 24) AA AA AA AA AA HTC.o.1 HI7.o.blk (by rw[HI7.o.size];decide) HTC.o.2 ?_);intro w8 hbw8 hSw8;have HBw8:=AQ hbw8;have HSw8:=AQ hSw8;clear hbw8 hSw8)
 obtain⟨M1,hM1⟩:∃M:aV,Hid (M= {S1 with ver:=j2,prev:=pK jy}):=⟨_,rfl⟩
 have HI8:Hid (eY w8 p1 M1):=by
  rw[Hid,hM1.o]
  refine⟨HBw8.o.trans ?_,HL32.o,HI7.o.t32⟩
  rw[hTH.o,show lZ (cM {S1 with ver:=j2}) 1 _=cM {S1 with ver:=j2,prev:=pK jy} from vY HI7.o.p32 HL32.o]
 have HF8:=AQ (HF7.o.Om HSw8.o HI7.o.blk)
 have HB8:Hid (Below w.heap.size w w8):=HB7.o.trans (HSw8.o.below HB7.o.size (fun k hk=>by have:=HP1.o;omega))
 have HMM:Hid (M1.man=BX):=by
  rw[Hid,hM1.o]
  show(⟨j2,pK jy,S1.man.trial,S1.man.cfg,S1.man.tag⟩:oZ)=BX
  rw[HM1.o];rfl
 have HA8:Hid (M1.At w8):=⟨HI8.o.p32,HI8.o.t32,by rw[hM1.o];exact HF8.o.at⟩
 have HSS:Hid (cu M1.cfg):=by
  have h1:M1.cfg.cfg=sS:=by rw[show M1.cfg.cfg=M1.man.cfg from rfl,HMM.o];rfl
  exact kS (by rw[jE,h1];kernel_rfl)
 clear HBw8 HSw8 HI7 HF7 HB7 HF8 f0 f1 f3
 obtain⟨C1,hC1⟩:=AU (cM M1)
 have HC1:Hid (C1.size=69∧C1.all (·.oneCell')=true):=by rw[hC1.o];exact⟨HI8.o.size,fP _⟩
 refine ql G8 (Ur C1 w8.heap.size BX) (Ug C1 w8.heap.size BX) AB AB AB (fun _ _ _ _ hG h=>Sr hG h) (fun _ _ _ _ hG h=>Ry hG h) ?_ ?_ (fun j hj=>by
  have:j<3:=hj
  exact⟨by show 4+j<10;omega,by show 7+j<10;omega⟩)
 ·repeat' (first |exact aU |refine aI ?_ ?_)
  all_goals intro δ wa wx hk
  ·exact .inl ⟨ah rfl,Qx AP AP,bg (.tmp 1) rfl ((hk.o 1).trans rfl) (v:= .agg C1) (by rw[hC1.o];exact(HI8.o.keep hk.inv.1).whole) ⟨Below.refl _ _,rfl⟩⟩
  ·exact .inl ⟨ah rfl,Qx AP AP,bg (.tmp 1) rfl ((hk.o 1).trans rfl) (v:= .agg C1) (by rw[hC1.o];exact(HI8.o.keep hk.inv.1).whole) ⟨Below.refl _ _,rfl⟩⟩
  ·exact .inl ⟨ah rfl,Qx AP AP,bg (.tmp 1) rfl ((hk.o 1).trans rfl) (v:= .agg C1) (by rw[hC1.o];exact(HI8.o.keep hk.inv.1).whole) ⟨Below.refl _ _,rfl⟩⟩
  ·exact .inl ⟨ah rfl,Qx AP AP,bJ rfl (hk.fn _) #[.agg C1] (fun w=>AB) (by simp only[List.map_toArray,List.map_cons,List.map_nil,show wa.eval (.tmp 28)= .agg C1 from hk.s 28]) (by
    rw[hC1.o]
    refine(sU wx M1 (HA8.o.stay hk.inv.1) HSS.o).mono ?_
    rintro e w' ⟨S,he,hm,hf,hb⟩
    exact⟨_,he,hb,cM S,rfl,S,rfl,hm.trans HMM.o,hf.p32,hf.t32,hf.cfg.low hk.inv.1.size⟩)⟩
  ·exact .inr (.inl ⟨0,by decide,rfl,rfl,rfl,gV _ _ _ _ _,fun _ _=>trivial⟩)
  ·exact .inr (.inl ⟨1,by decide,rfl,rfl,rfl,gV _ _ _ _ _,fun _ _=>trivial⟩)
  ·exact .inr (.inl ⟨2,by decide,rfl,rfl,rfl,gV _ _ _ _ _,fun _ _=>trivial⟩)
  ·exact .inr (.inr ⟨0,C1,by decide,rfl,rfl,rfl,rfl,by rw[HC1.o.1];rfl,fun g D hg hD hDs=>D9 rfl hg (hk.s 26) hD hDs HC1.o.1 HC1.o.2⟩)
  ·exact .inr (.inr ⟨1,C1,by decide,rfl,rfl,rfl,rfl,by rw[HC1.o.1];rfl,fun g D hg hD hDs=>D9 rfl hg (hk.s 27) hD hDs HC1.o.1 HC1.o.2⟩)
  ·obtain⟨C,e29,S,hC,hm,hf⟩:=hk.s 29
   have h69:C.size=69:=by rw[hC];exact fM hf.p32 hf.t32
   exact .inr (.inr ⟨2,C,by decide,rfl,rfl,rfl,⟨S,hC,hm,hf⟩,by rw[h69];rfl,fun g D hg hD hDs=>D9 rfl hg e29 hD hDs h69 (by rw[hC];exact fP _)⟩)
 intro a w9 hb9 hsame hall hbox
 obtain⟨p2,D2,e2,hp2,hD2,hX2,hn2⟩:=hbox 0 AP
 obtain⟨p3,D3,e3,hp3,hD3,hX3,hn3⟩:=hbox 1 AP
 obtain⟨p4,D4,e4,hp4,hD4,hX4,hn4⟩:=hbox 2 AP
 obtain rfl:D2=C1:=hX2
 obtain rfl:D3=D2:=hX3
 obtain⟨S4,hS4,hm4,hF4⟩:tS w8.heap.size BX D4 w9:=hX4
 subst hS4
 have HNE:Hid (p2≠p3∧p2≠p4∧p3≠p4):=by
  refine⟨fun h=> ?_,fun h=> ?_,fun h=> ?_⟩
  ·refine hn2 1 AP AP ?_;show a.eval (.tmp 3)=_;rw[h];exact e3
  ·refine hn2 2 AP AP ?_;show a.eval (.tmp 4)=_;rw[h];exact e4
  ·refine hn3 2 AP AP ?_;show a.eval (.tmp 4)=_;rw[h];exact e4
 have he:=dn hsame [26,27,28,29,2,3,4] AB
 simp only[List.foldl_cons,List.foldl_nil] at he
 rw[show a.eval (.tmp 2)=_ from e2,show a.eval (.tmp 3)=_ from e3,show a.eval (.tmp 4)=_ from e4] at he
 generalize a.eval (.tmp 26)=y26 at he
 generalize a.eval (.tmp 27)=y27 at he
 generalize a.eval (.tmp 28)=y28 at he
 generalize a.eval (.tmp 29)=y29 at he
 simp only[fV] at he
 dsimp only[List.set_cons_zero,List.set_cons_succ] at he
 subst he
 have H1:Hid (eY w9 p1 M1):=HI8.o.keep hb9
 have H2:Hid (eY w9 p2 M1):=by rw[hC1.o] at hD2;exact⟨hD2,HI8.o.p32,HI8.o.t32⟩
 have H3:Hid (eY w9 p3 M1):=by rw[hC1.o] at hD3;exact⟨hD3,HI8.o.p32,HI8.o.t32⟩
 have H4:Hid (eY w9 p4 S4):=⟨hD4,hF4.p32,hF4.t32⟩
 have HF9:=AQ hF4.cfg
 have HM4:=AQ hm4
 have HGE:Hid (w8.heap.size≤p2∧w8.heap.size≤p3∧w8.heap.size≤p4∧p1<w8.heap.size):=⟨hp2,hp3,hp4,HI8.o.lt⟩
 have H8:Hid (Below w8.heap.size w8 w9):=hb9
 clear hsame hall hbox e2 e3 e4 hp2 hp3 hp4 hD2 hD3 hD4 hn2 hn3 hn4 hm4 hF4 hb9 HI8
 have f1:=mf1 p2
 have g0:=SI p3
 obtain⟨ZT,hZT⟩:=AU ((aH.map vb).toArray)
 rw[←hZT.o] at HZT
 have HZC:Hid (ZT.size=32∧ZT.all (·.oneCell')=true):=by rw[hZT.o];exact bP _ rfl
 go_upto_region 8 with (first |((with_reducible refine aj (o:=⟨some 30, .build _ _,_,_,_,_⟩) AA (HZT.o _ _ _ _ _ _) ?_)) |((with_reducible refine dO (o:=⟨none, .store _ (.tmp 31) (.tmp 30),_,_,_,_⟩) (C:=cM M1) dP.info (.tmp 31) (.tmp 30) AA AA AA AA AA HZC.o.1 H2.o.blk (by rw[H2.o.size];decide) HZC.o.2 ?_);intro wa hbwa hSwa;have HBwa:=AQ hbwa;have HSwa:=AQ hSwa;clear hbwa hSwa))
 obtain⟨MA,hMA⟩:∃M:aV,Hid (M= {M1 with prev:=aH}):=⟨_,rfl⟩
 have K2:Hid (eY wa p2 MA):=by
  rw[Hid,hMA.o]
  refine⟨HBwa.o.trans ?_,rfl,H2.o.t32⟩
  rw[hZT.o,show lZ (cM M1) 1 _=cM {M1 with prev:=aH} from vY H2.o.p32 rfl]
 have K1:=AQ (H1.o.off HSwa.o (by have:=HGE.o;omega))
 have K3:=AQ (H3.o.off HSwa.o (by have:=HNE.o.1;omega))
 have K4:=AQ (H4.o.off HSwa.o (by have:=HNE.o.2.1;omega))
 have KF:=AQ (HF9.o.Om HSwa.o H2.o.blk)
 have KB:Hid (Below w8.heap.size w8 wa):=H8.o.trans (HSwa.o.below H8.o.size (fun k hk=>by have:=HGE.o;omega))
 have u0:=K3.o.ver
 have z0:wa.frozen? ⟨p3,0,none⟩=false:=by simp[World.frozen?,K3.o.blk]
 clear H1 H2 H3 H4 H8 HF9 HBwa HSwa f1
 go_upto_region 9 with fail
 obtain⟨wb,hwb⟩:=AV (wa.setCell ⟨p3,0,none⟩ (.int .i64 1))
 rw[←hwb]
 obtain⟨MB,hMB⟩:∃M:aV,Hid (M= {M1 with ver:=j1}):=⟨_,rfl⟩
 have hsb:Save (· ≠p3) wa wb:=by rw[hwb];exact Save.set
 have L3:Hid (eY wb p3 MB):=by rw[Hid,hwb,hMB.o];exact K3.o.JB j1
 have L1:=AQ (K1.o.off hsb (by have:=HGE.o;omega))
 have L2:=AQ (K2.o.off hsb (by have:=HNE.o.1;omega))
 have L4:=AQ (K4.o.off hsb (by have:=HNE.o.2.2;omega))
 have LF:=AQ (KF.o.Om hsb K3.o.blk)
 have LB:Hid (Below w8.heap.size w8 wb):=KB.o.trans (hsb.below KB.o.size (fun k hk=>by have:=HGE.o;omega))
 clear hwb hsb u0 z0 g0 K1 K2 K3 K4 KF KB
 have h4c:S4.cfg.cfg=sS:=by rw[show S4.cfg.cfg=S4.man.cfg from rfl,HM4.o];rfl
 have hws4:S4.cfg.ws=[vT]:=congrArg Bq.wins h4c
 obtain⟨kw,ow,hka,hkB,hkb,hkz,hku,hkf⟩:=LF.o.UO hws4 j2
 have hix:=(LF.o.win).index JR 0 (by rw[hws4];decide)
 have d0:=L4.o.d0
 rw[hka,hws4] at hix d0
 have hix':∀w,(Instr.indexAt 22 (.slice (some ⟨kw,ow,none⟩) 1 S4.cfg.wc) (.int .i64 0)).run Tryz.prog w= .ok (.pointer (some ⟨kw,ow,none⟩)) w:=fun w=>by have:=hix w;simpa[ad] using this
 have d0':wb.cell? ⟨p4,34,none⟩=some (.slice (some ⟨kw,ow,none⟩) 1 S4.cfg.wc):=d0
 have f3:=OQ p4
 clear hix d0
 go_upto_region 10 with fail
 obtain⟨wc,hwc⟩:=AV (wb.setCell ⟨kw,ow+1,none⟩ (.int .i64 j2.1))
 rw[show wb.setCell ⟨kw,ow+1,none⟩ (.int .i64 2)=wc from hwc.symm]
 rw[←hwc] at hkf
 have hsc:Save (· ≠kw) wb wc:=by rw[hwc];exact Save.set
 have hpw:∀ {g:Nat} {M:aV},eY wb g M→g≠kw:=fun {g M} h=>by
  rintro rfl
  obtain⟨cs,hc⟩:=hkb
  rw[h.blk] at hc
  injection hc with hc;injection hc with _ hc;exact absurd hc RY
 obtain⟨MC,hMC⟩:∃M:aV,Hid (M= {S4 with cfg:= {S4.cfg with ws:=[⟨vT.len,j2⟩]}}):=⟨_,rfl⟩
 have M1':=AQ (L1.o.off hsc (hpw L1.o))
 have M2':=AQ (L2.o.off hsc (hpw L2.o))
 have M3':=AQ (L3.o.off hsc (hpw L3.o))
 have M4':Hid (eY wc p4 MC):=by
  have h9:=L4.o.off hsc (hpw L4.o)
  rw[Hid,hMC.o]
  refine⟨h9.blk.trans ?_,h9.p32,h9.t32⟩
  have:cM S4=cM {S4 with cfg:= {S4.cfg with ws:=[⟨vT.len,j2⟩]}}:=by
   unfold cM aV.cs uX
   rw[hws4];rfl
  rw[this]
 have MF:Hid (bV w8.heap.size wc MC.cfg):=by rw[hMC.o];exact hkf
 have MB':Hid (Below w8.heap.size w8 wc):=LB.o.trans (hsc.below LB.o.size (fun k hk=>by omega))
 have HMC:Hid (MC.man=Sv):=by
  rw[Hid,hMC.o]
  have h1:S4.man.cfg.parts=S4.cfg.ps.map dL.pt:=rfl
  have h2:S4.man.cfg.chans=S4.cfg.cs:=rfl
  show(⟨S4.man.ver,S4.man.prev,S4.man.trial,⟨[⟨vT.len,j2⟩],S4.cfg.ps.map dL.pt,S4.cfg.cs⟩,S4.man.tag⟩:oZ)=Sv
  rw[←h1,←h2,HM4.o];rfl
 clear hwc hsc hpw hka hkB hkb hkz hku hkf hix' d0' f3 h4c hws4 L1 L2 L3 L4 LF LB HM4
 obtain⟨wd,hwd⟩:=AV (wc.alloc (.cells #[.int .u8 107, .int .u8 101, .int .u8 121] 5 (3,4)))
 have bk:Below wc.heap.size wc wd:=by rw[hwd];exact(Below.refl _ _).alloc (Nat.le_refl _) _
 have HKR:Hid (Row wd (some ⟨wc.heap.size,0,none⟩) keyS 3):=by rw[Hid,hwd];exact sG keyS (World.alloc_heap_new wc _) rfl AP
 have HS5:=AQ (iM wd)
 have HBD:=AQ bk
 clear bk
 go_wp2_with fail
 rw[←hwd]
 clear hwd
 refine(HS5.o).mono ?_
 rintro e we ⟨S5,rfl,hm5,hF5,hbe⟩
 obtain⟨C5,hC5⟩:=AU (cM S5)
 have hss:cu S5.cfg:=by
  have h1:S5.cfg.cfg=sS:=by rw[show S5.cfg.cfg=S5.man.cfg from rfl,hm5];rfl
  exact kS (by rw[jE,h1];kernel_rfl)
 have hk:=pU we _ keyS 3 (HKR.o.stay hbe) AP S5 hF5.at hss none [] 0 (Cit.Own.nil 5 0 we).isRow
 rw[←hC5.o,hm5,TJ] at hk
 rw[←hC5.o]
 have HCK:=AQ hk
 have HBE:=AQ (HBD.o.trans (hbe.mono HBD.o.size))
 clear hk hm5 hF5 hbe hss HS5 HBD
 go_wp2_with fail
 refine(HCK.o).mono ?_
 rintro e wf ⟨U,rfl,_,hUF,hbf⟩
 obtain⟨CU,hCU⟩:=AU (cM U)
 have HCU:Hid (CU.size=69∧CU.all (·.oneCell')=true):=by rw[hCU.o];exact⟨fM hUF.p32 hUF.t32,fP _⟩
 rw[←hCU.o]
 have HBF:=AQ (HBE.o.trans (hbf.mono HBE.o.size))
 have HNW:=AQ (heap_alloc_new wf (.cells Z 55))
 clear hUF hbf HCK HBE
 go_upto_region 11 with (first |((with_reducible refine aj (o:=⟨some 5, .alloc _,_,_,_,_⟩) AA (HAM.o _ _ _ _ _ _) ?_)) |((with_reducible refine ay (o:=⟨none, .store _ (.tmp 5) (.tmp 43),_,_,_,_⟩) iw (.tmp 5) (.tmp 43) AA AA AA AA AA HNW.o HZS.o HCU.o.1 HCU.o.2 ?_);intro wg hbwg hSwg;have HBwg:=AQ hbwg;have HSwg:=AQ hSwg;clear hbwg hSwg))
 have HBG:Hid (Below wc.heap.size wc wg):=by
  have h1:Below wf.heap.size wf (wf.alloc (.cells Z 55)):=(Below.refl _ _).alloc (Nat.le_refl _) _
  exact HBF.o.trans ((h1.trans (HSwg.o.below AO (fun k hk=>by omega))).mono HBF.o.size)
 clear HBwg HSwg HNW HBF
 have HS7:=AQ (iM wg)
 go_wp2_with fail
 refine(HS7.o).mono ?_
 rintro e wh ⟨S7,rfl,hm7,hF7,hbh⟩
 obtain⟨C7,hC7⟩:=AU (cM S7)
 have HF7:=AQ hF7
 have HM7:=AQ hm7
 have HC7:Hid (C7.size=69∧C7.all (·.oneCell')=true):=by rw[hC7.o];exact⟨fM hF7.p32 hF7.t32,fP _⟩
 rw[←hC7.o]
 have HBH:=AQ (HBG.o.trans (hbh.mono HBG.o.size))
 have HS8:=AQ (iM wh)
 clear hm7 hF7 hbh HS7 HBG
 go_wp2_with fail
 refine(HS8.o).mono ?_
 rintro e wi ⟨S8,rfl,hm8,hF8,hbi⟩
 obtain⟨C8,hC8⟩:=AU (cM S8)
 have HF7i:Hid (bV wg.heap.size wi S7.cfg):=HF7.o.cfg.stay hbi
 have HF8:=AQ hF8
 have HM8:=AQ hm8
 have HC8:Hid (C8.size=69∧C8.all (·.oneCell')=true):=by rw[hC8.o];exact⟨fM hF8.p32 hF8.t32,fP _⟩
 rw[←hC8.o]
 have HBI:=AQ (HBH.o.trans (hbi.mono HBH.o.size))
 have HN7:Hid (((wi.alloc (.cells Z 55)).alloc (.cells Z 55)).heap[wi.heap.size]? =some (.cells Z 55 (0,0))):=(Below.heap_alloc _ _ _ AO).trans (heap_alloc_new _ _)
 have HN8:Hid (((wi.alloc (.cells Z 55)).alloc (.cells Z 55)).heap[wi.heap.size+1]? =some (.cells Z 55 (0,0))):=by
  have:=heap_alloc_new (wi.alloc (.cells Z 55)) (.cells Z 55);rw[Hid];simpa using this
 have HIS:Hid (((wi.alloc (.cells Z 55)).alloc (.cells Z 55)).heap.size=wi.heap.size+2):=by simp[Hid]
 have HIB:Hid (Below wi.heap.size wi ((wi.alloc (.cells Z 55)).alloc (.cells Z 55))):=((Below.refl _ _).alloc (Nat.le_refl _) _).alloc AO _
 have HN9:Hid (∀wj,Save (· ≠wi.heap.size) ((wi.alloc (.cells Z 55)).alloc (.cells Z 55)) wj→wj.heap[wi.heap.size+1]? =some (.cells Z 55 (0,0))):=fun wj hs=>(hs.block (wi.heap.size+1) (by have:=HIS.o;omega) (by show wi.heap.size+1≠wi.heap.size;omega)).trans HN8.o
 have HAM8:Hid (∀(ρ:Operand→Value) (d:Option Tmp) (ty:TypeId) (ps:String) (af:Array Edge),(execOp ρ {dst:=d,op:=Op.alloc 55,type:=ty,pos:=ps,after:=af,guard:=none}).run Tryz.prog (wi.alloc (.cells Z 55))= .ok (.value (.pointer (some ⟨wi.heap.size+1,0,none⟩))) ((wi.alloc (.cells Z 55)).alloc (.cells Z 55))):=fun ρ d ty ps af=>by
  have:=HAM.o ρ d ty ps af (wi.alloc (.cells Z 55));rw[World.size_alloc] at this;exact this
 clear hm8 hF8 hbi HS8 HBH
 go_upto_region 12 with (first |((with_reducible refine aj (o:=⟨some 7, .alloc _,_,_,_,_⟩) AA (HAM.o _ _ _ _ _ _) ?_)) |((with_reducible refine aj (o:=⟨some 8, .alloc _,_,_,_,_⟩) AA (HAM8.o _ _ _ _ _) ?_)) |(((with_reducible refine ay (o:=⟨none, .store _ (.tmp 7) (.tmp 45),_,_,_,_⟩) iw (.tmp 7) (.tmp 45) AA AA AA AA AA HN7.o HZS.o HC7.o.1 HC7.o.2 ?_);intro wj hbwj hSwj;have HBwj:=AQ hbwj;have HSwj:=AQ hSwj;clear hbwj hSwj);((refine ay (o:=⟨none, .store _ (.tmp 8) (.tmp 46),_,_,_,_⟩) iw (.tmp 8) (.tmp 46) AA AA AA AA AA (HN9.o _ HSwj.o) HZS.o HC8.o.1 HC8.o.2 ?_);intro wk hbwk hSwk;have HBwk:=AQ hbwk;have HSwk:=AQ hSwk;clear hbwk hSwk)))
 obtain⟨p7,hp7⟩:=AV (wi.heap.size)
 have HP7:=AQ hp7
 have HLT:Hid (wi.heap.size+1<wj.heap.size):=by have:=HSwj.o.size;have:=HIS.o;rw[Hid];omega
 have K7:Hid (eY wk p7 S7):=by
  refine⟨?_,HF7.o.p32,HF7.o.t32⟩
  rw[hp7,←hC7.o]
  exact(HSwk.o.block wi.heap.size (by have:=HLT.o;omega) (by show wi.heap.size≠wi.heap.size+1;omega)).trans HBwj.o
 have K8:Hid (eY wk (p7+1) S8):=by
  refine⟨?_,HF8.o.p32,HF8.o.t32⟩
  rw[hp7,←hC8.o]
  exact HBwk.o
 have KB:Hid (Below wi.heap.size wi wk):=(HIB.o.trans (HSwj.o.below HIB.o.size (fun k hk=>by omega))).trans (HSwk.o.below (Nat.le_trans HIB.o.size HSwj.o.size) (fun k hk=>by show k≠wi.heap.size+1;omega))
 rw[←hp7]
 clear HBwj HSwj HBwk HSwk HN7 HN8 HN9 HIB HIS hp7
 have f0:=SI p7
 have f2:=mf2 (p7+1)
 have u0:=K7.o.ver
 have z0:wk.frozen? ⟨p7,0,none⟩=false:=by simp[World.frozen?,K7.o.blk]
 go_upto_region 13 with fail
 obtain⟨wl,hwl⟩:=AV (wk.setCell ⟨p7,0,none⟩ (.int .i64 0))
 rw[←hwl]
 obtain⟨M7,hM7⟩:∃M:aV,Hid (M= {S7 with ver:=j0}):=⟨_,rfl⟩
 have hsl:Save (· ≠p7) wk wl:=by rw[hwl];exact Save.set
 have N7:Hid (eY wl p7 M7):=by rw[Hid,hwl,hM7.o];exact K7.o.JB j0
 have N8:=AQ (K8.o.off hsl AL)
 have NB:Hid (Below wi.heap.size wi wl):=KB.o.trans (hsl.below KB.o.size (fun k hk=>by have:=HP7.o;omega))
 have u1:=N8.o.trial
 have z1:wl.frozen? ⟨p7+1,33,none⟩=false:=by simp[World.frozen?,N8.o.blk]
 clear hwl hsl u0 z0 K7 K8 KB
 go_upto_region 14 with fail
 obtain⟨wm,hwm⟩:=AV (wl.setCell ⟨p7+1,33,none⟩ (.int .i64 9))
 rw[←hwm]
 obtain⟨M8,hM8⟩:∃M:aV,Hid (M= {S8 with trial:=j9}):=⟨_,rfl⟩
 have hsm:Save (· ≠p7+1) wl wm:=by rw[hwm];exact Save.set
 have R7:=AQ (N7.o.off hsm AL)
 have R8:Hid (eY wm (p7+1) M8):=by rw[Hid,hwm,hM8.o];exact N8.o.Aa j9
 have RB:Hid (Below wi.heap.size wi wm):=NB.o.trans (hsm.below NB.o.size (fun k hk=>by have:=HP7.o;omega))
 clear hwm hsm u1 z1 f0 f2 N7 N8 NB
 have hcm:Below wc.heap.size wc wm:=HBI.o.trans (RB.o.mono HBI.o.size)
 have h8m:Below w8.heap.size w8 wm:=MB'.o.trans (hcm.mono MB'.o.size)
 have R1:=AQ (M1'.o.keep hcm)
 have R2:=AQ (M2'.o.keep hcm)
 have R3:=AQ (M3'.o.keep hcm)
 have R4:=AQ (M4'.o.keep hcm)
 have A1:Hid (M1.At wm):=HA8.o.stay h8m
 have A2:Hid (MA.At wm):=by rw[hMA.o];exact⟨rfl,A1.o.t32,A1.o.cfg⟩
 have A3:Hid (MB.At wm):=by rw[hMB.o];exact⟨A1.o.p32,A1.o.t32,A1.o.cfg⟩
 have A4:Hid (MC.At wm):=⟨R4.o.p32,R4.o.t32,MF.o.at.stay hcm⟩
 have A7:Hid (M7.At wm):=by rw[hM7.o];exact⟨HF7.o.p32,HF7.o.t32,HF7i.o.at.stay RB.o⟩
 have A8:Hid (M8.At wm):=by rw[hM8.o];exact⟨HF8.o.p32,HF8.o.t32,HF8.o.cfg.at.stay RB.o⟩
 have EA:MA.man=Rl:=by rw[hMA.o];show({M1.man with prev:=aH}:oZ)=Rl;rw[HMM.o];rfl
 have EB:MB.man=RH:=by rw[hMB.o];show({M1.man with ver:=j1}:oZ)=RH;rw[HMM.o];rfl
 have E7:M7.man=Sm:=by rw[hM7.o];show({S7.man with ver:=j0}:oZ)=Sm;rw[HM7.o];rfl
 have E8:M8.man=Ro:=by rw[hM8.o];show({S8.man with trial:=j9}:oZ)=Ro;rw[HM8.o];rfl
 have SA:cu MA.cfg:=by rw[hMA.o];exact HSS.o
 have SB:cu MB.cfg:=by rw[hMB.o];exact HSS.o
 have SC:cu MC.cfg:=by
  have h1:MC.cfg.cfg=NH:=by rw[show MC.cfg.cfg=MC.man.cfg from rfl,HMC.o];rfl
  exact kS (by rw[jE,h1];kernel_rfl)
 obtain⟨CA,hCA⟩:=AU (cM MA)
 obtain⟨CB,hCB⟩:=AU (cM MB)
 obtain⟨CC,hCC⟩:=AU (cM MC)
 obtain⟨C9,hC9⟩:=AU (cM M1)
 obtain⟨CD,hCD⟩:=AU (cM M7)
 obtain⟨CF,hCF⟩:=AU (cM M8)
 have T1:Hid (∀q:After wm,Calls Tryz.prog 70 #[.agg C9, .bool true] q.to fun e w'=>e= .returned (.int .i64 0)∧Below q.to.heap.size q.to w'):=fun q=>by
  have:=lH q.to M1 (A1.o.stay q.bel) HSS.o true
  rw[if_pos rfl,HMM.o,Tf,←hC9.o] at this;exact this
 have T2:Hid (∀q:After wm,Calls Tryz.prog 70 #[.agg C9, .bool false] q.to fun e w'=>e= .returned (.int .i64 141)∧Below q.to.heap.size q.to w'):=fun q=>by
  have:=lH q.to M1 (A1.o.stay q.bel) HSS.o false
  rw[if_neg AP,HMM.o,SK,←hC9.o] at this;exact this
 have T3:Hid (∀q:After wm,Calls Tryz.prog 70 #[.agg CA, .bool true] q.to fun e w'=>e= .returned (.int .i64 142)∧Below q.to.heap.size q.to w'):=fun q=>by
  have:=lH q.to MA (A2.o.stay q.bel) SA true
  rw[if_pos rfl,EA,Tz,←hCA.o] at this;exact this
 have T4:Hid (∀q:After wm,Calls Tryz.prog 70 #[.agg CB, .bool true] q.to fun e w'=>e= .returned (.int .i64 143)∧Below q.to.heap.size q.to w'):=fun q=>by
  have:=lH q.to MB (A3.o.stay q.bel) SB true
  rw[if_pos rfl,EB,SN,←hCB.o] at this;exact this
 have T5:Hid (∀q:After wm,Calls Tryz.prog 70 #[.agg CC, .bool true] q.to fun e w'=>e= .returned (.int .i64 90)∧Below q.to.heap.size q.to w'):=fun q=>by
  have:=lH q.to MC (A4.o.stay q.bel) SC true
  rw[if_pos rfl,HMC.o,TD,←hCC.o] at this;exact this
 have T7:Hid (∀q:After wm,Calls Tryz.prog 17 #[.agg CD] q.to fun e w'=>e= .returned (.bool false)∧Below q.to.heap.size q.to w'):=fun q=>by
  have:=jM q.to M7 (A7.o.stay q.bel)
  rw[iE,E7,Tm,←hCD.o] at this;exact this
 have T8:Hid (∀q:After wm,Calls Tryz.prog 17 #[.agg CF] q.to fun e w'=>e= .returned (.bool false)∧Below q.to.heap.size q.to w'):=fun q=>by
  have:=jM q.to M8 (A8.o.stay q.bel)
  rw[iE,E8,TW,←hCF.o] at this;exact this
 have W1:∀q:After wm,(Instr.loadAt 55 (.pointer (some ⟨p1,0,none⟩))).run Tryz.prog q.to= .ok (.agg C9) q.to:=fun q=>by rw[hC9.o];exact(R1.o.keep q.bel).whole
 have W2:∀q:After wm,(Instr.loadAt 55 (.pointer (some ⟨p2,0,none⟩))).run Tryz.prog q.to= .ok (.agg CA) q.to:=fun q=>by rw[hCA.o];exact(R2.o.keep q.bel).whole
 have W3:∀q:After wm,(Instr.loadAt 55 (.pointer (some ⟨p3,0,none⟩))).run Tryz.prog q.to= .ok (.agg CB) q.to:=fun q=>by rw[hCB.o];exact(R3.o.keep q.bel).whole
 have W4:∀q:After wm,(Instr.loadAt 55 (.pointer (some ⟨p4,0,none⟩))).run Tryz.prog q.to= .ok (.agg CC) q.to:=fun q=>by rw[hCC.o];exact(R4.o.keep q.bel).whole
 have W7:∀q:After wm,(Instr.loadAt 55 (.pointer (some ⟨p7,0,none⟩))).run Tryz.prog q.to= .ok (.agg CD) q.to:=fun q=>by rw[hCD.o];exact(R7.o.keep q.bel).whole
 have W8:∀q:After wm,(Instr.loadAt 55 (.pointer (some ⟨p7+1,0,none⟩))).run Tryz.prog q.to= .ok (.agg CF) q.to:=fun q=>by rw[hCF.o];exact(R8.o.keep q.bel).whole
 have HBM:Hid (Below w.heap.size w wm):=HB8.o.trans (h8m.mono HB8.o.size)
 clear hcm h8m EA EB E7 E8 SA SB SC
 go_upto_region 14 with fail
 refine fQ (VK p1 p2 p3 p4 p7 C9 CA CB CC CD CF) (U4 p1 p2 p3 p4 p7 C9 CA CB CC CD CF) [1,2,3,4,6,7,8] AB ⟨rfl,rfl,rfl,rfl,rfl,rfl,rfl,trivial⟩ ?_ ?_
 ·repeat' (first |exact aU |refine aI ?_ ?_)
  all_goals intro a hk
  ·
   exact .inl ⟨ah rfl,dG (.tmp 1) rfl (hk.o 1) (v:=(.agg C9)) (fun q=>W1 q) rfl⟩
  ·
   exact .inl ⟨ah rfl,iD rfl rfl #[(.agg C9),(.bool true)] (fun w=>AB) (by simp only[List.map_toArray,List.map_cons,List.map_nil,show ∀v,a.eval (.const v)=v from fun _=>rfl,(show a.eval (.tmp 49)=(.agg C9) from hk.s 49)]) (v:=(.int .i64 0)) (fun q=>T1.o q) rfl⟩
  ·
   exact .inl ⟨ah rfl,jG rfl (hk.s 50) rfl (v:= .bool (((0:Int)==0))) (fun w=>AB) (congrArg Value.bool (rfl))⟩
  ·
   exact .inl ⟨ah rfl,bZ (.tmp 51) rfl (hk.s 51)⟩
  ·
   exact .inl ⟨hk.yes 52 true,dG (.tmp 1) rfl (hk.o 1) (v:=(.agg C9)) (fun q=>W1 q) rfl⟩
  ·
   exact .inl ⟨hk.yes 52 true,iD rfl rfl #[(.agg C9),(.bool false)] (fun w=>AB) (by simp only[List.map_toArray,List.map_cons,List.map_nil,show ∀v,a.eval (.const v)=v from fun _=>rfl,(show a.eval (.tmp 53)=(.agg C9) from hk.s 53)]) (v:=(.int .i64 141)) (fun q=>T2.o q) rfl⟩
  ·
   exact .inl ⟨hk.yes 52 true,jG rfl (hk.s 54) rfl (v:= .bool (((141:Int)==141))) (fun w=>AB) (congrArg Value.bool (rfl))⟩
  ·
   exact .inl ⟨ah rfl,aT rfl true (hk.s 52) (hk.s 55)⟩
  ·
   exact .inl ⟨ah rfl,bZ (.tmp 56) rfl (hk.s 56)⟩
  ·
   exact .inl ⟨hk.yes 57 true,dG (.tmp 2) rfl (hk.o 2) (v:=(.agg CA)) (fun q=>W2 q) rfl⟩
  ·
   exact .inl ⟨hk.yes 57 true,iD rfl rfl #[(.agg CA),(.bool true)] (fun w=>AB) (by simp only[List.map_toArray,List.map_cons,List.map_nil,show ∀v,a.eval (.const v)=v from fun _=>rfl,(show a.eval (.tmp 58)=(.agg CA) from hk.s 58)]) (v:=(.int .i64 142)) (fun q=>T3.o q) rfl⟩
  ·
   exact .inl ⟨hk.yes 57 true,jG rfl (hk.s 59) rfl (v:= .bool (((142:Int)==142))) (fun w=>AB) (congrArg Value.bool (rfl))⟩
  ·
   exact .inl ⟨ah rfl,aT rfl true (hk.s 57) (hk.s 60)⟩
  ·
   exact .inl ⟨ah rfl,bZ (.tmp 61) rfl (hk.s 61)⟩
  ·
   exact .inl ⟨hk.yes 62 true,dG (.tmp 3) rfl (hk.o 3) (v:=(.agg CB)) (fun q=>W3 q) rfl⟩
  ·
   exact .inl ⟨hk.yes 62 true,iD rfl rfl #[(.agg CB),(.bool true)] (fun w=>AB) (by simp only[List.map_toArray,List.map_cons,List.map_nil,show ∀v,a.eval (.const v)=v from fun _=>rfl,(show a.eval (.tmp 63)=(.agg CB) from hk.s 63)]) (v:=(.int .i64 143)) (fun q=>T4.o q) rfl⟩
  ·
   exact .inl ⟨hk.yes 62 true,jG rfl (hk.s 64) rfl (v:= .bool (((143:Int)==143))) (fun w=>AB) (congrArg Value.bool (rfl))⟩
  ·
   exact .inl ⟨ah rfl,aT rfl true (hk.s 62) (hk.s 65)⟩
  ·
   exact .inl ⟨ah rfl,bZ (.tmp 66) rfl (hk.s 66)⟩
  ·
   exact .inl ⟨hk.yes 67 true,dG (.tmp 4) rfl (hk.o 4) (v:=(.agg CC)) (fun q=>W4 q) rfl⟩
  ·
   exact .inl ⟨hk.yes 67 true,iD rfl rfl #[(.agg CC),(.bool true)] (fun w=>AB) (by simp only[List.map_toArray,List.map_cons,List.map_nil,show ∀v,a.eval (.const v)=v from fun _=>rfl,(show a.eval (.tmp 68)=(.agg CC) from hk.s 68)]) (v:=(.int .i64 90)) (fun q=>T5.o q) rfl⟩
  ·
   exact .inl ⟨hk.yes 67 true,jG rfl (hk.s 69) rfl (v:= .bool (((90:Int)==90))) (fun w=>AB) (congrArg Value.bool (rfl))⟩
  ·
   exact .inl ⟨ah rfl,aT rfl true (hk.s 67) (hk.s 70)⟩
  ·
   exact .inl ⟨ah rfl,bZ (.tmp 71) rfl (hk.s 71)⟩
  ·
   exact .inl ⟨hk.yes 72 true,bZ (.tmp 6) rfl (hk.o 6)⟩
  ·
   exact .inl ⟨hk.yes 72 true,jG rfl (hk.s 73) rfl (v:= .bool (((140:Int)==140))) (fun w=>AB) (congrArg Value.bool (rfl))⟩
  ·
   exact .inl ⟨ah rfl,aT rfl true (hk.s 72) (hk.s 74)⟩
  ·
   exact .inl ⟨ah rfl,bZ (.tmp 75) rfl (hk.s 75)⟩
  ·
   exact .inl ⟨hk.yes 76 true,dG (.tmp 7) rfl (hk.o 7) (v:=(.agg CD)) (fun q=>W7 q) rfl⟩
  ·
   exact .inl ⟨hk.yes 76 true,iD rfl rfl #[(.agg CD)] (fun w=>AB) (by simp only[List.map_toArray,List.map_cons,List.map_nil,(show a.eval (.tmp 77)=(.agg CD) from hk.s 77)]) (v:=(.bool false)) (fun q=>T7.o q) rfl⟩
  ·
   exact .inl ⟨hk.yes 76 true,FK rfl _ (hk.s 78) rfl⟩
  ·
   exact .inl ⟨ah rfl,aT rfl true (hk.s 76) (hk.s 79)⟩
  ·
   exact .inl ⟨ah rfl,bZ (.tmp 80) rfl (hk.s 80)⟩
  ·
   exact .inl ⟨hk.yes 81 true,dG (.tmp 8) rfl (hk.o 8) (v:=(.agg CF)) (fun q=>W8 q) rfl⟩
  ·
   exact .inl ⟨hk.yes 81 true,iD rfl rfl #[(.agg CF)] (fun w=>AB) (by simp only[List.map_toArray,List.map_cons,List.map_nil,(show a.eval (.tmp 82)=(.agg CF) from hk.s 82)]) (v:=(.bool false)) (fun q=>T8.o q) rfl⟩
  ·
   exact .inl ⟨hk.yes 81 true,FK rfl _ (hk.s 83) rfl⟩
  ·
   exact .inl ⟨ah rfl,aT rfl true (hk.s 81) (hk.s 84)⟩
  ·
   exact .inl ⟨ah rfl,nH (.tmp 85) rfl (hk.s 85)⟩
 intro a ⟨wz,hbz⟩ hsame hall
 have he:=dn hsame [49,50,51,52,53,54,55,56,57,58,59,60,61,62,63,64,65,66,67,68,69,70,71,72,73,74,75,76,77,78,79,80,81,82,83,84,85,0] AB
 simp only[List.foldl_cons,List.foldl_nil] at he
 rw[show a.eval (.tmp 0)=(.bool true) from(hall 0 AB).trans (rfl)] at he
 generalize a.eval (.tmp 49)=x49 at he
 generalize a.eval (.tmp 50)=x50 at he
 generalize a.eval (.tmp 51)=x51 at he
 generalize a.eval (.tmp 52)=x52 at he
 generalize a.eval (.tmp 53)=x53 at he
 generalize a.eval (.tmp 54)=x54 at he
 generalize a.eval (.tmp 55)=x55 at he
 generalize a.eval (.tmp 56)=x56 at he
 generalize a.eval (.tmp 57)=x57 at he
 generalize a.eval (.tmp 58)=x58 at he
 generalize a.eval (.tmp 59)=x59 at he
 generalize a.eval (.tmp 60)=x60 at he
 generalize a.eval (.tmp 61)=x61 at he
 generalize a.eval (.tmp 62)=x62 at he
 generalize a.eval (.tmp 63)=x63 at he
 generalize a.eval (.tmp 64)=x64 at he
 generalize a.eval (.tmp 65)=x65 at he
 generalize a.eval (.tmp 66)=x66 at he
 generalize a.eval (.tmp 67)=x67 at he
 generalize a.eval (.tmp 68)=x68 at he
 generalize a.eval (.tmp 69)=x69 at he
 generalize a.eval (.tmp 70)=x70 at he
 generalize a.eval (.tmp 71)=x71 at he
 generalize a.eval (.tmp 72)=x72 at he
 generalize a.eval (.tmp 73)=x73 at he
 generalize a.eval (.tmp 74)=x74 at he
 generalize a.eval (.tmp 75)=x75 at he
 generalize a.eval (.tmp 76)=x76 at he
 generalize a.eval (.tmp 77)=x77 at he
 generalize a.eval (.tmp 78)=x78 at he
 generalize a.eval (.tmp 79)=x79 at he
 generalize a.eval (.tmp 80)=x80 at he
 generalize a.eval (.tmp 81)=x81 at he
 generalize a.eval (.tmp 82)=x82 at he
 generalize a.eval (.tmp 83)=x83 at he
 generalize a.eval (.tmp 84)=x84 at he
 generalize a.eval (.tmp 85)=x85 at he
 simp only[fV] at he
 dsimp only[List.set_cons_zero,List.set_cons_succ] at he
 subst he
 clear hsame hall
 go_wp2_with fail
 go_ret
 exact⟨rfl,HBM.o.trans (hbz.mono HBM.o.size)⟩
end Go.Proofs.YtlholdllibghbaaGreat
