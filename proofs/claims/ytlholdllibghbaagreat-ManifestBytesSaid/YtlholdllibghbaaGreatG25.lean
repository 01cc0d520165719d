/- Texts of the proof, one behind the other: ShaEat, ShaFrac, ShaPrimes, ShaFirst. No condition but those that each names. -/
import Derived.Test.YtlholdllibghbaaGreatG24
import Derived.Test.YtlholdllibghbaaGreatShelf
import Derived.Test.YtlholdllibghbaaGreatProg
import Derived.Test.YtlholdllibghbaaGreatG00
import Derived.IntWalk
import Derived.Maps.AppendAt
import Derived.RangeFuncBox
import Derived.Test.YtlholdllibghbaaGreatG22
import Derived.Test.YtlholdllibghbaaGreatG23
import Derived.Test.YtlholdllibghbaaGreatKit
set_option maxRecDepth 100000
set_option maxHeartbeats 8000000
namespace Go.Proofs.YtlholdllibghbaaGreat
open Go Go.RowKit Go.Cit
theorem Le (w:World) (s:S8) (a:Option Addr) (b:List UInt8) (c:Nat) (K:List UInt32) (hr:Row w a b c) (hb:b.length=64) (hK:K.length=64):
 Calls Tryz.prog 117 #[.agg (s.l.map vw).toArray, .slice a 64 c, .agg (K.map vw).toArray] w fun e w'=>e= .returned (.agg ((s.Ru K b).l.map vw).toArray)∧Below w.heap.size w w':=by
 have HA:=AQ (fun ρ d ty ps af w=>qH ρ d ty ps (af:=af) w)
 obtain⟨Z,hZ⟩:=AU (((List.replicate 64 (0:UInt32)).map vw).toArray)
 obtain⟨Y,hY⟩:=AU (((List.replicate 8 (0:UInt32)).map vw).toArray)
 obtain⟨S,hS⟩:=AU ((s.l.map vw).toArray)
 obtain⟨KV,hKV⟩:=AU ((K.map vw).toArray)
 obtain⟨F,hF⟩:=AU (((sched b 64).map vw).toArray)
 rw[←hY.o] at HA
 rw[←hS.o,←hKV.o]
 have HZ:Hid (Z.size=64):=by rw[Hid,hZ.o];simp
 have HY:Hid (Y.size=8):=by rw[Hid,hY.o];simp
 have HSs:Hid (S.size=8):=by rw[Hid,hS.o];simp[S8.l]
 have HFs:Hid (F.size=64):=by rw[Hid,hF.o];simp[fE]
 have HSo:Hid (S.all (·.oneCell')=true):=by rw[Hid,hS.o];exact oV _
 have HFo:Hid (F.all (·.oneCell')=true):=by rw[Hid,hF.o];exact oV _
 have HR:=AQ hr
 have HBL:=AQ hb
 have HKL:=AQ hK
 clear hr hb hK
 go_enter Tryz.func117,Tryz.ntmps117
 go_wp2_with (first
  | ((with_reducible refine lF (o:=⟨some 3, .box _ (.tmp 0),_,_,_,_⟩) (.tmp 0) AA AA AA ?_))
  | ((with_reducible refine lF (o:=⟨some 5, .box _ (.tmp 2),_,_,_,_⟩) (.tmp 2) AA AA AA ?_))
  | ((with_reducible refine aj (o:=⟨some 6, .alloc _,_,_,_,_⟩) AA (HA.o _ _ _ _ _ _) ?_)))
 have hsz:(((w.alloc (.cells S 158)).alloc (.cells KV 160)).alloc (.cells Y 158)).heap.size=w.heap.size+3:=by simp
 have B0:Below w.heap.size w (((w.alloc (.cells S 158)).alloc (.cells KV 160)).alloc (.cells Y 158)):=(((Below.refl _ w).alloc (Nat.le_refl _) _).alloc AO _).alloc (by simp;omega) _
 have b0:(((w.alloc (.cells S 158)).alloc (.cells KV 160)).alloc (.cells Y 158)).heap[w.heap.size]? =some (.cells S 158 (0,0)):=
  (Below.heap_alloc _ _ _ (by simp;omega)).trans ((Below.heap_alloc _ _ _ AO).trans (heap_alloc_new w _))
 have b1:(((w.alloc (.cells S 158)).alloc (.cells KV 160)).alloc (.cells Y 158)).heap[w.heap.size+1]? =some (.cells KV 160 (0,0)):=by
  refine(Below.heap_alloc _ _ _ AO).trans ?_
  have:=heap_alloc_new (w.alloc (.cells S 158)) (.cells KV 160)
  rwa[World.size_alloc] at this
 have b2:(((w.alloc (.cells S 158)).alloc (.cells KV 160)).alloc (.cells Y 158)).heap[w.heap.size+2]? =some (.cells Y 158 (0,0)):=by
  have:=heap_alloc_new ((w.alloc (.cells S 158)).alloc (.cells KV 160)) (.cells Y 158)
  rwa[World.size_alloc,World.size_alloc] at this
 simp only[World.size_alloc]
 generalize (((w.alloc (.cells S 158)).alloc (.cells KV 160)).alloc (.cells Y 158))=W at hsz B0 b0 b1 b2 ⊢
 have HRW:Hid (Row W a b c):=HR.o.stay B0
 refine mJ (zF W.heap.size W F S Z Y) (fun _ _ _=>True) (Qw a c F S) AB AB ?_ ?_ ?_ ?_
 ·intro w' hb hh
  exact⟨hb,fun h=>absurd h Bool.false_ne_true,fun h=>absurd h Bool.false_ne_true⟩
 ·intro δ i j o v a w w' _ _ _ _ _ _ _ h
  rcases hd:o.dst with _ |d
  ·exact eU hd _ _
  ·rw[fZ hd] at h ⊢
   exact OL h
 ·repeat' (first |exact aU |refine aI ?_ ?_)
  all_goals intro δ wa wx hk
  ·exact⟨ah rfl,eH (.tmp 1) rfl ⟨trivial,wP hk.inv rfl (Below.refl _ _) AP AP,hk.o 1⟩⟩
  ·refine⟨ah rfl,bJ rfl (hk.fn _) #[.slice a 64 c] (fun w=>AB) (by simp[show wa.eval (.tmp 15)=_ from hk.s 15]) ((yY wx a b c (HRW.o.stay hk.inv.1) HBL.o).mono ?_)⟩
   rintro e w' ⟨rfl,hb⟩
   exact⟨_,rfl,trivial,wP hk.inv rfl hb AP AP,by rw[←hF.o];rfl⟩
  ·have hb:=(hk.inv.1.block w.heap.size AL).trans b0
   exact⟨ah rfl,Po iT (.tmp 3) rfl (hk.o 3) hb HSs.o ⟨trivial,wP hk.inv rfl (Below.refl _ _) AP AP,rfl⟩⟩
  ·refine⟨ah rfl,fA (CO _ _ _ _ wx) ?_⟩
   rw[←hZ.o]
   exact⟨trivial,QF hk.inv rfl (hk.closed.yet 8 5 3 AB hk.yet) (by rw[hk.same.2.1,iR,iR,iR];exact(by decide:7<93)),trivial⟩
  ·refine⟨ah rfl,fA (qH _ _ _ _ wx) ?_⟩
   rw[←hY.o]
   exact⟨trivial,QA hk.inv rfl (hk.closed.yet 8 6 4 AB hk.yet) (by rw[hk.same.2.1,iR,iR,iR];exact(by decide:8<93)),trivial⟩
  ·have h3:δ 3=true:=by have:=hk.next.needs 8 5 3 AB (upd_same _ _);rwa[aA δ AP] at this
   obtain⟨g,e,hg,hc⟩:=hk.inv.2.1 h3
   rw[hk.yet] at hc
   refine⟨ah rfl,xB Em (.tmp 7) (.tmp 16) rfl e (hk.s 16) hc HZ.o HFs.o HFo.o ?_⟩
   intro w' hb hs
   exact⟨trivial,QJ hk.inv e hg ⟨_,hc⟩ hb hs,eU rfl _ _⟩
  ·have h4:δ 4=true:=by have:=hk.next.needs 8 6 4 AB (upd_same _ _);rwa[aA δ AP] at this
   obtain⟨g,e,hg,hc⟩:=hk.inv.2.2 h4
   rw[hk.yet] at hc
   refine⟨ah rfl,xB iT (.tmp 8) (.tmp 17) rfl e (hk.s 17) hc HY.o HSs.o HSo.o ?_⟩
   intro w' hb hs
   exact⟨trivial,Qq hk.inv e hg ⟨_,hc⟩ hb hs,eU rfl _ _⟩
 intro δ wa wx hall hC hsame hT
 obtain⟨hB,h7,h8⟩:=hC
 obtain⟨g7,e7,hg7,hc7⟩:=h7 (hall 3 AP)
 obtain⟨g8,e8,hg8,hc8⟩:=h8 (hall 4 AP)
 rw[hall 5 AP,if_pos rfl] at hc7
 rw[hall 6 AP,if_pos rfl] at hc8
 have he:=dn hsame [15,16,17,7,8] AB
 simp only[List.foldl_cons,List.foldl_nil] at he
 rw[show wa.eval (.tmp 15)=_ from hT 15 AB,show wa.eval (.tmp 16)=_ from hT 16 AB,show wa.eval (.tmp 17)=_ from hT 17 AB,show wa.eval (.tmp 7)=_ from e7,show wa.eval (.tmp 8)=_ from e8] at he
 subst he
 clear hT hsame e7 e8 hall h7 h8
 have A3:nO 158 wx w.heap.size s.l:=by
  have:=(hB.block w.heap.size AL).trans b0;rw[hS.o] at this;exact this
 have A5:nO 160 wx (w.heap.size+1) K:=by
  have:=(hB.block (w.heap.size+1) AL).trans b1;rw[hKV.o] at this;exact this
 have A6:wx.heap[w.heap.size+2]? =some (.cells Y 158 (0,0)):=(hB.block (w.heap.size+2) AL).trans b2
 have A7:nO 160 wx g7 (sched b 64):=by rw[hF.o] at hc7;exact hc7
 have A8:nO 158 wx g8 s.l:=by rw[hS.o] at hc8;exact hc8
 have B:=B0.trans (hB.mono AL)
 have hne:g7≠g8:=by
  rintro rfl
  rw[hc7] at hc8
  injection hc8 with hc8
  injection hc8 with _ hc8
  exact absurd hc8 AP
 obtain⟨L,hL⟩:=AU (sched b 64)
 have HLL:Hid (L.length=64):=by rw[Hid,hL.o,fE]
 rw[←hL.o] at A7
 rw[hsz] at hg7 hg8
 clear b0 b1 b2 hsz B0 hc7 hc8 hB HRW HR HA HZ HFs HFo hF hZ
 go_wp2_with fail
 go_loopw [18] (fun i wr=>∃(k:Nat) (x:S8),k≤64∧i= .int .i64 k∧Hid (x=s.rounds K L k)∧nO 158 wr g8 x.l∧Save (· ≠g8) wx wr) (fun i _=>64-(intOf i).toNat)
 case atStart=>exact⟨0,s,Nat.zero_le _,rfl,rfl,A8,Save.refl _ _⟩
 case round=>
  clear A8
  obtain⟨k,x,hk,rfl,HX,AX,hsv⟩:=hrel
  have A5':=A5.save hsv AL
  have A7':=A7.save hsv hne
  by_cases hlt:k<64
  ·have d1:decide ((k:Int)<64)=true:=by simp;omega
   have HKK:=HKL.o
   have HLK:=HLL.o
   have j0:=fun W=>pO (T:=158) (n:=8) Tryz.underlying158 g8 0 AP W 0 rfl
   have j1:=fun W=>pO (T:=158) (n:=8) Tryz.underlying158 g8 1 AP W 1 rfl
   have j2:=fun W=>pO (T:=158) (n:=8) Tryz.underlying158 g8 2 AP W 2 rfl
   have j4:=fun W=>pO (T:=158) (n:=8) Tryz.underlying158 g8 4 AP W 4 rfl
   have j5:=fun W=>pO (T:=158) (n:=8) Tryz.underlying158 g8 5 AP W 5 rfl
   have j6:=fun W=>pO (T:=158) (n:=8) Tryz.underlying158 g8 6 AP W 6 rfl
   have j7:=fun W=>pO (T:=158) (n:=8) Tryz.underlying158 g8 7 AP W 7 rfl
   have jk:=fun W=>jm (T:=160) (n:=64) Tryz.underlying160 (w.heap.size+1) k AL W
   have jw:=fun W=>jm (T:=160) (n:=64) Tryz.underlying160 g7 k AL W
   have c0:wr.cell? ⟨g8,0,none⟩=some (vw x.a):=AX.cell 0 (by decide:0<8)
   have c1:wr.cell? ⟨g8,1,none⟩=some (vw x.b):=AX.cell 1 (by decide:1<8)
   have c2:wr.cell? ⟨g8,2,none⟩=some (vw x.c):=AX.cell 2 (by decide:2<8)
   have c4:wr.cell? ⟨g8,4,none⟩=some (vw x.e):=AX.cell 4 (by decide:4<8)
   have c5:wr.cell? ⟨g8,5,none⟩=some (vw x.f):=AX.cell 5 (by decide:5<8)
   have c6:wr.cell? ⟨g8,6,none⟩=some (vw x.g):=AX.cell 6 (by decide:6<8)
   have c7:wr.cell? ⟨g8,7,none⟩=some (vw x.h):=AX.cell 7 (by decide:7<8)
   have ck:wr.cell? ⟨w.heap.size+1,k,none⟩=some (vw (K.getD k 0)):=yH A5' k AL
   have cw:wr.cell? ⟨g7,k,none⟩=some (vw (L.getD k 0)):=yH A7' k AL
   have d4:∀n,({wr with drawn:=n}:World).cell? ⟨g8,4,none⟩=some (vw x.e):=fun _=>c4
   have d7:∀n,({wr with drawn:=n}:World).cell? ⟨g8,7,none⟩=some (vw x.h):=fun _=>c7
   have dk:∀n,({wr with drawn:=n}:World).cell? ⟨w.heap.size+1,k,none⟩=some (vw (K.getD k 0)):=fun _=>ck
   have dw:∀n,({wr with drawn:=n}:World).cell? ⟨g7,k,none⟩=some (vw (L.getD k 0)):=fun _=>cw
   obtain⟨y,hy⟩:=AU (x.Ui (K.getD k 0) (L.getD k 0))
   have HYR:Hid (y=s.rounds K L (k+1)):=by rw[Hid,hy.o,HX.o];rfl
   generalize K.getD k 0=kk at ck dk hy
   generalize L.getD k 0=ll at cw dw hy
   have wa:∀x y:UInt32,IntKind.u32.wrap ((x.toNat:Int)+y.toNat)=((dH x y).toNat:Int):=jI
   have bx:∀x y:UInt32,bits .xor .u32 (x.toNat:Int) y.toNat=((nD x y).toNat:Int):=o8
   have ba:∀x y:UInt32,bits .and .u32 (x.toNat:Int) y.toNat=((lK x y).toNat:Int):=uj
   have bo:∀x y:UInt32,bits .or .u32 (x.toNat:Int) y.toNat=((LJ x y).toNat:Int):=CX
   clear HKK HLK
   go_wp2_with fail
   refine wp_region_still_lit AB AB ?_
   repeat still_step
   still_call (uN _ x.e 6 11 25 AP AP AP AP AP AP)
   repeat still_step
   refine wpStill_nil ?_
   change Exit.then _ _ _ _ wr.drew
   obtain⟨T,hT⟩:=AU (dH (dH (dH (dH x.h (nR 6 11 25 x.e)) (nD x.g (lK x.e (nD x.f x.g)))) kk) ll)
   obtain⟨M,hM⟩:=AU (LJ (lK x.a x.b) (lK x.c (LJ x.a x.b)))
   rw[←hT.o,←hM.o]
   have AXd:nO 158 wr.drew g8 x.l:=AX
   have hsvd:Save (· ≠g8) wx wr.drew:=hsv.drew
   clear c0 c1 c2 c4 c5 c6 c7 ck cw d4 d7 dk dw AX hsv A5' A7'
   generalize wr.drew=wr at AXd hsvd ⊢
   have c0:wr.cell? ⟨g8,0,none⟩=some (vw x.a):=AXd.cell 0 (by decide:0<8)
   go_wp2_with fail
   refine(uN _ x.a 2 13 22 AP AP AP AP AP AP).mono ?_
   rintro e w' ⟨rfl,rfl⟩
   go_wp2_with fail
   have l1:=E5 g8
   have l7:=Gl g8
   go_still_tail 2,AB
   change wpList _ _ _ _ _ w'.drew
   have AXe:nO 158 w'.drew g8 x.l:=AXd
   have hsve:Save (· ≠g8) wx w'.drew:=hsvd.drew
   clear c0 AXd hsvd l1 l7
   generalize w'.drew=wr at AXe hsve ⊢
   obtain⟨w3,hrun,A3x,hs3⟩:=Jc wr g8 x AXe 3
   refine wpList_copy_run rfl (.tmp 67) (.tmp 68) 167 167 rfl _ _ rfl rfl hrun ?_
   have hsv3:=hsve.trans hs3
   clear hrun AXe hsve hs3
   have c4:w3.cell? ⟨g8,4,none⟩=some (vw x.d):=A3x.cell 4 (by decide:4<8)
   have f4:w3.frozen? ⟨g8,4,none⟩=false:=A3x.free 4
   have AY:=(A3x.set 4 (dH x.d T)).set 0 (dH T (dH (nR 2 13 22 x.a) M))
   have c0:(w3.setCell ⟨g8,4,none⟩ (vw (dH x.d T))).cell? ⟨g8,0,none⟩=some (vw x.a):=(A3x.set 4 (dH x.d T)).cell 0 (by decide:0<8)
   have f0:(w3.setCell ⟨g8,4,none⟩ (vw (dH x.d T))).frozen? ⟨g8,0,none⟩=false:=(A3x.set 4 (dH x.d T)).free 0
   have HAY:Hid (nO 158 ((w3.setCell ⟨g8,4,none⟩ (vw (dH x.d T))).setCell ⟨g8,0,none⟩ (vw (dH T (dH (nR 2 13 22 x.a) M)))) g8 y.l):=by
    rw[Hid,hy.o];rw[hT.o,hM.o] at AY ⊢;exact AY
   have HSV:=AQ ((hsv3.trans (Save.set (b:=g8) (i:=4) (v:=vw (dH x.d T)))).trans (Save.set (b:=g8) (i:=0) (v:=vw (dH T (dH (nR 2 13 22 x.a) M)))))
   clear AY A3x hsv3
   go_wp2_with fail
   go_roundw
   case rel=>exact⟨k+1,y,by omega,by go_num,HYR,HAY.o,HSV.o⟩
   case measure=>simp[intOf];omega
  ·have hk2:k=64:=by omega
   have d1:decide ((k:Int)<64)=false:=by simp;omega
   obtain⟨z,hz⟩:=AU (s.Ru K b)
   have HZX:Hid (x.plus s=z):=by rw[Hid,hz.o,HX.o,hk2,hL.o];rfl
   clear HX hk2 A5' A7' A5 A7 hne HLL HKL hL hKV
   go_wp2_with fail
   go_loopw [80] (fun i wr=>∃(k:Nat),k≤8∧i= .int .i64 k∧nO 158 wr g8 ((x.plus s).l.take k++x.l.drop k)∧Save (· ≠g8) wx wr) (fun i _=>8-(intOf i).toNat)
   case atStart=>exact⟨0,Nat.zero_le _,rfl,AX,hsv⟩
   case round=>
    clear AX hsv
    obtain⟨k,hk,rfl,AX,hsv⟩:=hrel
    by_cases hlt:k<8
    ·have d1:decide ((k:Int)<8)=true:=by simp;omega
     have A3':=A3.save hsv AL
     have jx:=fun W=>jm (T:=158) (n:=8) Tryz.underlying158 g8 k hlt W
     have js:=fun W=>jm (T:=158) (n:=8) Tryz.underlying158 w.heap.size k hlt W
     have cx:∀n,({wr with drawn:=n}:World).cell? ⟨g8,k,none⟩=some (vw (x.l.getD k 0)):=fun _=>by
      have:=yH AX k (by simp[S8.l];omega)
      rw[Oy x s k hlt] at this;exact this
     have cs:∀n,({wr with drawn:=n}:World).cell? ⟨w.heap.size,k,none⟩=some (vw (s.l.getD k 0)):=fun _=>yH A3' k (by simp[S8.l];omega)
     have AN:=(show nO 158 wr.drew g8 _ from AX).set k (dH (x.l.getD k 0) (s.l.getD k 0))
     rw[MS x s k hlt] at AN
     have HSV:=AQ (hsv.drew.trans (Save.set (b:=g8) (i:=k) (v:=vw (dH (x.l.getD k 0) (s.l.getD k 0)))))
     have fx:wr.drew.frozen? ⟨g8,k,none⟩=false:=AX.free k
     have ex:wr.drew.cell? ⟨g8,k,none⟩=some (vw (x.l.getD k 0)):=cx _
     have HAN:=AQ AN
     generalize x.l.getD k 0=p at cx ex HSV HAN
     generalize s.l.getD k 0=q at cs HSV HAN
     have wa:∀x y:UInt32,IntKind.u32.wrap ((x.toNat:Int)+y.toNat)=((dH x y).toNat:Int):=jI
     clear AX hsv A3' AN
     go_wp2_with fail
     go_still_tail 8,AB
     change wpList _ _ _ _ _ wr.drew
     clear cx cs
     generalize wr.drew=wr at fx ex HSV HAN ⊢
     go_wp2_with fail
     go_roundw
     case rel=>exact⟨k+1,by omega,by go_num,HAN.o,HSV.o⟩
     case measure=>simp[intOf];omega
    ·have hk2:k=8:=by omega
     have d1:decide ((k:Int)<8)=false:=by simp;omega
     obtain⟨E,hE⟩:=AU ((z.l.map vw).toArray)
     have HE1:Hid (E.size=8):=by rw[Hid,hE.o];simp[S8.l]
     have HEO:Hid (E.all (·.oneCell')=true):=by rw[Hid,hE.o];exact oV _
     have HA1:Hid (wr.heap[g8]? =some (.cells E 158 (0,0))):=by
      rw[Hid,hE.o,←HZX.o];rw[hk2] at AX;exact AX
     have HA6:Hid (wr.heap[w.heap.size+2]? =some (.cells Y 158 (0,0))):=(hsv.block _ (Array.getElem?_eq_some_iff.1 A6).1 AL).trans A6
     clear hk2 AX
     go_wp2_with (first
      | ((with_reducible refine dD (o:=⟨some 92, .load _ _,_,_,_,_⟩) iT (.tmp 8) AA AA AA HA1.o HE1.o ?_))
      | ((with_reducible refine ay (o:=⟨none, .store _ (.tmp 6) (.tmp 92),_,_,_,_⟩) iT (.tmp 6) (.tmp 92) AA AA AA AA AA HA6.o HY.o HE1.o HEO.o ?_);intro w4 hb4 hS4))
     refine bodyPost_ret (ig iT rfl rfl hb4 HE1.o) rfl ⟨by rw[hE.o,hz.o], ?_⟩
     have h1:=B.size
     have h2:=hsv.size
     exact B.trans (((hsv.below (B:=w.heap.size) AL (fun j hj=>by omega))).trans (hS4.below AL (fun j hj=>by omega)))
open Go Go.RowKit Go.Cit
def Lm (x p:Nat):Bool:=decide (x*x/18446744073709551616<p) || (decide (x*x/18446744073709551616=p) && decide (x*x%18446744073709551616=0))
def Io (x:Nat):Nat:=(x*x/18446744073709551616*x%18446744073709551616+x*x%18446744073709551616*x/18446744073709551616)%18446744073709551616
def Qh (x:Nat):Nat:=x*x%18446744073709551616*x%18446744073709551616
def MZ (x p:Nat):Bool:=decide (Io x<p*4294967296) || (decide (Io x=p*4294967296) && decide (Qh x=0))
theorem Uh {a b:Nat} {r:Bool} (h:decide (a=b)=r):((a:Int)==(b:Int))=r:=by
 rw[←h,Bool.eq_iff_iff,beq_iff_eq,decide_eq_true_eq]
 constructor<;>intro h<;>omega
theorem Ej (w:World) (x p:Nat) (hx:x<274877906944) (hp:p<4294967296):
 Calls Tryz.prog 194 #[.int .u64 x, .int .u64 p] w fun e w'=>e= .returned (.bool (Lm x p))∧w'=w:=by
 have hm:=Tryz.bits_Mul64 x x AL AL w
 have HV:Hid (Lm x p=(decide (x*x/18446744073709551616<p) || (decide (x*x/18446744073709551616=p) && decide (x*x%18446744073709551616=0)))):=rfl
 generalize x*x/18446744073709551616=h at hm HV
 generalize x*x%18446744073709551616=l at hm HV
 obtain⟨b1,hb1⟩:∃b,decide (h<p)=b:=⟨_,rfl⟩
 obtain⟨b2,hb2⟩:∃b,decide (h=p)=b:=⟨_,rfl⟩
 obtain⟨b3,hb3⟩:∃b,decide (l=0)=b:=⟨_,rfl⟩
 rw[hb1,hb2,hb3] at HV
 have e2:=Uh hb2
 have e3:((l:Int)==0)=b3:=Uh hb3
 have e1:decide ((h:Int)<(p:Int))=b1:=by rw[←hb1];simp
 have HB:=AQ (And.intro hb2 hb3)
 clear hb2 hb3
 cases b1<;>cases b2<;>cases b3
 all_goals
  go_enter Tryz.func194,Tryz.ntmps194
  go_wp2_with fail
  refine hm.mono ?_
  rintro e w' ⟨rfl,rfl⟩
  go_wp2_with fail
  go_ret
  exact⟨by rw[HV.o];rfl,rfl⟩
theorem Jv (w:World) (x p:Nat) (hx:x<274877906944) (hp:p<4294967296):
 Calls Tryz.prog 195 #[.int .u64 x, .int .u64 p] w fun e w'=>e= .returned (.bool (MZ x p))∧w'=w:=by
 have hm:=Tryz.bits_Mul64 x x AL AL w
 have hm2:=Tryz.bits_Mul64 (x*x%18446744073709551616) x (Nat.mod_lt _ AP) AL w
 have HV:Hid (MZ x p=(decide (Io x<p*4294967296) || (decide (Io x=p*4294967296) && decide (Qh x=0)))):=rfl
 have e5:IntKind.u64.wrap ((p:Int)*4294967296)=((p*4294967296:Nat):Int):=by rw[dI];omega
 have HC:Hid (Io x=(x*x/18446744073709551616*x%18446744073709551616+x*x%18446744073709551616*x/18446744073709551616)%18446744073709551616):=rfl
 have HL:Hid (Qh x=x*x%18446744073709551616*x%18446744073709551616):=rfl
 generalize x*x%18446744073709551616*x/18446744073709551616=m at hm2 HC
 generalize x*x%18446744073709551616*x%18446744073709551616=k at hm2 HL
 generalize x*x/18446744073709551616=h at hm HC
 generalize x*x%18446744073709551616=l at hm hm2
 have e6:IntKind.u64.wrap (IntKind.u64.wrap ((h:Int)*(x:Int))+(m:Int))=((Io x:Nat):Int):=by
  rw[dI,dI,HC.o,Int.natCast_emod,Int.natCast_add,Int.natCast_emod,Int.natCast_mul];rfl
 rw[←HL.o] at hm2
 generalize Io x=H at e6 HV
 generalize Qh x=L at hm2 HV
 generalize p*4294967296=Q at e5 HV
 obtain⟨b1,hb1⟩:∃b,decide (H<Q)=b:=⟨_,rfl⟩
 obtain⟨b2,hb2⟩:∃b,decide (H=Q)=b:=⟨_,rfl⟩
 obtain⟨b3,hb3⟩:∃b,decide (L=0)=b:=⟨_,rfl⟩
 rw[hb1,hb2,hb3] at HV
 have e2:=Uh hb2
 have e3:((L:Int)==0)=b3:=Uh hb3
 have e1:decide ((H:Int)<(Q:Int))=b1:=by rw[←hb1];simp
 have HB:=AQ (And.intro hb2 hb3)
 clear hb2 hb3 HC HL
 cases b1<;>cases b2<;>cases b3
 all_goals
  go_enter Tryz.func195,Tryz.ntmps195
  go_wp2_with fail
  refine hm.mono ?_
  rintro e w' ⟨rfl,rfl⟩
  go_wp2_with fail
  refine hm2.mono ?_
  rintro e w' ⟨rfl,rfl⟩
  go_wp2_with fail
  go_ret
  exact⟨by rw[HV.o];rfl,rfl⟩
def bis (h:Nat→Bool):Nat→Nat→Nat
 | 0,fr=>fr
 | m+1,fr=>if h (fr+2^m) then bis h m (fr+2^m) else bis h m fr
theorem EH (w:World) (p:Nat) (hp:p<4294967296):
 Calls Tryz.prog 193 #[.int .u64 p, .func (.func 194) #[] #[]] w fun e w'=>e= .returned (.int .u32 ((bis (fun x=>Lm x p) 37 0%4294967296:Nat):Int))∧w'=w:=by
 go_enter Tryz.func193,Tryz.ntmps193
 go_wp2_with fail
 go_loop [5,6] (fun a b=>∃m fr:Nat,m≤37∧Hid (fr+2^m≤137438953472)∧a= .int .u64 fr∧b= .int .u64 ((fr+2^m:Nat):Int)∧Hid (bis (fun x=>Lm x p) m fr=bis (fun x=>Lm x p) 37 0)) (fun a b=>(intOf b-intOf a).toNat)
 case atStart=>exact⟨37,0,Nat.le_refl _,by rw[Hid];decide,rfl,rfl,rfl⟩
 case round=>
  obtain⟨m,fr,hm,HF,rfl,rfl,HB⟩:=hrel
  cases m with
  |
   zero=>
   have h1:decide ((1:Int)<1)=false:=by decide
   have e0:((fr+2^0:Nat):Int)=(fr:Int)+1:=by rw[Nat.pow_zero];omega
   rw[e0]
   have hfr:(fr:Int)+1≤137438953472:=by have:=HF.o;rw[Nat.pow_zero] at this;omega
   have HB2:Hid (fr=bis (fun x=>Lm x p) 37 0):=HB.o
   have e1:(fr:Int)+1-fr=1:=by omega
   have e2:IntKind.u32.wrap (fr:Int)=((fr%4294967296:Nat):Int):=by rw[fJ,Int.natCast_emod];rfl
   clear HB HF
   go_wp2_with fail
   go_ret
   exact⟨dX (by rw[←HB2.o]),rfl⟩
  |
   succ m=>
   obtain⟨q,hq⟩:∃q,2^m=q:=⟨_,rfl⟩
   have hq1:1≤q:=by rw[←hq];exact Nat.one_le_two_pow
   have hF:=HF.o
   rw[Nat.pow_succ,hq] at hF
   have e0:((fr+2^(m+1):Nat):Int)=(fr:Int)+2*q:=by rw[Nat.pow_succ,hq];omega
   rw[e0]
   have e1:(fr:Int)+2*q-fr=2*q:=by omega
   have d1:decide ((1:Int)<2*q)=true:=by simp;omega
   have e3:((fr:Int)+((fr:Int)+2*q))/2=((fr+q:Nat):Int):=by omega
   have b1:(fr:Int)+2*q≤137438953472:=by omega
   have HQ:=AQ hq
   have HBS:Hid (bis (fun x=>Lm x p) (m+1) fr=if Lm (fr+q) p then bis (fun x=>Lm x p) m (fr+q) else bis (fun x=>Lm x p) m fr):=by rw[Hid,bis,hq]
   have hc:=Ej w (fr+q) p AL hp
   clear hq hF e0
   cases hb:Lm (fr+q) p with
   |
    true=>
    rw[hb] at hc
    have HB1:=AQ hb
    clear hb
    go_wp2_with fail
    refine hc.mono ?_
    rintro e w' ⟨rfl,rfl⟩
    go_wp2_with fail
    go_round
    case rel=>exact⟨m,fr+q,by omega,by rw[Hid,HQ.o];omega,rfl,by rw[HQ.o];go_num,by rw[Hid,←HB.o,HBS.o,HB1.o];rfl⟩
    case measure=>simp[intOf];omega
   |
    false=>
    rw[hb] at hc
    have HB1:=AQ hb
    clear hb
    go_wp2_with fail
    refine hc.mono ?_
    rintro e w' ⟨rfl,rfl⟩
    go_wp2_with fail
    go_round
    case rel=>exact⟨m,fr,by omega,by rw[Hid,HQ.o];omega,rfl,by rw[HQ.o];go_num,by rw[Hid,←HB.o,HBS.o,HB1.o];rfl⟩
    case measure=>simp[intOf];omega
theorem D6 (w:World) (p:Nat) (hp:p<4294967296):
 Calls Tryz.prog 193 #[.int .u64 p, .func (.func 195) #[] #[]] w fun e w'=>e= .returned (.int .u32 ((bis (fun x=>MZ x p) 37 0%4294967296:Nat):Int))∧w'=w:=by
 go_enter Tryz.func193,Tryz.ntmps193
 go_wp2_with fail
 go_loop [5,6] (fun a b=>∃m fr:Nat,m≤37∧Hid (fr+2^m≤137438953472)∧a= .int .u64 fr∧b= .int .u64 ((fr+2^m:Nat):Int)∧Hid (bis (fun x=>MZ x p) m fr=bis (fun x=>MZ x p) 37 0)) (fun a b=>(intOf b-intOf a).toNat)
 case atStart=>exact⟨37,0,Nat.le_refl _,by rw[Hid];decide,rfl,rfl,rfl⟩
 case round=>
  obtain⟨m,fr,hm,HF,rfl,rfl,HB⟩:=hrel
  cases m with
  |
   zero=>
   have h1:decide ((1:Int)<1)=false:=by decide
   have e0:((fr+2^0:Nat):Int)=(fr:Int)+1:=by rw[Nat.pow_zero];omega
   rw[e0]
   have hfr:(fr:Int)+1≤137438953472:=by have:=HF.o;rw[Nat.pow_zero] at this;omega
   have HB2:Hid (fr=bis (fun x=>MZ x p) 37 0):=HB.o
   have e1:(fr:Int)+1-fr=1:=by omega
   have e2:IntKind.u32.wrap (fr:Int)=((fr%4294967296:Nat):Int):=by rw[fJ,Int.natCast_emod];rfl
   clear HB HF
   go_wp2_with fail
   go_ret
   exact⟨dX (by rw[←HB2.o]),rfl⟩
  |
   succ m=>
   obtain⟨q,hq⟩:∃q,2^m=q:=⟨_,rfl⟩
   have hq1:1≤q:=by rw[←hq];exact Nat.one_le_two_pow
   have hF:=HF.o
   rw[Nat.pow_succ,hq] at hF
   have e0:((fr+2^(m+1):Nat):Int)=(fr:Int)+2*q:=by rw[Nat.pow_succ,hq];omega
   rw[e0]
   have e1:(fr:Int)+2*q-fr=2*q:=by omega
   have d1:decide ((1:Int)<2*q)=true:=by simp;omega
   have e3:((fr:Int)+((fr:Int)+2*q))/2=((fr+q:Nat):Int):=by omega
   have b1:(fr:Int)+2*q≤137438953472:=by omega
   have HQ:=AQ hq
   have HBS:Hid (bis (fun x=>MZ x p) (m+1) fr=if MZ (fr+q) p then bis (fun x=>MZ x p) m (fr+q) else bis (fun x=>MZ x p) m fr):=by rw[Hid,bis,hq]
   have hc:=Jv w (fr+q) p AL hp
   clear hq hF e0
   cases hb:MZ (fr+q) p with
   |
    true=>
    rw[hb] at hc
    have HB1:=AQ hb
    clear hb
    go_wp2_with fail
    refine hc.mono ?_
    rintro e w' ⟨rfl,rfl⟩
    go_wp2_with fail
    go_round
    case rel=>exact⟨m,fr+q,by omega,by rw[Hid,HQ.o];omega,rfl,by rw[HQ.o];go_num,by rw[Hid,←HB.o,HBS.o,HB1.o];rfl⟩
    case measure=>simp[intOf];omega
   |
    false=>
    rw[hb] at hc
    have HB1:=AQ hb
    clear hb
    go_wp2_with fail
    refine hc.mono ?_
    rintro e w' ⟨rfl,rfl⟩
    go_wp2_with fail
    go_round
    case rel=>exact⟨m,fr,by omega,by rw[Hid,HQ.o];omega,rfl,by rw[HQ.o];go_num,by rw[Hid,←HB.o,HBS.o,HB1.o];rfl⟩
    case measure=>simp[intOf];omega
open Go Go.RowKit Go.Cit
def JV (l:List Nat) (x:Nat):Bool:=l.foldl (fun b p=>b && decide (x%p≠0)) true
def xG:Nat→List Nat
 | 0=> []
 | x+1=>if 2≤x∧JV (xG x) x=true then xG x++ [x] else xG x
theorem uK:∀x,∀p∈xG x,2≤p∧p<x
 | 0,p,h=>by simp[xG] at h
 |
  x+1,p,h=>by
  rw[xG] at h
  split at h
  ·rename_i hx
   rcases List.mem_append.1 h with h |h
   ·have:=uK x p h;omega
   ·obtain rfl:p=x:=by simpa using h
    omega
  ·have:=uK x p h;omega
theorem J9:∀(d x:Nat),xG x<+:xG (x+d)
 | 0,x=>List.prefix_refl _
 |
  d+1,x=>by
  refine List.IsPrefix.trans (J9 d x) ?_
  rw[←Nat.add_assoc,xG]
  split
  ·exact List.prefix_append _ _
  ·exact List.prefix_refl _
theorem JZ (x:Nat):(xG x).length≤x:=by
 induction x with
 | zero=>simp[xG]
 |
  succ x ih=>
  rw[xG]
  split
  ·rw[List.length_append];simp;omega
  ·omega
@[reducible] def vn (n:Nat):Value:= .int .u64 (n:Int)
theorem TF:(Tryz.prog.info? 62).map (fun i=>(i.zero,i.size,i.bytes))=some (some (.int .u64 0),1,8):=by kernel_rfl
theorem Vh:∀w,(sizeOf 62).run Tryz.prog w= .ok 1 w:=by intro w;kernel_rfl
structure Qs (B:Nat) (w:World) (a:Option Addr) (l:List Nat) (c:Nat):Prop where
 row:w.ownsRow B 62 1 (.slice a l.length c) l.length (l.map vn)
theorem Qs.cell {B w a l c} (h:Qs B w a l c) (i:Nat) (hi:i<l.length):∃g,a=some ⟨g,0,none⟩∧w.cell? ⟨g,i,none⟩=some (vn l[i]):=by
 rcases h.row.2 with⟨hv,hn⟩ |⟨g,cap,cur,hv,hb,hg,_⟩
 ·omega
 ·injection hv with h1 h2 h3
  refine⟨g,h1, ?_⟩
  have:=h.row.cells (g:=g) (by rw[h1];rfl) i (vn l[i]) (by simp[hi])
  have ea:(⟨g,0,none⟩:Addr).add i=⟨g,i,none⟩:=by unfold Addr.add;split<;>simp_all
  rwa[ea] at this
theorem Qs.index {B w a l c} (h:Qs B w a l c) (i:Nat) (hi:i<l.length):
 ∀w,(Instr.indexAt 236 (.slice a l.length c) (.int .i64 (i:Int))).run Tryz.prog w= .ok (.pointer (some (ad a i))) w:=by
 intro w
 obtain⟨g,rfl,_⟩:=h.cell i hi
 have hT:Tryz.prog.underlying 236=some (.slice 62):=Tryz.underlying236
 have he:Tryz.prog.elem 236=62:=by simp[Program.elem,hT]
 rw[run_indexAt_slice w _ _ _ _ _ _ (by rw[he];exact hT),if_pos AL,he,Vh]
 simp only[Result.andThen,ad,Addr.add]
 by_cases h0:i=0
 ·subst h0;simp
 ·simp[h0]
theorem Qs.save {S:Nat→Prop} {B w w' a l c} (h:Qs B w a l c) (hs:Save S w w') (hS:∀g,B≤g→g<w.heap.size→S g):Qs B w' a l c:=by
 refine⟨h.row.1, ?_⟩
 rcases h.row.2 with hn |⟨g,cap,cur,hv,hb,hg,rest⟩
 ·exact .inl hn
 ·have hlt:=(Array.getElem?_eq_some_iff.1 hg).1
  exact .inr ⟨g,cap,cur,hv,hb,(hs.block g hlt (hS g hb hlt)).trans hg,rest⟩
theorem vG (w:World) (n X:Nat) (hX:(xG X).length=n) (h9:X≤1000) (h2:2≤X):
 Calls Tryz.prog 192 #[.int .i64 n] w fun e w'=>∃a c,e= .returned (.slice a n c)∧Qs w.heap.size w' a (xG X) c∧Below w.heap.size w w':=by
 have hn9:n≤1000:=by have:=JZ X;omega
 obtain⟨ie,hi,hz0,hz1,hz2⟩:=info_parts TF
 go_enter Tryz.func192,Tryz.ntmps192
 go_wp2_with fail
 go_loopw [3,4] (fun v q wr=>∃(x:Nat) (a:Option Addr) (c:Nat) (l:List Nat),2≤x∧x≤X∧q= .int .u64 x∧Hid (l=xG x)∧v= .slice a l.length c∧Qs w.heap.size wr a l c∧Below w.heap.size w wr) (fun _ q _=>X-(intOf q).toNat)
 case atStart=>exact⟨2,none,0,[],Nat.le_refl _,h2,rfl,rfl,rfl,⟨World.ownsRow_nil _ _ _ _⟩,Below.refl _ _⟩
 case round=>
  obtain⟨x,a,c,l,hx2,hxX,rfl,HL,rfl,hQ,B⟩:=hrel
  have hll:l.length≤1000:=by rw[HL.o];have:=JZ x;omega
  by_cases hlt:l.length<n
  ·have hxlt:x<X:=by
    rcases Nat.lt_or_ge x X with h |h
    ·exact h
    ·exfalso
     have:x=X:=by omega
     rw[HL.o,this,hX] at hlt;omega
   have d1:decide ((l.length:Int)<(n:Int))=true:=by simp;omega
   have d1':decide (l.length<n)=true:=by simpa using hlt
   go_wp2_with fail
   go_loop [5,16] (fun b i=>∃(k:Nat) (r:Bool),k≤l.length∧i= .int .i64 k∧b= .bool r∧Hid (r=(l.take k).foldl (fun b p=>b && decide (x%p≠0)) true)) (fun _ i=>l.length-(intOf i).toNat)
   case atStart=>exact⟨0,true,Nat.zero_le _,rfl,rfl,rfl⟩
   case round=>
    obtain⟨k,r,hk,rfl,rfl,HR⟩:=hrel
    by_cases hk2:k<l.length
    ·obtain⟨g,rfl,hcell⟩:=hQ.cell k hk2
     have i0:=hQ.index k hk2
     have e0:wr.cell? (ad (some ⟨g,0,none⟩) k)=some (vn l[k]):=by simpa[ad] using hcell
     have hp:=uK x l[k] (by rw[←HL.o];exact List.getElem_mem hk2)
     have HS:Hid ((l.take (k+1)).foldl (fun b p=>b && decide (x%p≠0)) true=(r && decide (x%l[k]≠0))):=by
      rw[Hid,List.take_succ_eq_append_getElem hk2,List.foldl_append,←HR.o];rfl
     obtain⟨q,hq⟩:∃q,l[k]=q:=⟨_,rfl⟩
     rw[hq] at e0 hp HS
     clear hq hcell
     have hp2:(2:Int)≤q:=by omega
     have hpx:(q:Int)≤1000:=by omega
     cases hd:decide (x%q≠0) with
     |
      true=>
      rw[hd] at HS
      have m1:(((x:Int)%(q:Int)) !=0)=true:=by
       have:=of_decide_eq_true hd
       simp only[bne_iff_ne];intro h;apply this;omega
      have HD:=AQ hd
      clear hd
      cases r<;>
      (
       go_wp2_with fail
       go_round
       case rel=>exact⟨k+1,_,by omega,by go_num,rfl,by rw[Hid,HS.o];rfl⟩
       case measure=>simp[intOf];omega)
     |
      false=>
      rw[hd] at HS
      have m1:(((x:Int)%(q:Int)) !=0)=false:=by
       have:=of_decide_eq_false hd
       simp only[bne_eq_false_iff_eq]
       omega
      have HD:=AQ hd
      clear hd
      cases r<;>
      (
       go_wp2_with fail
       go_round
       case rel=>exact⟨k+1,_,by omega,by go_num,rfl,by rw[Hid,HS.o];rfl⟩
       case measure=>simp[intOf];omega)
    ·have hk3:k=l.length:=by omega
     have HR2:Hid (r=JV l x):=by rw[Hid,HR.o,hk3,List.take_length];rfl
     clear HR hk3
     cases r with
     |
      true=>
      have HP:Hid (l++ [x]=xG (x+1)):=by rw[Hid,xG,if_pos ⟨hx2,by rw[←HL.o,←HR2.o]⟩,HL.o]
      have hb5:w.heap.size≤(wr.alloc (.cells #[vn x] 62)).heap.size:=by have:=B.size;simp;omega
      have hm5:l.length+1≤maxLen:=by unfold maxLen;omega
      go_wp2_with (at_builtin;refine wpList_append_own _ rfl (.tmp 29) (.tmp 31) 236 rfl w.heap.size 62 ie (.int .u64 0) 1 8 Tryz.underlying236 hi hz0 hz1 hz2 rfl AP _ l.length (l.map vn) rfl (hQ.row.alloc _) ⟨wr.heap.size,0,none⟩ 1 1 [vn x] rfl rfl (cell_one_new _ _ _) (by simp[Value.oneCell']) hm5 AL hb5 ?_;intro v' w5 hown5 hgr5 _;obtain⟨g5,cap5,rfl⟩:=ownsRow_succ hown5)
      go_roundw
      case rel=>
       refine⟨x+1,some ⟨g5,0,none⟩,cap5,l++ [x],by omega,by omega,by go_num,HP,by simp,⟨?_⟩,((B.alloc B.size _).grown hgr5 hb5 (fun j e=>(hQ.row.lt j e).1))⟩
       rw[List.length_append,List.map_append];exact hown5
      case measure=>simp[intOf];omega
     |
      false=>
      have HP:Hid (l=xG (x+1)):=by rw[Hid,xG,if_neg (by rw[←HL.o,←HR2.o];simp),HL.o]
      go_wp2_with fail
      go_roundw
      case rel=>exact⟨x+1,a,c,l,by omega,by omega,by go_num,HP,rfl,hQ,B⟩
      case measure=>simp[intOf];omega
  ·have d1:decide ((l.length:Int)<(n:Int))=false:=by simp;omega
   have HF:Hid (l=xG X∧l.length=n):=by
    obtain⟨t,ht⟩:=J9 (X-x) x
    rw[show x+(X-x)=X by omega,←HL.o] at ht
    have h1:=congrArg List.length ht
    rw[List.length_append,hX] at h1
    have:t=[]:=List.eq_nil_of_length_eq_zero AL
    rw[this,List.append_nil] at ht
    exact⟨ht,by rw[ht,hX]⟩
   go_wp2_with fail
   go_ret
   refine⟨a,c,by rw[←HF.o.2];rfl,by rw[←HF.o.1];exact hQ,B⟩
open Go Go.RowKit Go.Cit
def Oq (p:Nat):UInt32:=UInt32.ofNat (bis (fun x=>Lm x p) 37 0)
theorem TY (p:Nat):Value.int .u32 ((bis (fun x=>Lm x p) 37 0%4294967296:Nat):Int)=vw (Oq p):=by
 unfold Oq vw
 rw[UInt32.toNat_ofNat']
def UR:List UInt32:=(xG 20).map Oq
theorem Gv:(xG 20).length=8:=by decide+kernel
theorem PV:UR=fK.l:=by decide+kernel
theorem Fz (ρ:Operand→Value) (d:Option Tmp) (ty:TypeId) (ps:String) {af} (w:World):
 (execOp ρ {dst:=d,op:=Op.alloc 158,type:=ty,pos:=ps,after:=af,guard:=none}).run Tryz.prog w= .ok (.value (.pointer (some ⟨w.heap.size,0,none⟩))) (w.alloc (.cells ((List.replicate 8 (0:UInt32)).map vw).toArray 158)):=by
 kernel_rfl
theorem wU:fO Tryz.prog 158 8:=⟨⟨_,Tryz.underlying158,rfl⟩,by kernel_rfl⟩
theorem Hq (w:World):
 Calls Tryz.prog 113 #[] w fun e w'=>e= .returned (.agg (fK.l.map vw).toArray)∧Below w.heap.size w w':=by
 have HA:=AQ (fun ρ d ty ps af w=>Fz ρ d ty ps (af:=af) w)
 obtain⟨Z,hZ⟩:=AU (((List.replicate 8 (0:UInt32)).map vw).toArray)
 rw[←hZ.o] at HA
 have HZ:Hid (Z.size=8):=by rw[Hid,hZ.o];simp
 have b0:=heap_alloc_new w (.cells Z 158)
 have b1:=heap_alloc_new (w.alloc (.cells Z 158)) (.cells Z 158)
 rw[World.size_alloc] at b1
 have b0:=(Below.heap_alloc (w.alloc (.cells Z 158)) (.cells Z 158) w.heap.size AO).trans b0
 have gB:Below w.heap.size w ((w.alloc (.cells Z 158)).alloc (.cells Z 158)):=((Below.refl _ _).alloc (Nat.le_refl _) _).alloc AO _
 have hsz:((w.alloc (.cells Z 158)).alloc (.cells Z 158)).heap.size=w.heap.size+2:=by simp
 have hp:=vG ((w.alloc (.cells Z 158)).alloc (.cells Z 158)) 8 20 Gv AP AP
 have HB:=AQ (And.intro b0 (And.intro b1 (And.intro gB hsz)))
 have HPP:=AQ hp
 clear b0 b1 gB hsz hp
 go_enter Tryz.func113,Tryz.ntmps113
 go_wp2_with (first
  | ((with_reducible refine aj (o:=⟨some 0, .alloc _,_,_,_,_⟩) AA (HA.o _ _ _ _ _ _) ?_))
  | ((with_reducible refine aj (o:=⟨some 1, .alloc _,_,_,_,_⟩) AA (HA.o _ _ _ _ _ _) ?_)))
 refine Calls.mono HPP.o ?_
 rintro e w2 ⟨a,c,rfl,hQ,hb2⟩
 obtain⟨b0,b1,gB,hsz⟩:=HB.o
 rw[hsz] at hQ hb2
 have hs2:=hb2.size
 rw[hsz] at hs2
 have A0:w2.heap[w.heap.size]? =some (.cells Z 158):=(hb2.block _ AL).trans b0
 have A1:nO 158 w2 (w.heap.size+1) (List.replicate 8 0):=by
  have:=(hb2.block (w.heap.size+1) AL).trans b1
  rw[hZ.o] at this;exact this
 have B2:Below w.heap.size w w2:=gB.trans (hb2.mono AL)
 have HPL:=AQ Gv
 obtain⟨ps,hps⟩:=AU (xG 20)
 rw[←hps.o] at hQ HPL
 have HPS:Hid (∀p∈ps,p<20):=by rw[Hid,hps.o];exact fun p hp=>(uK _ p hp).2
 clear b0 b1 gB hsz HB hb2
 go_wp2_with fail
 go_loopw [6] (fun i wr=>∃(k:Nat) (l:List UInt32),k≤8∧i= .int .i64 k∧Hid (l=(ps.take k).map Oq++List.replicate (8-k) 0)∧nO 158 wr (w.heap.size+1) l∧wr.heap[w.heap.size]? =some (.cells Z 158)∧Qs (w.heap.size+2) wr a ps c∧Below w.heap.size w wr) (fun i _=>8-(intOf i).toNat)
 case atStart=>exact⟨0,_,Nat.zero_le _,rfl,by simp[Hid],A1,A0,hQ,B2⟩
 case round=>
  clear A0 A1 hQ B2
  obtain⟨k,l,hk,rfl,HL,A1,A0,hQ,B⟩:=hrel
  by_cases hlt:k<8
  ·have hkp:k<ps.length:=by rw[HPL.o];exact hlt
   obtain⟨g,rfl,hcell⟩:=hQ.cell k hkp
   have i0:=hQ.index k hkp
   rw[HPL.o] at i0
   have e0:wr.cell? (ad (some ⟨g,0,none⟩) k)=some (vn ps[k]):=by simpa[ad] using hcell
   have hpk:=HPS.o _ (List.getElem_mem hkp)
   obtain⟨q,hq⟩:∃q,ps[k]=q:=⟨_,rfl⟩
   rw[hq] at e0 hpk
   have hll:l.length=8:=by rw[HL.o];simp[HPL.o];omega
   have i1:=fun W=>jm (T:=158) (n:=8) Tryz.underlying158 (w.heap.size+1) k hlt W
   have c1:=A1.cell k AL
   have f1:=A1.free k
   have hfc:=EH wr q AL
   rw[TY] at hfc
   have HS:=AQ (A1.set k (Oq q))
   have HLS:Hid (l.set k (Oq q)=(ps.take (k+1)).map Oq++List.replicate (8-(k+1)) 0):=by
    obtain⟨m,hm⟩:∃m,8-k=m+1:=⟨8-k-1,by omega⟩
    have hlen:((ps.take k).map Oq).length=k:=by simp[HPL.o];omega
    rw[Hid,HL.o,hm,show 8-(k+1)=m by omega,List.set_append_right _ _ AL,hlen,Nat.sub_self,List.replicate_succ,List.set_cons_zero,List.take_succ_eq_append_getElem hkp,List.map_append,hq,List.append_assoc];rfl
   have hsv:Save (· ≠w.heap.size+1) wr (wr.setCell ⟨w.heap.size+1,k,none⟩ (vw (Oq q))):=Save.set
   have HN:Hid (wr.setCell ⟨w.heap.size+1,k,none⟩ (vw (Oq q)) |>.heap[w.heap.size]? |>(· =some (.cells Z 158))):=(hsv.block _ (Array.getElem?_eq_some_iff.1 A0).1 AL).trans A0
   have HQ2:=AQ (hQ.save hsv (fun g hg _=>by omega))
   have HB2:=AQ (B.setCell (p:=⟨w.heap.size+1,k,none⟩) (by show w.heap.size≤w.heap.size+1;omega) (vw (Oq q)))
   clear hq hcell hsv
   go_wp2_with fail
   refine hfc.mono ?_
   rintro e w' ⟨rfl,rfl⟩
   go_wp2_with fail
   go_roundw
   case rel=>exact⟨k+1,_,by omega,by go_num,HLS,HS.o,HN.o,HQ2.o,HB2.o⟩
   case measure=>simp[intOf];omega
  ·have hk2:k=8:=by omega
   have HF:Hid (l=fK.l):=by
    rw[Hid,HL.o,hk2,Nat.sub_self,List.replicate_zero,List.append_nil,List.take_of_length_le (by rw[HPL.o];exact Nat.le_refl _),hps.o];exact PV
   have HL1:Hid ((l.map vw).toArray.size=8):=by rw[Hid,HF.o];simp[S8.l]
   have HO:=AQ (oV l)
   have HA1:Hid (wr.heap[w.heap.size+1]? =some (.cells (l.map vw).toArray 158 (0,0))):=A1
   have HA0:=AQ A0
   obtain⟨F,hF⟩:=AU ((l.map vw).toArray)
   rw[←hF.o] at HL1 HO HA1
   clear hk2 HL A1 A0
   go_wp2_with (first
    | ((with_reducible refine dD (o:=⟨some 16, .load _ _,_,_,_,_⟩) wU (.tmp 1) AA AA AA HA1.o HL1.o ?_))
    | ((with_reducible refine ay (o:=⟨none, .store _ (.tmp 0) (.tmp 16),_,_,_,_⟩) wU (.tmp 0) (.tmp 16) AA AA AA AA AA HA0.o HZ.o HL1.o HO.o ?_);intro w4 hb4 hS4))
   refine bodyPost_ret (ig wU rfl rfl hb4 HL1.o) rfl ⟨by rw[hF.o,HF.o], ?_⟩
   exact B.trans (hS4.below B.size (fun j hj=>by omega))
def Nq (p:Nat):UInt32:=UInt32.ofNat (bis (fun x=>MZ x p) 37 0)
theorem TS (p:Nat):Value.int .u32 ((bis (fun x=>MZ x p) 37 0%4294967296:Nat):Int)=vw (Nq p):=by
 unfold Nq vw
 rw[UInt32.toNat_ofNat']
def UY:List UInt32:=(xG 312).map Nq
theorem Hg:(xG 312).length=64:=by decide+kernel
theorem PX:UY=jf:=by decide+kernel
theorem yB (ρ:Operand→Value) (d:Option Tmp) (ty:TypeId) (ps:String) {af} (w:World):
 (execOp ρ {dst:=d,op:=Op.alloc 160,type:=ty,pos:=ps,after:=af,guard:=none}).run Tryz.prog w= .ok (.value (.pointer (some ⟨w.heap.size,0,none⟩))) (w.alloc (.cells ((List.replicate 64 (0:UInt32)).map vw).toArray 160)):=by
 kernel_rfl
theorem nZ:fO Tryz.prog 160 64:=⟨⟨_,Tryz.underlying160,rfl⟩,by kernel_rfl⟩
theorem yA (w:World):
 Calls Tryz.prog 114 #[] w fun e w'=>e= .returned (.agg (jf.map vw).toArray)∧Below w.heap.size w w':=by
 have HA:=AQ (fun ρ d ty ps af w=>yB ρ d ty ps (af:=af) w)
 obtain⟨Z,hZ⟩:=AU (((List.replicate 64 (0:UInt32)).map vw).toArray)
 rw[←hZ.o] at HA
 have HZ:Hid (Z.size=64):=by rw[Hid,hZ.o];simp
 have b0:=heap_alloc_new w (.cells Z 160)
 have b1:=heap_alloc_new (w.alloc (.cells Z 160)) (.cells Z 160)
 rw[World.size_alloc] at b1
 have b0:=(Below.heap_alloc (w.alloc (.cells Z 160)) (.cells Z 160) w.heap.size AO).trans b0
 have gB:Below w.heap.size w ((w.alloc (.cells Z 160)).alloc (.cells Z 160)):=((Below.refl _ _).alloc (Nat.le_refl _) _).alloc AO _
 have hsz:((w.alloc (.cells Z 160)).alloc (.cells Z 160)).heap.size=w.heap.size+2:=by simp
 have hp:=vG ((w.alloc (.cells Z 160)).alloc (.cells Z 160)) 64 312 Hg AP AP
 have HB:=AQ (And.intro b0 (And.intro b1 (And.intro gB hsz)))
 have HPP:=AQ hp
 clear b0 b1 gB hsz hp
 go_enter Tryz.func114,Tryz.ntmps114
 go_wp2_with (first
  | ((with_reducible refine aj (o:=⟨some 0, .alloc _,_,_,_,_⟩) AA (HA.o _ _ _ _ _ _) ?_))
  | ((with_reducible refine aj (o:=⟨some 1, .alloc _,_,_,_,_⟩) AA (HA.o _ _ _ _ _ _) ?_)))
 refine Calls.mono HPP.o ?_
 rintro e w2 ⟨a,c,rfl,hQ,hb2⟩
 obtain⟨b0,b1,gB,hsz⟩:=HB.o
 rw[hsz] at hQ hb2
 have hs2:=hb2.size
 rw[hsz] at hs2
 have A0:w2.heap[w.heap.size]? =some (.cells Z 160):=(hb2.block _ AL).trans b0
 have A1:nO 160 w2 (w.heap.size+1) (List.replicate 64 0):=by
  have:=(hb2.block (w.heap.size+1) AL).trans b1
  rw[hZ.o] at this;exact this
 have B2:Below w.heap.size w w2:=gB.trans (hb2.mono AL)
 have HPL:=AQ Hg
 obtain⟨ps,hps⟩:=AU (xG 312)
 rw[←hps.o] at hQ HPL
 have HPS:Hid (∀p∈ps,p<312):=by rw[Hid,hps.o];exact fun p hp=>(uK _ p hp).2
 clear b0 b1 gB hsz HB hb2
 go_wp2_with fail
 go_loopw [6] (fun i wr=>∃(k:Nat) (l:List UInt32),k≤64∧i= .int .i64 k∧Hid (l=(ps.take k).map Nq++List.replicate (64-k) 0)∧nO 160 wr (w.heap.size+1) l∧wr.heap[w.heap.size]? =some (.cells Z 160)∧Qs (w.heap.size+2) wr a ps c∧Below w.heap.size w wr) (fun i _=>64-(intOf i).toNat)
 case atStart=>exact⟨0,_,Nat.zero_le _,rfl,by simp[Hid],A1,A0,hQ,B2⟩
 case round=>
  clear A0 A1 hQ B2
  obtain⟨k,l,hk,rfl,HL,A1,A0,hQ,B⟩:=hrel
  by_cases hlt:k<64
  ·have hkp:k<ps.length:=by rw[HPL.o];exact hlt
   obtain⟨g,rfl,hcell⟩:=hQ.cell k hkp
   have i0:=hQ.index k hkp
   rw[HPL.o] at i0
   have e0:wr.cell? (ad (some ⟨g,0,none⟩) k)=some (vn ps[k]):=by simpa[ad] using hcell
   have hpk:=HPS.o _ (List.getElem_mem hkp)
   obtain⟨q,hq⟩:∃q,ps[k]=q:=⟨_,rfl⟩
   rw[hq] at e0 hpk
   have hll:l.length=64:=by rw[HL.o];simp[HPL.o];omega
   have i1:=fun W=>jm (T:=160) (n:=64) Tryz.underlying160 (w.heap.size+1) k hlt W
   have c1:=A1.cell k AL
   have f1:=A1.free k
   have hfc:=D6 wr q AL
   rw[TS] at hfc
   have HS:=AQ (A1.set k (Nq q))
   have HLS:Hid (l.set k (Nq q)=(ps.take (k+1)).map Nq++List.replicate (64-(k+1)) 0):=by
    obtain⟨m,hm⟩:∃m,64-k=m+1:=⟨64-k-1,by omega⟩
    have hlen:((ps.take k).map Nq).length=k:=by simp[HPL.o];omega
    rw[Hid,HL.o,hm,show 64-(k+1)=m by omega,List.set_append_right _ _ AL,hlen,Nat.sub_self,List.replicate_succ,List.set_cons_zero,List.take_succ_eq_append_getElem hkp,List.map_append,hq,List.append_assoc];rfl
   have hsv:Save (· ≠w.heap.size+1) wr (wr.setCell ⟨w.heap.size+1,k,none⟩ (vw (Nq q))):=Save.set
   have HN:Hid (wr.setCell ⟨w.heap.size+1,k,none⟩ (vw (Nq q)) |>.heap[w.heap.size]? |>(· =some (.cells Z 160))):=(hsv.block _ (Array.getElem?_eq_some_iff.1 A0).1 AL).trans A0
   have HQ2:=AQ (hQ.save hsv (fun g hg _=>by omega))
   have HB2:=AQ (B.setCell (p:=⟨w.heap.size+1,k,none⟩) (by show w.heap.size≤w.heap.size+1;omega) (vw (Nq q)))
   clear hq hcell hsv
   go_wp2_with fail
   refine hfc.mono ?_
   rintro e w' ⟨rfl,rfl⟩
   go_wp2_with fail
   go_roundw
   case rel=>exact⟨k+1,_,by omega,by go_num,HLS,HS.o,HN.o,HQ2.o,HB2.o⟩
   case measure=>simp[intOf];omega
  ·have hk2:k=64:=by omega
   have HF:Hid (l=jf):=by
    rw[Hid,HL.o,hk2,Nat.sub_self,List.replicate_zero,List.append_nil,List.take_of_length_le (by rw[HPL.o];exact Nat.le_refl _),hps.o];exact PX
   have HL1:Hid ((l.map vw).toArray.size=64):=by rw[Hid,HF.o];simp[jf]
   have HO:=AQ (oV l)
   have HA1:Hid (wr.heap[w.heap.size+1]? =some (.cells (l.map vw).toArray 160 (0,0))):=A1
   have HA0:=AQ A0
   obtain⟨F,hF⟩:=AU ((l.map vw).toArray)
   rw[←hF.o] at HL1 HO HA1
   clear hk2 HL A1 A0
   go_wp2_with (first
    | ((with_reducible refine dD (o:=⟨some 16, .load _ _,_,_,_,_⟩) nZ (.tmp 1) AA AA AA HA1.o HL1.o ?_))
    | ((with_reducible refine ay (o:=⟨none, .store _ (.tmp 0) (.tmp 16),_,_,_,_⟩) nZ (.tmp 0) (.tmp 16) AA AA AA AA AA HA0.o HZ.o HL1.o HO.o ?_);intro w4 hb4 hS4))
   refine bodyPost_ret (ig nZ rfl rfl hb4 HL1.o) rfl ⟨by rw[hF.o,HF.o], ?_⟩
   exact B.trans (hS4.below B.size (fun j hj=>by omega))
end Go.Proofs.YtlholdllibghbaaGreat
