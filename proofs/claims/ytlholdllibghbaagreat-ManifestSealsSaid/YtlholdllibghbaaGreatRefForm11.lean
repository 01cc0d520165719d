/- citadelref11.Can, Form: walked. -/
import Derived.Test.YtlholdllibghbaaGreatG17
import Derived.Test.YtlholdllibghbaaGreatG07
import Derived.Test.YtlholdllibghbaaGreatG33
import Derived.Test.YtlholdllibghbaaGreatKit
set_option maxRecDepth 100000
set_option maxHeartbeats 8000000
namespace Go.Proofs.YtlholdllibghbaaGreat
open Go Go.RowKit Go.Cit
theorem Dx (w:World) (V:aN) (h:V.At w):Calls Tryz.prog 50 #[.agg #[.slice V.wa V.ws.length V.wc, .slice V.pa V.ps.length V.pc, .slice V.ca V.cs.length V.cc]] w fun e w'=>e= .returned (.bool (nP V))∧Below w.heap.size w w':=by
 obtain⟨w0,hw0⟩:=AV (w.alloc (.cells #[.slice V.wa V.ws.length V.wc, .slice V.pa V.ps.length V.pc, .slice V.ca V.cs.length V.cc] 26))
 have B0:Below w.heap.size w w0:=by rw[hw0];exact(Below.refl _ w).alloc (Nat.le_refl _) _
 have hI:gJ w0 w.heap.size V:=by rw[hw0];exact dn w V _
 have HV:=AQ (h.stay B0)
 have HI:=AQ hI
 have HB0:=AQ B0
 have hl1:=h.win.bF
 have hl2:=h.pts.bF
 have hl3:=h.mW.bF
 obtain⟨R,hR⟩:=AU (nP V)
 rw[←hR.o]
 clear h B0 hI
 go_enter Tryz.func50,Tryz.ntmps50
 go_wp2_with fail
 rw[←hw0]
 clear hw0
 go_loopw [3] (fun i wr=>∃k:Nat,i= .int .i64 (k:Int)∧k≤V.ps.length∧Hid ((V.ps.take k).any jV=false)∧Below w0.heap.size w0 wr) (fun i _=>V.ps.length-(intOf i).toNat)
 case atStart=>exact⟨0,rfl,Nat.zero_le _,by rw[Hid];simp,Below.refl _ _⟩
 case round=>
  obtain⟨k,rfl,hk,HJ,B⟩:=hrel
  have HBw:=AQ B
  obtain⟨c0,c1,c2⟩:=HI.o.keep B
  by_cases hlt:k<V.ps.length
  ·have i0:=HV.o.pts.index Cm k hlt
   obtain⟨u0,u1,u2,u3,u4⟩:=bQ HV.o.pts B k hlt
   have HS:=AQ (Eu jV V.ps k hlt)
   have HMEM:Hid (V.ps[k]∈V.ps):=List.getElem_mem hlt
   obtain⟨x,hx⟩:∃x,Hid (x=V.ps[k]):=⟨V.ps[k],rfl⟩
   rw[←hx.o] at u4 HS HMEM
   clear u0 u1 u2 u3 B
   by_cases hq:512<x.img.length
   ·have HRF:Hid (R=false):=by
     rw[Hid,hR.o];unfold nP
     rw[show V.ps.any jV=true from List.any_eq_true.2 ⟨x,HMEM.o,by simp[jV,hq]⟩];simp
    have t1:decide ((512:Int)<(x.img.length:Int))=true:=by simp;omega
    go_wp2_with fail
    all_goals first
     | (go_ret;exact⟨aC HRF.o.symm,HB0.o.trans (HBw.o.mono HB0.o.size)⟩)
     | (exfalso;omega)
   ·have HJ2:Hid ((V.ps.take (k+1)).any jV=false):=by rw[Hid,HS.o,HJ.o];simp[jV];omega
    have t1:decide ((512:Int)<(x.img.length:Int))=false:=by simp;omega
    go_wp2_with fail
    all_goals first
     | (
      go_roundw
      case rel=>exact⟨k+1,by go_num,by omega,HJ2.o,HBw.o⟩
      case measure=>simp[intOf];omega)
     | (exfalso;omega)
  ·have hk2:k=V.ps.length:=by omega
   have HAL:Hid (V.ps.any jV=false):=by have:=HJ.o;rwa[hk2,List.take_length] at this
   have HRT:Hid (R=((decide (V.ws.length≤12) && decide (V.ps.length≤6)) && decide (V.cs.length≤8))):=by rw[Hid,hR.o];unfold nP;rw[HAL.o];simp
   clear B HJ
   subst hk2
   go_wp2_with fail
   all_goals first
    | (
     go_ret
     refine⟨aC ?_,HB0.o.trans (HBw.o.mono HB0.o.size)⟩
     rw[HRT.o]
     first |(simp;omega) |(simp;(try omega)) |grind)
    | (exfalso;omega)
theorem Bo (w:World) (V:aN) (h:V.At w) (hcan:nP V=true):Calls Tryz.prog 126 #[.agg #[.slice V.wa V.ws.length V.wc, .slice V.pa V.ps.length V.pc, .slice V.ca V.cs.length V.cc]] w fun e w'=>∃a' c',e= .returned (.slice a' (qE V).length c')∧Cit.Own 5 w.heap.size w' a' (qE V) c'∧Below w.heap.size w w':=by
 have hsp:=qZ hcan
 have hlw:=vG V.ws
 have hlc:=yt V.cs
 have hlp:=yh V.ps hsp.2.2.2
 have HL:Hid ((V.ws.flatMap iO).length≤192∧(V.ps.flatMap iY).length≤3246∧(V.cs.flatMap xG).length≤320):=⟨by omega,by omega,by omega⟩
 have HLG:Hid (∀x∈V.ps,x.img.length≤512):=fun x hx=>by
  have:=List.any_eq_false.1 hsp.2.2.2 x hx
  simp[jV] at this
  exact this
 obtain⟨w0,hw0⟩:=AV (w.alloc (.cells #[.slice V.wa V.ws.length V.wc, .slice V.pa V.ps.length V.pc, .slice V.ca V.cs.length V.cc] 26))
 have B0:Below w.heap.size w w0:=by rw[hw0];exact(Below.refl _ w).alloc (Nat.le_refl _) _
 have hI:gJ w0 w.heap.size V:=by rw[hw0];exact dn w V _
 have HV:=AQ (h.stay B0)
 have HI:=AQ hI
 have HB0:=AQ B0
 have hl1:=h.win.bF
 have hl2:=h.pts.bF
 have hl3:=h.mW.bF
 obtain⟨c0,c1,c2⟩:=HI.o
 obtain⟨R,hR⟩:=AU (qE V)
 rw[←hR.o]
 have HK:=AQ (dW w0 (V.ws.length:Int))
 clear h B0 hI hsp hlw hlc hlp
 go_enter Tryz.func126,Tryz.ntmps126
 go_wp2_with fail
 rw[←hw0]
 clear hw0
 refine(HK.o).mono ?_
 rintro e w1 ⟨a1,X1,k1,HX1,rfl,hO,hn,hb⟩
 have HX1:Hid (X1=int8 V.ws.length):=HX1
 have HO1:=AQ hO
 have HB1:=AQ hb
 have HN1:Hid (X1.length≤8):=by rw[Hid,HX1.o,eF];exact Nat.le_refl _
 clear hO hn hb c0 c1 c2 HK
 go_wp2_with fail
 go_loopw [3,4] (fun s i wr=>∃(k:Nat) (a:Option Addr) (X:List UInt8) (c:Nat),s= .slice a X.length c∧i= .int .i64 (k:Int)∧k≤V.ws.length∧Hid (X=int8 V.ws.length++(V.ws.take k).flatMap iO)∧Cit.Own 5 w0.heap.size wr a X c∧Below w0.heap.size w0 wr) (fun _ i _=>V.ws.length-(intOf i).toNat)
 case atStart=>exact⟨0,a1,X1,k1,rfl,rfl,Nat.zero_le _,by rw[Hid,HX1.o];simp,HO1.o,HB1.o⟩
 case round=>
  obtain⟨k,a,X,c,rfl,rfl,hk,HX,hO,B⟩:=hrel
  have HB2:=AQ B
  have HO2:=AQ hO
  obtain⟨c0,c1,c2⟩:=HI.o.keep B
  have HN2:Hid (X.length≤300):=by rw[Hid,HX.o,List.length_append,eF];have:=oZ iO V.ws k;have:=HL.o.1;omega
  obtain⟨X2,hX2⟩:=AV (X)
  rw[←hX2] at HX HO2 HN2 ⊢
  have HX2:=HX
  clear HX hX2 hO B
  by_cases hlt:k<V.ws.length
  ·have i0:=HV.o.win.index JX k hlt
   have u:∀ {wx:World},Below w0.heap.size w0 wx→_:=fun {wx} hb=>jo HV.o.win hb k hlt
   obtain⟨u0,u1⟩:=u HB2.o
   have HS:=AQ (kK iO V.ws k hlt)
   obtain⟨x,hx⟩:∃x,Hid (x=V.ws[k]):=⟨V.ws[k],rfl⟩
   rw[←hx.o] at u0 u1 HS
   have HK:=AQ (dW wr x.len.1)
   go_wp2_with fail
   refine(HK.o).mono ?_
   rintro e w3 ⟨aY,Y,cY,HY,rfl,hY,hYn,hbY⟩
   have HYO:=AQ hY.isRow
   have HYN:=AQ hYn
   have hYl:Y.length≤8:=by rw[HY.o]<;>(exact Nat.le_of_eq (aB _ _))
   have HBY:=AQ (HB2.o.trans (hbY.mono HB2.o.size))
   have HOY:=AQ (HO2.o.stay hbY)
   have hXl:=HN2.o
   clear hY hYn hbY HK c0 c1 c2 u0 u1
   go_upto_region 6 with ((with_reducible refine bY (o:=⟨some 30, .call _,_,_,_,_⟩) bt (.tmp 22) (.tmp 29) AA AA HOY.o HYO.o HYN.o AL HBY.o.size AA AA ?_);intro a4 c4 w6 hO4 hg4 hn4;obtain⟨X3,hX3⟩:∃Z,Hid (Z=X2++Y):=⟨_,rfl⟩;rw[←hX3.o] at hO4 ⊢;have HO3:=AQ hO4;have HB3:=AQ (HBY.o.trans (grown_below hg4 HBY.o.size (fun k hk=>(HOY.o.aJ hk).1)));clear hO4 hg4 hn4)
   have HX3:Hid (X3=int8 V.ws.length++(V.ws.take k).flatMap iO++int8 x.len.1):=by rw[Hid,hX3.o,HX2.o,HY.o]<;>(rfl)
   have HN3:Hid (X3.length≤308):=by rw[Hid,hX3.o,List.length_append];omega
   clear hX3 hYl hXl HYO HYN HBY HOY
   clear HO2 HB2 HX2 HN2 HY
   obtain⟨c0,c1,c2⟩:=HI.o.keep HB3.o
   obtain⟨u0,u1⟩:=u HB3.o
   rw[←hx.o] at u0 u1
   have HK:=AQ (dW w6 x.part.1)
   go_wp2_with fail
   refine(HK.o).mono ?_
   rintro e w7 ⟨aY,Y,cY,HY,rfl,hY,hYn,hbY⟩
   have HYO:=AQ hY.isRow
   have HYN:=AQ hYn
   have hYl:Y.length≤8:=by rw[HY.o]<;>(exact Nat.le_of_eq (aB _ _))
   have HBY:=AQ (HB3.o.trans (hbY.mono HB3.o.size))
   have HOY:=AQ (HO3.o.stay hbY)
   have hXl:=HN3.o
   clear hY hYn hbY HK c0 c1 c2 u0 u1
   go_wp2_with ((with_reducible refine bY (o:=⟨some 39, .call _,_,_,_,_⟩) bt (.tmp 31) (.tmp 38) AA AA HOY.o HYO.o HYN.o AL HBY.o.size AA AA ?_);intro a4 c4 w6 hO4 hg4 hn4;obtain⟨X4,hX4⟩:∃Z,Hid (Z=X3++Y):=⟨_,rfl⟩;rw[←hX4.o] at hO4 ⊢;have HO4:=AQ hO4;have HB4:=AQ (HBY.o.trans (grown_below hg4 HBY.o.size (fun k hk=>(HOY.o.aJ hk).1)));clear hO4 hg4 hn4)
   have HX4:Hid (X4=int8 V.ws.length++(V.ws.take (k+1)).flatMap iO):=by rw[Hid,hX4.o,HX3.o,HY.o]<;>(rw[HS.o];simp[iO,int8])
   have HN4:Hid (X4.length≤316):=by rw[Hid,hX4.o,List.length_append];omega
   clear hX4 hYl hXl HYO HYN HBY HOY
   clear HO3 HB3 HX3 HN3 HY
   go_roundw
   case rel=>exact⟨k+1,_,X4,_,rfl,by go_num,by omega,HX4.o,HO4.o,HB4.o⟩
   case measure=>simp[intOf];omega
  ·have hk2:k=V.ws.length:=by omega
   have HXn:Hid (X2=(int8 V.ws.length++V.ws.flatMap iO)):=by rw[Hid,HX2.o,hk2,List.take_length]
   clear HX2
   have HX2:=HXn
   clear HXn
   subst hk2
   clear hk hlt
   have HK:=AQ (dW wr (V.ps.length:Int))
   go_wp2_with fail
   refine(HK.o).mono ?_
   rintro e w3 ⟨aY,Y,cY,HY,rfl,hY,hYn,hbY⟩
   have HYO:=AQ hY.isRow
   have HYN:=AQ hYn
   have hYl:Y.length≤8:=by rw[HY.o]<;>(exact Nat.le_of_eq (aB _ _))
   have HBY:=AQ (HB2.o.trans (hbY.mono HB2.o.size))
   have HOY:=AQ (HO2.o.stay hbY)
   have hXl:=HN2.o
   clear hY hYn hbY HK c0 c1 c2
   go_upto_region 8 with ((with_reducible refine bY (o:=⟨some 45, .call _,_,_,_,_⟩) bt (.tmp 40) (.tmp 44) AA AA HOY.o HYO.o HYN.o AL HBY.o.size AA AA ?_);intro a4 c4 w6 hO4 hg4 hn4;obtain⟨X3,hX3⟩:∃Z,Hid (Z=X2++Y):=⟨_,rfl⟩;rw[←hX3.o] at hO4 ⊢;have HO3:=AQ hO4;have HB3:=AQ (HBY.o.trans (grown_below hg4 HBY.o.size (fun k hk=>(HOY.o.aJ hk).1)));clear hO4 hg4 hn4)
   have HX3:Hid (X3=(int8 V.ws.length++V.ws.flatMap iO)++int8 V.ps.length):=by rw[Hid,hX3.o,HX2.o,HY.o]<;>(rfl)
   have HN3:Hid (X3.length≤308):=by rw[Hid,hX3.o,List.length_append];omega
   clear hX3 hYl hXl HYO HYN HBY HOY
   clear HO2 HB2 HX2 HN2 HY
   obtain⟨c0,c1,c2⟩:=HI.o.keep HB3.o
   go_wp2_with fail
   go_loopw [3,5] (fun s i wr=>∃(k:Nat) (a:Option Addr) (X:List UInt8) (c:Nat),s= .slice a X.length c∧i= .int .i64 (k:Int)∧k≤V.ps.length∧Hid (X=(int8 V.ws.length++V.ws.flatMap iO)++(int8 V.ps.length++(V.ps.take k).flatMap iY))∧Cit.Own 5 w0.heap.size wr a X c∧Below w0.heap.size w0 wr) (fun _ i _=>V.ps.length-(intOf i).toNat)
   case atStart=>exact⟨0,_,X3,_,rfl,rfl,Nat.zero_le _,by rw[Hid,HX3.o];simp,HO3.o,HB3.o⟩
   case round=>
    obtain⟨k,a,X,c,rfl,rfl,hk,HX,hO,B⟩:=hrel
    have HB2:=AQ B
    clear c0 c1 c2
    obtain⟨c0,c1,c2⟩:=HI.o.keep B
    have HN2:Hid (X.length≤4000):=by rw[Hid,HX.o];simp only[List.length_append,eF];have:=oZ iY V.ps k;have:=HL.o.1;have:=HL.o.2.1;omega
    obtain⟨X2,hX2⟩:=AV (X)
    have HO2:=AQ hO
    rw[←hX2] at HX HO2 HN2 ⊢
    have HX2:=HX
    clear HX hX2 hO HO3 HX3 HN3
    by_cases hlt:k<V.ps.length
    ·have i0:=HV.o.pts.index Cm k hlt
     obtain⟨u0,u1,u2,u3,u4⟩:=bQ HV.o.pts B k hlt
     have HS:=AQ (kK iY V.ps k hlt)
     have HR:=AQ (HV.o.img V.ps[k] (List.getElem_mem hlt))
     have HLI:=AQ (HLG.o V.ps[k] (List.getElem_mem hlt))
     obtain⟨x,hx⟩:∃x,Hid (x=V.ps[k]):=⟨V.ps[k],rfl⟩
     rw[←hx.o] at u0 u1 u2 u3 u4 HS HR HLI
     obtain⟨wb,hwb⟩:=AV (wr.alloc (.cells (cA x) 46))
     obtain⟨p,hp⟩:=AV (wr.heap.size)
     have hbb:Below wr.heap.size wr wb:=by rw[hwb];exact(Below.refl _ _).alloc (Nat.le_refl _) _
     have HPb:Hid (wb.heap[p]? =some (.cells (cA x) 46 (0,0))):=by rw[hwb,hp];exact heap_alloc_new _ _
     have HOb:=AQ (HO2.o.stay hbb)
     have HBb:=AQ (B.trans (hbb.mono B.size))
     go_upto_region 12 with fail
     rw[←hwb,←hp]
     clear hwb hp hbb u0 u1 u2 u3 u4 i0 c0 c1 c2 B HO2 HB2
     have HO2:=HOb
     have HB2:=HBb
     have HP2:=HPb
     clear HOb HBb HPb
     have u0:=aA HP2.o 0 rfl
     have HK:=AQ (dW wb x.id.1)
     go_wp2_with fail
     refine(HK.o).mono ?_
     rintro e v2 ⟨aY,Y,cY,HY,rfl,hY,hYn,hbY⟩
     have HYO:=AQ hY.isRow
     have HYN:=AQ hYn
     have hYl:Y.length≤8:=by rw[HY.o]<;>(exact Nat.le_of_eq (aB _ _))
     have HBY:=AQ (HB2.o.trans (hbY.mono HB2.o.size))
     have HOY:=AQ (HO2.o.stay hbY)
     have hXl:=HN2.o
     have HPY:=AQ (aG HP2.o hbY)
     clear hY hYn hbY HK u0
     go_upto_region 13 with ((with_reducible refine bY (o:=⟨some 62, .call _,_,_,_,_⟩) bt (.tmp 58) (.tmp 61) AA AA HOY.o HYO.o HYN.o AL HBY.o.size AA AA ?_);intro a4 c4 w6 hO4 hg4 hn4;obtain⟨X3,hX3⟩:∃Z,Hid (Z=X2++Y):=⟨_,rfl⟩;rw[←hX3.o] at hO4 ⊢;have HO3:=AQ hO4;have HB3:=AQ (HBY.o.trans (grown_below hg4 HBY.o.size (fun k hk=>(HOY.o.aJ hk).1)));have HP3:=AQ ((hg4.block p (Array.getElem?_eq_some_iff.1 HPY.o).1 (fun e=>own_ne HOY.o HPY.o AP e.symm)).trans HPY.o);clear hO4 hg4 hn4)
     have HX3:Hid (X3=(int8 V.ws.length++V.ws.flatMap iO)++(int8 V.ps.length++(V.ps.take k).flatMap iY)++int8 x.id.1):=by rw[Hid,hX3.o,HX2.o,HY.o]<;>(rfl)
     have HN3:Hid (X3.length≤4008):=by rw[Hid,hX3.o,List.length_append];omega
     clear hX3 hYl hXl HYO HYN HBY HOY
     clear HO2 HB2 HX2 HN2 HY HPY HP2
     have u0:=aA HP3.o 1 rfl
     have HK:=AQ (dW w6 x.reg.base.1)
     go_wp2_with fail
     refine(HK.o).mono ?_
     rintro e v3 ⟨aY,Y,cY,HY,rfl,hY,hYn,hbY⟩
     have HYO:=AQ hY.isRow
     have HYN:=AQ hYn
     have hYl:Y.length≤8:=by rw[HY.o]<;>(exact Nat.le_of_eq (aB _ _))
     have HBY:=AQ (HB3.o.trans (hbY.mono HB3.o.size))
     have HOY:=AQ (HO3.o.stay hbY)
     have hXl:=HN3.o
     have HPY:=AQ (aG HP3.o hbY)
     clear hY hYn hbY HK u0
     go_upto_region 14 with ((with_reducible refine bY (o:=⟨some 68, .call _,_,_,_,_⟩) bt (.tmp 63) (.tmp 67) AA AA HOY.o HYO.o HYN.o AL HBY.o.size AA AA ?_);intro a4 c4 w6 hO4 hg4 hn4;obtain⟨X4,hX4⟩:∃Z,Hid (Z=X3++Y):=⟨_,rfl⟩;rw[←hX4.o] at hO4 ⊢;have HO4:=AQ hO4;have HB4:=AQ (HBY.o.trans (grown_below hg4 HBY.o.size (fun k hk=>(HOY.o.aJ hk).1)));have HP4:=AQ ((hg4.block p (Array.getElem?_eq_some_iff.1 HPY.o).1 (fun e=>own_ne HOY.o HPY.o AP e.symm)).trans HPY.o);clear hO4 hg4 hn4)
     have HX4:Hid (X4=(int8 V.ws.length++V.ws.flatMap iO)++(int8 V.ps.length++(V.ps.take k).flatMap iY)++int8 x.id.1++int8 x.reg.base.1):=by rw[Hid,hX4.o,HX3.o,HY.o]<;>(rfl)
     have HN4:Hid (X4.length≤4016):=by rw[Hid,hX4.o,List.length_append];omega
     clear hX4 hYl hXl HYO HYN HBY HOY
     clear HO3 HB3 HX3 HN3 HY HPY HP3
     have u0:=aA HP4.o 2 rfl
     have HK:=AQ (dW w6 x.reg.size.1)
     go_wp2_with fail
     refine(HK.o).mono ?_
     rintro e v4 ⟨aY,Y,cY,HY,rfl,hY,hYn,hbY⟩
     have HYO:=AQ hY.isRow
     have HYN:=AQ hYn
     have hYl:Y.length≤8:=by rw[HY.o]<;>(exact Nat.le_of_eq (aB _ _))
     have HBY:=AQ (HB4.o.trans (hbY.mono HB4.o.size))
     have HOY:=AQ (HO4.o.stay hbY)
     have hXl:=HN4.o
     have HPY:=AQ (aG HP4.o hbY)
     clear hY hYn hbY HK u0
     go_upto_region 15 with ((with_reducible refine bY (o:=⟨some 74, .call _,_,_,_,_⟩) bt (.tmp 69) (.tmp 73) AA AA HOY.o HYO.o HYN.o AL HBY.o.size AA AA ?_);intro a4 c4 w6 hO4 hg4 hn4;obtain⟨X5,hX5⟩:∃Z,Hid (Z=X4++Y):=⟨_,rfl⟩;rw[←hX5.o] at hO4 ⊢;have HO5:=AQ hO4;have HB5:=AQ (HBY.o.trans (grown_below hg4 HBY.o.size (fun k hk=>(HOY.o.aJ hk).1)));have HP5:=AQ ((hg4.block p (Array.getElem?_eq_some_iff.1 HPY.o).1 (fun e=>own_ne HOY.o HPY.o AP e.symm)).trans HPY.o);clear hO4 hg4 hn4)
     have HX5:Hid (X5=(int8 V.ws.length++V.ws.flatMap iO)++(int8 V.ps.length++(V.ps.take k).flatMap iY)++int8 x.id.1++int8 x.reg.base.1++int8 x.reg.size.1):=by rw[Hid,hX5.o,HX4.o,HY.o]<;>(rfl)
     have HN5:Hid (X5.length≤4024):=by rw[Hid,hX5.o,List.length_append];omega
     clear hX5 hYl hXl HYO HYN HBY HOY
     clear HO4 HB4 HX4 HN4 HY HPY HP4
     have u0:=aA HP5.o 3 rfl
     have HK:=AQ (Aw w6 x.keep)
     go_wp2_with fail
     refine(HK.o).mono ?_
     rintro e v5 ⟨aY,Y,cY,HY,rfl,hY,hYn,hbY⟩
     have HYO:=AQ hY.isRow
     have HYN:=AQ hYn
     have hYl:Y.length≤1:=by rw[HY.o]<;>(exact Nat.le_refl _)
     have HBY:=AQ (HB5.o.trans (hbY.mono HB5.o.size))
     have HOY:=AQ (HO5.o.stay hbY)
     have hXl:=HN5.o
     have HPY:=AQ (aG HP5.o hbY)
     clear hY hYn hbY HK u0
     go_upto_region 16 with ((with_reducible refine bY (o:=⟨some 79, .call _,_,_,_,_⟩) bt (.tmp 75) (.tmp 78) AA AA HOY.o HYO.o HYN.o AL HBY.o.size AA AA ?_);intro a4 c4 w6 hO4 hg4 hn4;obtain⟨X6,hX6⟩:∃Z,Hid (Z=X5++Y):=⟨_,rfl⟩;rw[←hX6.o] at hO4 ⊢;have HO6:=AQ hO4;have HB6:=AQ (HBY.o.trans (grown_below hg4 HBY.o.size (fun k hk=>(HOY.o.aJ hk).1)));have HP6:=AQ ((hg4.block p (Array.getElem?_eq_some_iff.1 HPY.o).1 (fun e=>own_ne HOY.o HPY.o AP e.symm)).trans HPY.o);clear hO4 hg4 hn4)
     have HX6:Hid (X6=(int8 V.ws.length++V.ws.flatMap iO)++(int8 V.ps.length++(V.ps.take k).flatMap iY)++int8 x.id.1++int8 x.reg.base.1++int8 x.reg.size.1++iI x.keep):=by rw[Hid,hX6.o,HX5.o,HY.o]<;>(rfl)
     have HN6:Hid (X6.length≤4025):=by rw[Hid,hX6.o,List.length_append];omega
     clear hX6 hYl hXl HYO HYN HBY HOY
     clear HO5 HB5 HX5 HN5 HY HPY HP5
     have u0:=aA HP6.o 4 rfl
     have HK:=AQ (qX w6 (HR.o.stay HB6.o) (Nat.le_trans HLI.o AP))
     go_wp2_with fail
     refine(HK.o).mono ?_
     rintro e v6 ⟨aY,Y,cY,HY,rfl,hY,hYn,hbY⟩
     have HYO:=AQ hY.isRow
     have HYN:=AQ hYn
     have hYl:Y.length≤516:=by rw[HY.o]<;>(rw[bD];have:=HLI.o;omega)
     have HBY:=AQ (HB6.o.trans (hbY.mono HB6.o.size))
     have HOY:=AQ (HO6.o.stay hbY)
     have hXl:=HN6.o
     have HPY:=AQ (aG HP6.o hbY)
     clear hY hYn hbY HK u0
     go_wp2_with ((with_reducible refine bY (o:=⟨some 84, .call _,_,_,_,_⟩) bt (.tmp 80) (.tmp 83) AA AA HOY.o HYO.o HYN.o AL HBY.o.size AA AA ?_);intro a4 c4 w6 hO4 hg4 hn4;obtain⟨X7,hX7⟩:∃Z,Hid (Z=X6++Y):=⟨_,rfl⟩;rw[←hX7.o] at hO4 ⊢;have HO7:=AQ hO4;have HB7:=AQ (HBY.o.trans (grown_below hg4 HBY.o.size (fun k hk=>(HOY.o.aJ hk).1)));have HP7:=AQ ((hg4.block p (Array.getElem?_eq_some_iff.1 HPY.o).1 (fun e=>own_ne HOY.o HPY.o AP e.symm)).trans HPY.o);clear hO4 hg4 hn4)
     have HX7:Hid (X7=(int8 V.ws.length++V.ws.flatMap iO)++(int8 V.ps.length++(V.ps.take (k+1)).flatMap iY)):=by rw[Hid,hX7.o,HX6.o,HY.o]<;>(rw[HS.o];simp[iY,int8])
     have HN7:Hid (X7.length≤4541):=by rw[Hid,hX7.o,List.length_append];omega
     clear hX7 hYl hXl HYO HYN HBY HOY
     clear HO6 HB6 HX6 HN6 HY HPY HP6
     go_roundw
     case rel=>exact⟨k+1,_,X7,_,rfl,by go_num,by omega,HX7.o,HO7.o,HB7.o⟩
     case measure=>simp[intOf];omega
    ·have hk2:k=V.ps.length:=by omega
     have HXn:Hid (X2=((int8 V.ws.length++V.ws.flatMap iO)++(int8 V.ps.length++V.ps.flatMap iY))):=by rw[Hid,HX2.o,hk2,List.take_length]
     clear HX2
     have HX2:=HXn
     clear HXn
     subst hk2
     clear hk hlt B
     have HK:=AQ (dW wr (V.cs.length:Int))
     go_wp2_with fail
     refine(HK.o).mono ?_
     rintro e w3 ⟨aY,Y,cY,HY,rfl,hY,hYn,hbY⟩
     have HYO:=AQ hY.isRow
     have HYN:=AQ hYn
     have hYl:Y.length≤8:=by rw[HY.o]<;>(exact Nat.le_of_eq (aB _ _))
     have HBY:=AQ (HB2.o.trans (hbY.mono HB2.o.size))
     have HOY:=AQ (HO2.o.stay hbY)
     have hXl:=HN2.o
     clear hY hYn hbY HK c0 c1 c2
     go_upto_region 18 with ((with_reducible refine bY (o:=⟨some 90, .call _,_,_,_,_⟩) bt (.tmp 85) (.tmp 89) AA AA HOY.o HYO.o HYN.o AL HBY.o.size AA AA ?_);intro a4 c4 w6 hO4 hg4 hn4;obtain⟨X3,hX3⟩:∃Z,Hid (Z=X2++Y):=⟨_,rfl⟩;rw[←hX3.o] at hO4 ⊢;have HO3:=AQ hO4;have HB3:=AQ (HBY.o.trans (grown_below hg4 HBY.o.size (fun k hk=>(HOY.o.aJ hk).1)));clear hO4 hg4 hn4)
     have HX3:Hid (X3=((int8 V.ws.length++V.ws.flatMap iO)++(int8 V.ps.length++V.ps.flatMap iY))++int8 V.cs.length):=by rw[Hid,hX3.o,HX2.o,HY.o]<;>(rfl)
     have HN3:Hid (X3.length≤4008):=by rw[Hid,hX3.o,List.length_append];omega
     clear hX3 hYl hXl HYO HYN HBY HOY
     clear HO2 HB2 HX2 HN2 HY
     obtain⟨c0,c1,c2⟩:=HI.o.keep HB3.o
     go_wp2_with fail
     go_loopw [3,7] (fun s i wr=>∃(k:Nat) (a:Option Addr) (X:List UInt8) (c:Nat),s= .slice a X.length c∧i= .int .i64 (k:Int)∧k≤V.cs.length∧Hid (X=((int8 V.ws.length++V.ws.flatMap iO)++(int8 V.ps.length++V.ps.flatMap iY))++(int8 V.cs.length++(V.cs.take k).flatMap xG))∧Cit.Own 5 w0.heap.size wr a X c∧Below w0.heap.size w0 wr) (fun _ i _=>V.cs.length-(intOf i).toNat)
     case atStart=>exact⟨0,_,X3,_,rfl,rfl,Nat.zero_le _,by rw[Hid,HX3.o];simp,HO3.o,HB3.o⟩
     case round=>
      obtain⟨k,a,X,c,rfl,rfl,hk,HX,hO,B⟩:=hrel
      have HB2:=AQ B
      clear c0 c1 c2
      obtain⟨c0,c1,c2⟩:=HI.o.keep B
      have HN2:Hid (X.length≤5000):=by rw[Hid,HX.o];simp only[List.length_append,eF];have:=oZ xG V.cs k;have:=HL.o.1;have:=HL.o.2.1;have:=HL.o.2.2;omega
      obtain⟨X2,hX2⟩:=AV (X)
      have HO2:=AQ hO
      rw[←hX2] at HX HO2 HN2 ⊢
      have HX2:=HX
      clear HX hX2 hO HO3 HX3 HN3
      by_cases hlt:k<V.cs.length
      ·have i0:=HV.o.mW.index JC k hlt
       obtain⟨u0,u1,u2,u3,u4⟩:=dN HV.o.mW B k hlt
       have HS:=AQ (kK xG V.cs k hlt)
       obtain⟨x,hx⟩:∃x,Hid (x=V.cs[k]):=⟨V.cs[k],rfl⟩
       rw[←hx.o] at u0 u1 u2 u3 u4 HS
       go_upto_region 22 with fail
       obtain⟨wb,hwb⟩:=AV (wr.alloc (.cells (RH x) 48))
       obtain⟨p,hp⟩:=AV (wr.heap.size)
       have hbb:Below wr.heap.size wr wb:=by rw[hwb];exact(Below.refl _ _).alloc (Nat.le_refl _) _
       have hpx:wb.heap[p]? =some (.cells (RH x) 48 (0,0)):=by rw[hwb,hp];exact heap_alloc_new _ _
       have HOb:=AQ (HO2.o.stay hbb)
       have HBb:=AQ (B.trans (hbb.mono B.size))
       rw[←hwb,←hp]
       clear hwb hp hbb u0 u1 u2 u3 u4 i0 c0 c1 c2 B HO2 HB2
       have x0:=aA hpx 0 rfl
       have x1:=aA hpx 1 rfl
       have x2:=aA hpx 2 rfl
       have x3:=aA hpx 3 rfl
       have x4:=aA hpx 4 rfl
       have hbd:Below wb.heap.size wb (wb.alloc (.cells #[.int .i64 x.id.1, .int .i64 x.src.1, .int .i64 x.dst.1, .int .i64 x.cap.1, .int .i64 x.size.1] 3)):=(Below.refl _ _).alloc (Nat.le_refl _) _
       have hq:=heap_alloc_new wb (.cells #[.int .i64 x.id.1, .int .i64 x.src.1, .int .i64 x.dst.1, .int .i64 x.cap.1, .int .i64 x.size.1] 3)
       obtain⟨wd,hwd⟩:=AV (wb.alloc (.cells #[.int .i64 x.id.1, .int .i64 x.src.1, .int .i64 x.dst.1, .int .i64 x.cap.1, .int .i64 x.size.1] 3))
       obtain⟨q,hqq⟩:=AV (wb.heap.size)
       rw[←hwd] at hbd hq
       rw[←hqq] at hq
       have HQd:=AQ hq
       have HOd:=AQ (HOb.o.stay hbd)
       have HBd:=AQ (HBb.o.trans (hbd.mono HBb.o.size))
       go_upto_region 24 with fail
       rw[←hwd,←hqq]
       clear hwd hqq hbd hq x0 x1 x2 x3 x4 hpx HOb HBb
       obtain⟨D,hD⟩:∃D:List Int,Hid (D=[x.id.1,x.src.1,x.dst.1,x.cap.1,x.size.1]):=⟨_,rfl⟩
       have hDl:D.length=5:=by rw[hD.o];rfl
       have HDV:Hid (∀ {wx:World},wx.heap[q]? =some (.cells #[.int .i64 x.id.1, .int .i64 x.src.1, .int .i64 x.dst.1, .int .i64 x.cap.1, .int .i64 x.size.1] 3 (0,0))→Vec cZ 1 wx (some ⟨q,0,none⟩) D 5):=fun {wx} h=>by
        have:=(qQ (f:=cZ) (n:=1) (E:=3) (B:=0) (g:=q) (l:=D) qB (Nat.zero_le _) AL h (by rw[hD.o];rfl)).vec qB
        rwa[hDl] at this
       have HBC:Hid (xG x=D.flatMap int8):=by rw[Hid,hD.o];simp[xG]
       go_wp2_with fail
       go_loopw [3,10] (fun s i wy=>∃(m:Nat) (a:Option Addr) (X:List UInt8) (c:Nat),s= .slice a X.length c∧i= .int .i64 (m:Int)∧m≤5∧Hid (X=X2++(D.take m).flatMap int8)∧Cit.Own 5 w0.heap.size wy a X c∧Below w0.heap.size w0 wy∧wy.heap[q]? =some (.cells #[.int .i64 x.id.1, .int .i64 x.src.1, .int .i64 x.dst.1, .int .i64 x.cap.1, .int .i64 x.size.1] 3 (0,0))) (fun _ i _=>5-(intOf i).toNat)
       case atStart=>exact⟨0,_,X2,_,rfl,rfl,Nat.zero_le _,by rw[Hid];simp,HOd.o,HBd.o,HQd.o⟩
       case round=>
        obtain⟨m,a,Xm,c,rfl,rfl,hm,HXm,hOm,Bm,hQm⟩:=hrel
        by_cases hmt:m<5
        ·have HO5:=AQ hOm
         have HB5:=AQ Bm
         have HP5:=AQ hQm
         have hmt':m<D.length:=by rw[hDl];exact hmt
         have hv:=HDV.o hQm
         have i0:=hv.index Vp m hmt'
         obtain⟨z,hz⟩:∃z,Hid (z=D[m]):=⟨D[m],rfl⟩
         have v0:wr.cell? (ad (some ⟨q,0,none⟩) (m*1))=some (.int .i64 z):=by rw[hz.o];exact hv.wE m hmt' AP rfl
         rw[Nat.mul_one] at i0 v0
         simp only[lV,Nat.zero_add] at i0 v0
         have HSm:=AQ (kK int8 D m hmt')
         rw[←hz.o] at HSm
         have HN5:Hid (Xm.length≤5100):=by
          rw[Hid,HXm.o,List.length_append];have:=oZ int8 D m;have h40:(D.flatMap int8).length=40:=by rw[hD.o];simp[eF]
          have:=HN2.o;omega
         obtain⟨X5,hX5⟩:=AV (Xm)
         rw[←hX5] at HXm HO5 HN5 ⊢
         have HX5:=HXm
         clear hv hQm hOm Bm HXm hX5
         have HK:=AQ (dW wr z)
         go_wp2_with fail
         refine(HK.o).mono ?_
         rintro e w7 ⟨aY,Y,cY,HY,rfl,hY,hYn,hbY⟩
         have HYO:=AQ hY.isRow
         have HYN:=AQ hYn
         have hYl:Y.length≤8:=by rw[HY.o]<;>(exact Nat.le_of_eq (aB _ _))
         have HBY:=AQ (HB5.o.trans (hbY.mono HB5.o.size))
         have HOY:=AQ (HO5.o.stay hbY)
         have hXl:=HN5.o
         have HPY:=AQ (aG HP5.o hbY)
         clear hY hYn hbY HK v0 i0
         go_wp2_with ((with_reducible refine bY (o:=⟨some 126, .call _,_,_,_,_⟩) bt (.tmp 120) (.tmp 125) AA AA HOY.o HYO.o HYN.o AL HBY.o.size AA AA ?_);intro a4 c4 w6 hO4 hg4 hn4;obtain⟨X6,hX6⟩:∃Z,Hid (Z=X5++Y):=⟨_,rfl⟩;rw[←hX6.o] at hO4 ⊢;have HO6:=AQ hO4;have HB6:=AQ (HBY.o.trans (grown_below hg4 HBY.o.size (fun k hk=>(HOY.o.aJ hk).1)));have HP6:=AQ ((hg4.block q (Array.getElem?_eq_some_iff.1 HPY.o).1 (fun e=>own_ne HOY.o HPY.o AP e.symm)).trans HPY.o);clear hO4 hg4 hn4)
         have HX6:Hid (X6=X2++(D.take (m+1)).flatMap int8):=by rw[Hid,hX6.o,HX5.o,HY.o]<;>(rw[HSm.o];simp[int8])
         have HN6:Hid (X6.length≤5108):=by rw[Hid,hX6.o,List.length_append];omega
         clear hX6 hYl hXl HYO HYN HBY HOY
         clear HO5 HB5 HX5 HN5 HY HPY HP5
         go_roundw
         case rel=>exact⟨m+1,_,X6,_,rfl,by go_num,by omega,HX6.o,HO6.o,HB6.o,HP6.o⟩
         case measure=>simp[intOf];omega
        ·have hm2:m=5:=by omega
         have HN:Hid (Xm=((int8 V.ws.length++V.ws.flatMap iO)++(int8 V.ps.length++V.ps.flatMap iY))++(int8 V.cs.length++(V.cs.take (k+1)).flatMap xG)):=by rw[Hid,HXm.o,HX2.o,HS.o,HBC.o,hm2,←hDl,List.take_length];simp
         have HOm:=AQ hOm
         have HBm:=AQ Bm
         clear hOm Bm hQm hm2
         go_wp2_with fail
         go_roundw
         case rel=>exact⟨k+1,a,Xm,c,rfl,by go_num,by omega,HN.o,HOm.o,HBm.o⟩
         case measure=>simp[intOf];omega
      ·have hk2:k=V.cs.length:=by omega
       have HXn:Hid (X2=R):=by rw[Hid,HX2.o,hR.o,hk2,List.take_length];unfold qE;rfl
       subst hk2
       clear B HX2
       go_wp2_with fail
       go_ret
       exact⟨a,c,by rw[HXn.o];rfl,by rw[←HXn.o];exact HO2.o.low HB0.o.size,HB0.o.trans (HB2.o.mono HB0.o.size)⟩
end Go.Proofs.YtlholdllibghbaaGreat
