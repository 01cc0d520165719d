/- Texts of the proof, one behind the other: RefForm11, One, RefRead. No condition but those that each names. -/
import Derived.Test.YtlholdllibghbaaGreatG16
import Derived.Test.YtlholdllibghbaaGreatG07
import Derived.Test.YtlholdllibghbaaGreatG32
import Derived.Test.YtlholdllibghbaaGreatG06
import Derived.Test.YtlholdllibghbaaGreatG08
import Derived.Test.YtlholdllibghbaaGreatKit
set_option maxRecDepth 100000
set_option maxHeartbeats 8000000
namespace Go.Proofs.YtlholdllibghbaaGreat
open Go Go.RowKit Go.Cit
theorem uG (w:World) (V:aO) (h:V.At w):Calls Tryz.prog 50 #[.agg #[.slice V.wa V.ws.length V.wc, .slice V.pa V.ps.length V.pc, .slice V.ca V.cs.length V.cc]] w fun e w'=>e= .returned (.bool (nJ V))∧Below w.heap.size w w':=by
 obtain⟨w0,hw0⟩:=AV (w.alloc (.cells #[.slice V.wa V.ws.length V.wc, .slice V.pa V.ps.length V.pc, .slice V.ca V.cs.length V.cc] 26))
 have B0:Below w.heap.size w w0:=by rw[hw0];exact(Below.refl _ w).alloc (Nat.le_refl _) _
 have hI:gU w0 w.heap.size V:=by rw[hw0];exact dK w V _
 have HV:=AQ (h.stay B0)
 have HI:=AQ hI
 have HB0:=AQ B0
 have hl1:=h.win.bK
 have hl2:=h.pts.bK
 have hl3:=h.kL.bK
 obtain⟨R,hR⟩:=AU (nJ V)
 rw[←hR.o]
 clear h B0 hI
 go_enter Tryz.func50,Tryz.ntmps50
 go_wp2_with fail
 rw[←hw0]
 clear hw0
 go_loopw [3] (fun i wr=>∃k:Nat,i= .int .i64 (k:Int)∧k≤V.ps.length∧Hid ((V.ps.take k).any jZ=false)∧Below w0.heap.size w0 wr) (fun i _=>V.ps.length-(intOf i).toNat)
 case atStart=>exact⟨0,rfl,Nat.zero_le _,by rw[Hid];simp,Below.refl _ _⟩
 case round=>
  obtain⟨k,rfl,hk,HJ,B⟩:=hrel
  have HBw:=AQ B
  obtain⟨c0,c1,c2⟩:=HI.o.keep B
  by_cases hlt:k<V.ps.length
  ·have i0:=HV.o.pts.index Di k hlt
   obtain⟨u0,u1,u2,u3,u4⟩:=dh HV.o.pts B k hlt
   have HS:=AQ (Fa jZ V.ps k hlt)
   have HMEM:Hid (V.ps[k]∈V.ps):=List.getElem_mem hlt
   obtain⟨x,hx⟩:∃x,Hid (x=V.ps[k]):=⟨V.ps[k],rfl⟩
   rw[←hx.o] at u4 HS HMEM
   clear u0 u1 u2 u3 B
   by_cases hq:512<x.img.length
   ·have HRF:Hid (R=false):=by
     rw[Hid,hR.o];unfold nJ
     rw[show V.ps.any jZ=true from List.any_eq_true.2 ⟨x,HMEM.o,by simp[jZ,hq]⟩];simp
    have t1:decide ((512:Int)<(x.img.length:Int))=true:=by simp;omega
    go_wp2_with fail
    all_goals first
     | (go_ret;exact⟨aJ HRF.o.symm,HB0.o.trans (HBw.o.mono HB0.o.size)⟩)
     | (exfalso;omega)
   ·have HJ2:Hid ((V.ps.take (k+1)).any jZ=false):=by rw[Hid,HS.o,HJ.o];simp[jZ];omega
    have t1:decide ((512:Int)<(x.img.length:Int))=false:=by simp;omega
    go_wp2_with fail
    all_goals first
     | (
      go_roundw
      case rel=>exact⟨k+1,by go_num,by omega,HJ2.o,HBw.o⟩
      case measure=>simp[intOf];omega)
     | (exfalso;omega)
  ·have hk2:k=V.ps.length:=by omega
   have HAL:Hid (V.ps.any jZ=false):=by have:=HJ.o;rwa[hk2,List.take_length] at this
   have HRT:Hid (R=((decide (V.ws.length≤12) && decide (V.ps.length≤6)) && decide (V.cs.length≤8))):=by rw[Hid,hR.o];unfold nJ;rw[HAL.o];simp
   clear B HJ
   subst hk2
   go_wp2_with fail
   all_goals first
    | (
     go_ret
     refine⟨aJ ?_,HB0.o.trans (HBw.o.mono HB0.o.size)⟩
     rw[HRT.o]
     first |(simp;omega) |(simp;(try omega)) |grind)
    | (exfalso;omega)
theorem BI (w:World) (V:aO) (h:V.At w) (hcan:nJ V=true):Calls Tryz.prog 126 #[.agg #[.slice V.wa V.ws.length V.wc, .slice V.pa V.ps.length V.pc, .slice V.ca V.cs.length V.cc]] w fun e w'=>∃a' c',e= .returned (.slice a' (rE V).length c')∧Cit.Own 5 w.heap.size w' a' (rE V) c'∧Below w.heap.size w w':=by
 have hsp:=rC hcan
 have hlw:=uS V.ws
 have hlc:=yK V.cs
 have hlp:=yQ V.ps hsp.2.2.2
 have HL:Hid ((V.ws.flatMap iO).length≤192∧(V.ps.flatMap je).length≤3246∧(V.cs.flatMap xU).length≤320):=⟨by omega,by omega,by omega⟩
 have HLG:Hid (∀x∈V.ps,x.img.length≤512):=fun x hx=>by
  have:=List.any_eq_false.1 hsp.2.2.2 x hx
  simp[jZ] at this
  exact this
 obtain⟨w0,hw0⟩:=AV (w.alloc (.cells #[.slice V.wa V.ws.length V.wc, .slice V.pa V.ps.length V.pc, .slice V.ca V.cs.length V.cc] 26))
 have B0:Below w.heap.size w w0:=by rw[hw0];exact(Below.refl _ w).alloc (Nat.le_refl _) _
 have hI:gU w0 w.heap.size V:=by rw[hw0];exact dK w V _
 have HV:=AQ (h.stay B0)
 have HI:=AQ hI
 have HB0:=AQ B0
 have hl1:=h.win.bK
 have hl2:=h.pts.bK
 have hl3:=h.kL.bK
 obtain⟨c0,c1,c2⟩:=HI.o
 obtain⟨R,hR⟩:=AU (rE V)
 rw[←hR.o]
 have HK:=AQ (dZ w0 (V.ws.length:Int))
 clear h B0 hI hsp hlw hlc hlp
 go_enter Tryz.func126,Tryz.ntmps126
 go_wp2_with fail
 rw[←hw0]
 clear hw0
 refine(HK.o).mono ?_
 rintro e w1 ⟨a1,X1,k1,HX1,rfl,hO,hn,hb⟩
 have HX1:Hid (X1=int8 V.ws.length):=HX1
 have HO1:=AQ hO
 have HB1:=AQ hb
 have HN1:Hid (X1.length≤8):=by rw[Hid,HX1.o,eX];exact Nat.le_refl _
 clear hO hn hb c0 c1 c2 HK
 go_wp2_with fail
 go_loopw [3,4] (fun s i wr=>∃(k:Nat) (a:Option Addr) (X:List UInt8) (c:Nat),s= .slice a X.length c∧i= .int .i64 (k:Int)∧k≤V.ws.length∧Hid (X=int8 V.ws.length++(V.ws.take k).flatMap iO)∧Cit.Own 5 w0.heap.size wr a X c∧Below w0.heap.size w0 wr) (fun _ i _=>V.ws.length-(intOf i).toNat)
 case atStart=>exact⟨0,a1,X1,k1,rfl,rfl,Nat.zero_le _,by rw[Hid,HX1.o];simp,HO1.o,HB1.o⟩
 case round=>
  obtain⟨k,a,X,c,rfl,rfl,hk,HX,hO,B⟩:=hrel
  have HB2:=AQ B
  have HO2:=AQ hO
  obtain⟨c0,c1,c2⟩:=HI.o.keep B
  have HN2:Hid (X.length≤300):=by rw[Hid,HX.o,List.length_append,eX];have:=qc iO V.ws k;have:=HL.o.1;omega
  obtain⟨X2,hX2⟩:=AV (X)
  rw[←hX2] at HX HO2 HN2 ⊢
  have HX2:=HX
  clear HX hX2 hO B
  by_cases hlt:k<V.ws.length
  ·have i0:=HV.o.win.index JR k hlt
   have u:∀ {wx:World},Below w0.heap.size w0 wx→_:=fun {wx} hb=>jQ HV.o.win hb k hlt
   obtain⟨u0,u1⟩:=u HB2.o
   have HS:=AQ (kN iO V.ws k hlt)
   obtain⟨x,hx⟩:∃x,Hid (x=V.ws[k]):=⟨V.ws[k],rfl⟩
   rw[←hx.o] at u0 u1 HS
   have HK:=AQ (dZ wr x.len.1)
   go_wp2_with fail
   refine(HK.o).mono ?_
   rintro e w3 ⟨aY,Y,cY,HY,rfl,hY,hYn,hbY⟩
   have HYO:=AQ hY.isRow
   have HYN:=AQ hYn
   have hYl:Y.length≤8:=by rw[HY.o]<;>(exact Nat.le_of_eq (aB _ _))
   have HBY:=AQ (HB2.o.trans (hbY.mono HB2.o.size))
   have HOY:=AQ (HO2.o.stay hbY)
   have hXl:=HN2.o
   clear hY hYn hbY HK c0 c1 c2 u0 u1
   go_upto_region 6 with ((with_reducible refine bU (o:=⟨some 30, .call _,_,_,_,_⟩) bt (.tmp 22) (.tmp 29) AA AA HOY.o HYO.o HYN.o AL HBY.o.size AA AA ?_);intro a4 c4 w6 hO4 hg4 hn4;obtain⟨X3,hX3⟩:∃Z,Hid (Z=X2++Y):=⟨_,rfl⟩;rw[←hX3.o] at hO4 ⊢;have HO3:=AQ hO4;have HB3:=AQ (HBY.o.trans (grown_below hg4 HBY.o.size (fun k hk=>(HOY.o.aK hk).1)));clear hO4 hg4 hn4)
   have HX3:Hid (X3=int8 V.ws.length++(V.ws.take k).flatMap iO++int8 x.len.1):=by rw[Hid,hX3.o,HX2.o,HY.o]<;>(rfl)
   have HN3:Hid (X3.length≤308):=by rw[Hid,hX3.o,List.length_append];omega
   clear hX3 hYl hXl HYO HYN HBY HOY
   clear HO2 HB2 HX2 HN2 HY
   obtain⟨c0,c1,c2⟩:=HI.o.keep HB3.o
   obtain⟨u0,u1⟩:=u HB3.o
   rw[←hx.o] at u0 u1
   have HK:=AQ (dZ w6 x.part.1)
   go_wp2_with fail
   refine(HK.o).mono ?_
   rintro e w7 ⟨aY,Y,cY,HY,rfl,hY,hYn,hbY⟩
   have HYO:=AQ hY.isRow
   have HYN:=AQ hYn
   have hYl:Y.length≤8:=by rw[HY.o]<;>(exact Nat.le_of_eq (aB _ _))
   have HBY:=AQ (HB3.o.trans (hbY.mono HB3.o.size))
   have HOY:=AQ (HO3.o.stay hbY)
   have hXl:=HN3.o
   clear hY hYn hbY HK c0 c1 c2 u0 u1
   go_wp2_with ((with_reducible refine bU (o:=⟨some 39, .call _,_,_,_,_⟩) bt (.tmp 31) (.tmp 38) AA AA HOY.o HYO.o HYN.o AL HBY.o.size AA AA ?_);intro a4 c4 w6 hO4 hg4 hn4;obtain⟨X4,hX4⟩:∃Z,Hid (Z=X3++Y):=⟨_,rfl⟩;rw[←hX4.o] at hO4 ⊢;have HO4:=AQ hO4;have HB4:=AQ (HBY.o.trans (grown_below hg4 HBY.o.size (fun k hk=>(HOY.o.aK hk).1)));clear hO4 hg4 hn4)
   have HX4:Hid (X4=int8 V.ws.length++(V.ws.take (k+1)).flatMap iO):=by rw[Hid,hX4.o,HX3.o,HY.o]<;>(rw[HS.o];simp[iO,int8])
   have HN4:Hid (X4.length≤316):=by rw[Hid,hX4.o,List.length_append];omega
   clear hX4 hYl hXl HYO HYN HBY HOY
   clear HO3 HB3 HX3 HN3 HY
   go_roundw
   case rel=>exact⟨k+1,_,X4,_,rfl,by go_num,by omega,HX4.o,HO4.o,HB4.o⟩
   case measure=>simp[intOf];omega
  ·have hk2:k=V.ws.length:=by omega
   have HXn:Hid (X2=(int8 V.ws.length++V.ws.flatMap iO)):=by rw[Hid,HX2.o,hk2,List.take_length]
   clear HX2
   have HX2:=HXn
   clear HXn
   subst hk2
   clear hk hlt
   have HK:=AQ (dZ wr (V.ps.length:Int))
   go_wp2_with fail
   refine(HK.o).mono ?_
   rintro e w3 ⟨aY,Y,cY,HY,rfl,hY,hYn,hbY⟩
   have HYO:=AQ hY.isRow
   have HYN:=AQ hYn
   have hYl:Y.length≤8:=by rw[HY.o]<;>(exact Nat.le_of_eq (aB _ _))
   have HBY:=AQ (HB2.o.trans (hbY.mono HB2.o.size))
   have HOY:=AQ (HO2.o.stay hbY)
   have hXl:=HN2.o
   clear hY hYn hbY HK c0 c1 c2
   go_upto_region 8 with ((with_reducible refine bU (o:=⟨some 45, .call _,_,_,_,_⟩) bt (.tmp 40) (.tmp 44) AA AA HOY.o HYO.o HYN.o AL HBY.o.size AA AA ?_);intro a4 c4 w6 hO4 hg4 hn4;obtain⟨X3,hX3⟩:∃Z,Hid (Z=X2++Y):=⟨_,rfl⟩;rw[←hX3.o] at hO4 ⊢;have HO3:=AQ hO4;have HB3:=AQ (HBY.o.trans (grown_below hg4 HBY.o.size (fun k hk=>(HOY.o.aK hk).1)));clear hO4 hg4 hn4)
   have HX3:Hid (X3=(int8 V.ws.length++V.ws.flatMap iO)++int8 V.ps.length):=by rw[Hid,hX3.o,HX2.o,HY.o]<;>(rfl)
   have HN3:Hid (X3.length≤308):=by rw[Hid,hX3.o,List.length_append];omega
   clear hX3 hYl hXl HYO HYN HBY HOY
   clear HO2 HB2 HX2 HN2 HY
   obtain⟨c0,c1,c2⟩:=HI.o.keep HB3.o
   go_wp2_with fail
   go_loopw [3,5] (fun s i wr=>∃(k:Nat) (a:Option Addr) (X:List UInt8) (c:Nat),s= .slice a X.length c∧i= .int .i64 (k:Int)∧k≤V.ps.length∧Hid (X=(int8 V.ws.length++V.ws.flatMap iO)++(int8 V.ps.length++(V.ps.take k).flatMap je))∧Cit.Own 5 w0.heap.size wr a X c∧Below w0.heap.size w0 wr) (fun _ i _=>V.ps.length-(intOf i).toNat)
   case atStart=>exact⟨0,_,X3,_,rfl,rfl,Nat.zero_le _,by rw[Hid,HX3.o];simp,HO3.o,HB3.o⟩
   case round=>
    obtain⟨k,a,X,c,rfl,rfl,hk,HX,hO,B⟩:=hrel
    have HB2:=AQ B
    clear c0 c1 c2
    obtain⟨c0,c1,c2⟩:=HI.o.keep B
    have HN2:Hid (X.length≤4000):=by rw[Hid,HX.o];simp only[List.length_append,eX];have:=qc je V.ps k;have:=HL.o.1;have:=HL.o.2.1;omega
    obtain⟨X2,hX2⟩:=AV (X)
    have HO2:=AQ hO
    rw[←hX2] at HX HO2 HN2 ⊢
    have HX2:=HX
    clear HX hX2 hO HO3 HX3 HN3
    by_cases hlt:k<V.ps.length
    ·have i0:=HV.o.pts.index Di k hlt
     obtain⟨u0,u1,u2,u3,u4⟩:=dh HV.o.pts B k hlt
     have HS:=AQ (kN je V.ps k hlt)
     have HR:=AQ (HV.o.img V.ps[k] (List.getElem_mem hlt))
     have HLI:=AQ (HLG.o V.ps[k] (List.getElem_mem hlt))
     obtain⟨x,hx⟩:∃x,Hid (x=V.ps[k]):=⟨V.ps[k],rfl⟩
     rw[←hx.o] at u0 u1 u2 u3 u4 HS HR HLI
     obtain⟨wb,hwb⟩:=AV (wr.alloc (.cells (cA x) 46))
     obtain⟨p,hp⟩:=AV (wr.heap.size)
     have hbb:Below wr.heap.size wr wb:=by rw[hwb];exact(Below.refl _ _).alloc (Nat.le_refl _) _
     have HPb:Hid (wb.heap[p]? =some (.cells (cA x) 46 (0,0))):=by rw[hwb,hp];exact heap_alloc_new _ _
     have HOb:=AQ (HO2.o.stay hbb)
     have HBb:=AQ (B.trans (hbb.mono B.size))
     go_upto_region 12 with fail
     rw[←hwb,←hp]
     clear hwb hp hbb u0 u1 u2 u3 u4 i0 c0 c1 c2 B HO2 HB2
     have HO2:=HOb
     have HB2:=HBb
     have HP2:=HPb
     clear HOb HBb HPb
     have u0:=au HP2.o 0 rfl
     have HK:=AQ (dZ wb x.id.1)
     go_wp2_with fail
     refine(HK.o).mono ?_
     rintro e v2 ⟨aY,Y,cY,HY,rfl,hY,hYn,hbY⟩
     have HYO:=AQ hY.isRow
     have HYN:=AQ hYn
     have hYl:Y.length≤8:=by rw[HY.o]<;>(exact Nat.le_of_eq (aB _ _))
     have HBY:=AQ (HB2.o.trans (hbY.mono HB2.o.size))
     have HOY:=AQ (HO2.o.stay hbY)
     have hXl:=HN2.o
     have HPY:=AQ (aG HP2.o hbY)
     clear hY hYn hbY HK u0
     go_upto_region 13 with ((with_reducible refine bU (o:=⟨some 62, .call _,_,_,_,_⟩) bt (.tmp 58) (.tmp 61) AA AA HOY.o HYO.o HYN.o AL HBY.o.size AA AA ?_);intro a4 c4 w6 hO4 hg4 hn4;obtain⟨X3,hX3⟩:∃Z,Hid (Z=X2++Y):=⟨_,rfl⟩;rw[←hX3.o] at hO4 ⊢;have HO3:=AQ hO4;have HB3:=AQ (HBY.o.trans (grown_below hg4 HBY.o.size (fun k hk=>(HOY.o.aK hk).1)));have HP3:=AQ ((hg4.block p (Array.getElem?_eq_some_iff.1 HPY.o).1 (fun e=>own_ne HOY.o HPY.o AP e.symm)).trans HPY.o);clear hO4 hg4 hn4)
     have HX3:Hid (X3=(int8 V.ws.length++V.ws.flatMap iO)++(int8 V.ps.length++(V.ps.take k).flatMap je)++int8 x.id.1):=by rw[Hid,hX3.o,HX2.o,HY.o]<;>(rfl)
     have HN3:Hid (X3.length≤4008):=by rw[Hid,hX3.o,List.length_append];omega
     clear hX3 hYl hXl HYO HYN HBY HOY
     clear HO2 HB2 HX2 HN2 HY HPY HP2
     have u0:=au HP3.o 1 rfl
     have HK:=AQ (dZ w6 x.reg.base.1)
     go_wp2_with fail
     refine(HK.o).mono ?_
     rintro e v3 ⟨aY,Y,cY,HY,rfl,hY,hYn,hbY⟩
     have HYO:=AQ hY.isRow
     have HYN:=AQ hYn
     have hYl:Y.length≤8:=by rw[HY.o]<;>(exact Nat.le_of_eq (aB _ _))
     have HBY:=AQ (HB3.o.trans (hbY.mono HB3.o.size))
     have HOY:=AQ (HO3.o.stay hbY)
     have hXl:=HN3.o
     have HPY:=AQ (aG HP3.o hbY)
     clear hY hYn hbY HK u0
     go_upto_region 14 with ((with_reducible refine bU (o:=⟨some 68, .call _,_,_,_,_⟩) bt (.tmp 63) (.tmp 67) AA AA HOY.o HYO.o HYN.o AL HBY.o.size AA AA ?_);intro a4 c4 w6 hO4 hg4 hn4;obtain⟨X4,hX4⟩:∃Z,Hid (Z=X3++Y):=⟨_,rfl⟩;rw[←hX4.o] at hO4 ⊢;have HO4:=AQ hO4;have HB4:=AQ (HBY.o.trans (grown_below hg4 HBY.o.size (fun k hk=>(HOY.o.aK hk).1)));have HP4:=AQ ((hg4.block p (Array.getElem?_eq_some_iff.1 HPY.o).1 (fun e=>own_ne HOY.o HPY.o AP e.symm)).trans HPY.o);clear hO4 hg4 hn4)
     have HX4:Hid (X4=(int8 V.ws.length++V.ws.flatMap iO)++(int8 V.ps.length++(V.ps.take k).flatMap je)++int8 x.id.1++int8 x.reg.base.1):=by rw[Hid,hX4.o,HX3.o,HY.o]<;>(rfl)
     have HN4:Hid (X4.length≤4016):=by rw[Hid,hX4.o,List.length_append];omega
     clear hX4 hYl hXl HYO HYN HBY HOY
     clear HO3 HB3 HX3 HN3 HY HPY HP3
     have u0:=au HP4.o 2 rfl
     have HK:=AQ (dZ w6 x.reg.size.1)
     go_wp2_with fail
     refine(HK.o).mono ?_
     rintro e v4 ⟨aY,Y,cY,HY,rfl,hY,hYn,hbY⟩
     have HYO:=AQ hY.isRow
     have HYN:=AQ hYn
     have hYl:Y.length≤8:=by rw[HY.o]<;>(exact Nat.le_of_eq (aB _ _))
     have HBY:=AQ (HB4.o.trans (hbY.mono HB4.o.size))
     have HOY:=AQ (HO4.o.stay hbY)
     have hXl:=HN4.o
     have HPY:=AQ (aG HP4.o hbY)
     clear hY hYn hbY HK u0
     go_upto_region 15 with ((with_reducible refine bU (o:=⟨some 74, .call _,_,_,_,_⟩) bt (.tmp 69) (.tmp 73) AA AA HOY.o HYO.o HYN.o AL HBY.o.size AA AA ?_);intro a4 c4 w6 hO4 hg4 hn4;obtain⟨X5,hX5⟩:∃Z,Hid (Z=X4++Y):=⟨_,rfl⟩;rw[←hX5.o] at hO4 ⊢;have HO5:=AQ hO4;have HB5:=AQ (HBY.o.trans (grown_below hg4 HBY.o.size (fun k hk=>(HOY.o.aK hk).1)));have HP5:=AQ ((hg4.block p (Array.getElem?_eq_some_iff.1 HPY.o).1 (fun e=>own_ne HOY.o HPY.o AP e.symm)).trans HPY.o);clear hO4 hg4 hn4)
     have HX5:Hid (X5=(int8 V.ws.length++V.ws.flatMap iO)++(int8 V.ps.length++(V.ps.take k).flatMap je)++int8 x.id.1++int8 x.reg.base.1++int8 x.reg.size.1):=by rw[Hid,hX5.o,HX4.o,HY.o]<;>(rfl)
     have HN5:Hid (X5.length≤4024):=by rw[Hid,hX5.o,List.length_append];omega
     clear hX5 hYl hXl HYO HYN HBY HOY
     clear HO4 HB4 HX4 HN4 HY HPY HP4
     have u0:=au HP5.o 3 rfl
     have HK:=AQ (Cb w6 x.keep)
     go_wp2_with fail
     refine(HK.o).mono ?_
     rintro e v5 ⟨aY,Y,cY,HY,rfl,hY,hYn,hbY⟩
     have HYO:=AQ hY.isRow
     have HYN:=AQ hYn
     have hYl:Y.length≤1:=by rw[HY.o]<;>(exact Nat.le_refl _)
     have HBY:=AQ (HB5.o.trans (hbY.mono HB5.o.size))
     have HOY:=AQ (HO5.o.stay hbY)
     have hXl:=HN5.o
     have HPY:=AQ (aG HP5.o hbY)
     clear hY hYn hbY HK u0
     go_upto_region 16 with ((with_reducible refine bU (o:=⟨some 79, .call _,_,_,_,_⟩) bt (.tmp 75) (.tmp 78) AA AA HOY.o HYO.o HYN.o AL HBY.o.size AA AA ?_);intro a4 c4 w6 hO4 hg4 hn4;obtain⟨X6,hX6⟩:∃Z,Hid (Z=X5++Y):=⟨_,rfl⟩;rw[←hX6.o] at hO4 ⊢;have HO6:=AQ hO4;have HB6:=AQ (HBY.o.trans (grown_below hg4 HBY.o.size (fun k hk=>(HOY.o.aK hk).1)));have HP6:=AQ ((hg4.block p (Array.getElem?_eq_some_iff.1 HPY.o).1 (fun e=>own_ne HOY.o HPY.o AP e.symm)).trans HPY.o);clear hO4 hg4 hn4)
     have HX6:Hid (X6=(int8 V.ws.length++V.ws.flatMap iO)++(int8 V.ps.length++(V.ps.take k).flatMap je)++int8 x.id.1++int8 x.reg.base.1++int8 x.reg.size.1++iK x.keep):=by rw[Hid,hX6.o,HX5.o,HY.o]<;>(rfl)
     have HN6:Hid (X6.length≤4025):=by rw[Hid,hX6.o,List.length_append];omega
     clear hX6 hYl hXl HYO HYN HBY HOY
     clear HO5 HB5 HX5 HN5 HY HPY HP5
     have u0:=au HP6.o 4 rfl
     have HK:=AQ (qO w6 (HR.o.stay HB6.o) (Nat.le_trans HLI.o AP))
     go_wp2_with fail
     refine(HK.o).mono ?_
     rintro e v6 ⟨aY,Y,cY,HY,rfl,hY,hYn,hbY⟩
     have HYO:=AQ hY.isRow
     have HYN:=AQ hYn
     have hYl:Y.length≤516:=by rw[HY.o]<;>(rw[bn];have:=HLI.o;omega)
     have HBY:=AQ (HB6.o.trans (hbY.mono HB6.o.size))
     have HOY:=AQ (HO6.o.stay hbY)
     have hXl:=HN6.o
     have HPY:=AQ (aG HP6.o hbY)
     clear hY hYn hbY HK u0
     go_wp2_with ((with_reducible refine bU (o:=⟨some 84, .call _,_,_,_,_⟩) bt (.tmp 80) (.tmp 83) AA AA HOY.o HYO.o HYN.o AL HBY.o.size AA AA ?_);intro a4 c4 w6 hO4 hg4 hn4;obtain⟨X7,hX7⟩:∃Z,Hid (Z=X6++Y):=⟨_,rfl⟩;rw[←hX7.o] at hO4 ⊢;have HO7:=AQ hO4;have HB7:=AQ (HBY.o.trans (grown_below hg4 HBY.o.size (fun k hk=>(HOY.o.aK hk).1)));have HP7:=AQ ((hg4.block p (Array.getElem?_eq_some_iff.1 HPY.o).1 (fun e=>own_ne HOY.o HPY.o AP e.symm)).trans HPY.o);clear hO4 hg4 hn4)
     have HX7:Hid (X7=(int8 V.ws.length++V.ws.flatMap iO)++(int8 V.ps.length++(V.ps.take (k+1)).flatMap je)):=by rw[Hid,hX7.o,HX6.o,HY.o]<;>(rw[HS.o];simp[je,int8])
     have HN7:Hid (X7.length≤4541):=by rw[Hid,hX7.o,List.length_append];omega
     clear hX7 hYl hXl HYO HYN HBY HOY
     clear HO6 HB6 HX6 HN6 HY HPY HP6
     go_roundw
     case rel=>exact⟨k+1,_,X7,_,rfl,by go_num,by omega,HX7.o,HO7.o,HB7.o⟩
     case measure=>simp[intOf];omega
    ·have hk2:k=V.ps.length:=by omega
     have HXn:Hid (X2=((int8 V.ws.length++V.ws.flatMap iO)++(int8 V.ps.length++V.ps.flatMap je))):=by rw[Hid,HX2.o,hk2,List.take_length]
     clear HX2
     have HX2:=HXn
     clear HXn
     subst hk2
     clear hk hlt B
     have HK:=AQ (dZ wr (V.cs.length:Int))
     go_wp2_with fail
     refine(HK.o).mono ?_
     rintro e w3 ⟨aY,Y,cY,HY,rfl,hY,hYn,hbY⟩
     have HYO:=AQ hY.isRow
     have HYN:=AQ hYn
     have hYl:Y.length≤8:=by rw[HY.o]<;>(exact Nat.le_of_eq (aB _ _))
     have HBY:=AQ (HB2.o.trans (hbY.mono HB2.o.size))
     have HOY:=AQ (HO2.o.stay hbY)
     have hXl:=HN2.o
     clear hY hYn hbY HK c0 c1 c2
     go_upto_region 18 with ((with_reducible refine bU (o:=⟨some 90, .call _,_,_,_,_⟩) bt (.tmp 85) (.tmp 89) AA AA HOY.o HYO.o HYN.o AL HBY.o.size AA AA ?_);intro a4 c4 w6 hO4 hg4 hn4;obtain⟨X3,hX3⟩:∃Z,Hid (Z=X2++Y):=⟨_,rfl⟩;rw[←hX3.o] at hO4 ⊢;have HO3:=AQ hO4;have HB3:=AQ (HBY.o.trans (grown_below hg4 HBY.o.size (fun k hk=>(HOY.o.aK hk).1)));clear hO4 hg4 hn4)
     have HX3:Hid (X3=((int8 V.ws.length++V.ws.flatMap iO)++(int8 V.ps.length++V.ps.flatMap je))++int8 V.cs.length):=by rw[Hid,hX3.o,HX2.o,HY.o]<;>(rfl)
     have HN3:Hid (X3.length≤4008):=by rw[Hid,hX3.o,List.length_append];omega
     clear hX3 hYl hXl HYO HYN HBY HOY
     clear HO2 HB2 HX2 HN2 HY
     obtain⟨c0,c1,c2⟩:=HI.o.keep HB3.o
     go_wp2_with fail
     go_loopw [3,7] (fun s i wr=>∃(k:Nat) (a:Option Addr) (X:List UInt8) (c:Nat),s= .slice a X.length c∧i= .int .i64 (k:Int)∧k≤V.cs.length∧Hid (X=((int8 V.ws.length++V.ws.flatMap iO)++(int8 V.ps.length++V.ps.flatMap je))++(int8 V.cs.length++(V.cs.take k).flatMap xU))∧Cit.Own 5 w0.heap.size wr a X c∧Below w0.heap.size w0 wr) (fun _ i _=>V.cs.length-(intOf i).toNat)
     case atStart=>exact⟨0,_,X3,_,rfl,rfl,Nat.zero_le _,by rw[Hid,HX3.o];simp,HO3.o,HB3.o⟩
     case round=>
      obtain⟨k,a,X,c,rfl,rfl,hk,HX,hO,B⟩:=hrel
      have HB2:=AQ B
      clear c0 c1 c2
      obtain⟨c0,c1,c2⟩:=HI.o.keep B
      have HN2:Hid (X.length≤5000):=by rw[Hid,HX.o];simp only[List.length_append,eX];have:=qc xU V.cs k;have:=HL.o.1;have:=HL.o.2.1;have:=HL.o.2.2;omega
      obtain⟨X2,hX2⟩:=AV (X)
      have HO2:=AQ hO
      rw[←hX2] at HX HO2 HN2 ⊢
      have HX2:=HX
      clear HX hX2 hO HO3 HX3 HN3
      by_cases hlt:k<V.cs.length
      ·have i0:=HV.o.kL.index Kv k hlt
       obtain⟨u0,u1,u2,u3,u4⟩:=eu HV.o.kL B k hlt
       have HS:=AQ (kN xU V.cs k hlt)
       obtain⟨x,hx⟩:∃x,Hid (x=V.cs[k]):=⟨V.cs[k],rfl⟩
       rw[←hx.o] at u0 u1 u2 u3 u4 HS
       go_upto_region 22 with fail
       obtain⟨wb,hwb⟩:=AV (wr.alloc (.cells (Rx x) 48))
       obtain⟨p,hp⟩:=AV (wr.heap.size)
       have hbb:Below wr.heap.size wr wb:=by rw[hwb];exact(Below.refl _ _).alloc (Nat.le_refl _) _
       have hpx:wb.heap[p]? =some (.cells (Rx x) 48 (0,0)):=by rw[hwb,hp];exact heap_alloc_new _ _
       have HOb:=AQ (HO2.o.stay hbb)
       have HBb:=AQ (B.trans (hbb.mono B.size))
       rw[←hwb,←hp]
       clear hwb hp hbb u0 u1 u2 u3 u4 i0 c0 c1 c2 B HO2 HB2
       have x0:=au hpx 0 rfl
       have x1:=au hpx 1 rfl
       have x2:=au hpx 2 rfl
       have x3:=au hpx 3 rfl
       have x4:=au hpx 4 rfl
       have hbd:Below wb.heap.size wb (wb.alloc (.cells #[.int .i64 x.id.1, .int .i64 x.src.1, .int .i64 x.dst.1, .int .i64 x.cap.1, .int .i64 x.size.1] 3)):=(Below.refl _ _).alloc (Nat.le_refl _) _
       have hq:=heap_alloc_new wb (.cells #[.int .i64 x.id.1, .int .i64 x.src.1, .int .i64 x.dst.1, .int .i64 x.cap.1, .int .i64 x.size.1] 3)
       obtain⟨wd,hwd⟩:=AV (wb.alloc (.cells #[.int .i64 x.id.1, .int .i64 x.src.1, .int .i64 x.dst.1, .int .i64 x.cap.1, .int .i64 x.size.1] 3))
       obtain⟨q,hqq⟩:=AV (wb.heap.size)
       rw[←hwd] at hbd hq
       rw[←hqq] at hq
       have HQd:=AQ hq
       have HOd:=AQ (HOb.o.stay hbd)
       have HBd:=AQ (HBb.o.trans (hbd.mono HBb.o.size))
       go_upto_region 24 with fail
       rw[←hwd,←hqq]
       clear hwd hqq hbd hq x0 x1 x2 x3 x4 hpx HOb HBb
       obtain⟨D,hD⟩:∃D:List Int,Hid (D=[x.id.1,x.src.1,x.dst.1,x.cap.1,x.size.1]):=⟨_,rfl⟩
       have hDl:D.length=5:=by rw[hD.o];rfl
       have HDV:Hid (∀ {wx:World},wx.heap[q]? =some (.cells #[.int .i64 x.id.1, .int .i64 x.src.1, .int .i64 x.dst.1, .int .i64 x.cap.1, .int .i64 x.size.1] 3 (0,0))→Vec cZ 1 wx (some ⟨q,0,none⟩) D 5):=fun {wx} h=>by
        have:=(qP (f:=cZ) (n:=1) (E:=3) (B:=0) (g:=q) (l:=D) qM (Nat.zero_le _) AL h (by rw[hD.o];rfl)).vec qM
        rwa[hDl] at this
       have HBC:Hid (xU x=D.flatMap int8):=by rw[Hid,hD.o];simp[xU]
       go_wp2_with fail
       go_loopw [3,10] (fun s i wy=>∃(m:Nat) (a:Option Addr) (X:List UInt8) (c:Nat),s= .slice a X.length c∧i= .int .i64 (m:Int)∧m≤5∧Hid (X=X2++(D.take m).flatMap int8)∧Cit.Own 5 w0.heap.size wy a X c∧Below w0.heap.size w0 wy∧wy.heap[q]? =some (.cells #[.int .i64 x.id.1, .int .i64 x.src.1, .int .i64 x.dst.1, .int .i64 x.cap.1, .int .i64 x.size.1] 3 (0,0))) (fun _ i _=>5-(intOf i).toNat)
       case atStart=>exact⟨0,_,X2,_,rfl,rfl,Nat.zero_le _,by rw[Hid];simp,HOd.o,HBd.o,HQd.o⟩
       case round=>
        obtain⟨m,a,Xm,c,rfl,rfl,hm,HXm,hOm,Bm,hQm⟩:=hrel
        by_cases hmt:m<5
        ·have HO5:=AQ hOm
         have HB5:=AQ Bm
         have HP5:=AQ hQm
         have hmt':m<D.length:=by rw[hDl];exact hmt
         have hv:=HDV.o hQm
         have i0:=hv.index VE m hmt'
         obtain⟨z,hz⟩:∃z,Hid (z=D[m]):=⟨D[m],rfl⟩
         have v0:wr.cell? (ad (some ⟨q,0,none⟩) (m*1))=some (.int .i64 z):=by rw[hz.o];exact hv.wY m hmt' AP rfl
         rw[Nat.mul_one] at i0 v0
         simp only[rP,Nat.zero_add] at i0 v0
         have HSm:=AQ (kN int8 D m hmt')
         rw[←hz.o] at HSm
         have HN5:Hid (Xm.length≤5100):=by
          rw[Hid,HXm.o,List.length_append];have:=qc int8 D m;have h40:(D.flatMap int8).length=40:=by rw[hD.o];simp[eX]
          have:=HN2.o;omega
         obtain⟨X5,hX5⟩:=AV (Xm)
         rw[←hX5] at HXm HO5 HN5 ⊢
         have HX5:=HXm
         clear hv hQm hOm Bm HXm hX5
         have HK:=AQ (dZ wr z)
         go_wp2_with fail
         refine(HK.o).mono ?_
         rintro e w7 ⟨aY,Y,cY,HY,rfl,hY,hYn,hbY⟩
         have HYO:=AQ hY.isRow
         have HYN:=AQ hYn
         have hYl:Y.length≤8:=by rw[HY.o]<;>(exact Nat.le_of_eq (aB _ _))
         have HBY:=AQ (HB5.o.trans (hbY.mono HB5.o.size))
         have HOY:=AQ (HO5.o.stay hbY)
         have hXl:=HN5.o
         have HPY:=AQ (aG HP5.o hbY)
         clear hY hYn hbY HK v0 i0
         go_wp2_with ((with_reducible refine bU (o:=⟨some 126, .call _,_,_,_,_⟩) bt (.tmp 120) (.tmp 125) AA AA HOY.o HYO.o HYN.o AL HBY.o.size AA AA ?_);intro a4 c4 w6 hO4 hg4 hn4;obtain⟨X6,hX6⟩:∃Z,Hid (Z=X5++Y):=⟨_,rfl⟩;rw[←hX6.o] at hO4 ⊢;have HO6:=AQ hO4;have HB6:=AQ (HBY.o.trans (grown_below hg4 HBY.o.size (fun k hk=>(HOY.o.aK hk).1)));have HP6:=AQ ((hg4.block q (Array.getElem?_eq_some_iff.1 HPY.o).1 (fun e=>own_ne HOY.o HPY.o AP e.symm)).trans HPY.o);clear hO4 hg4 hn4)
         have HX6:Hid (X6=X2++(D.take (m+1)).flatMap int8):=by rw[Hid,hX6.o,HX5.o,HY.o]<;>(rw[HSm.o];simp[int8])
         have HN6:Hid (X6.length≤5108):=by rw[Hid,hX6.o,List.length_append];omega
         clear hX6 hYl hXl HYO HYN HBY HOY
         clear HO5 HB5 HX5 HN5 HY HPY HP5
         go_roundw
         case rel=>exact⟨m+1,_,X6,_,rfl,by go_num,by omega,HX6.o,HO6.o,HB6.o,HP6.o⟩
         case measure=>simp[intOf];omega
        ·have hm2:m=5:=by omega
         have HN:Hid (Xm=((int8 V.ws.length++V.ws.flatMap iO)++(int8 V.ps.length++V.ps.flatMap je))++(int8 V.cs.length++(V.cs.take (k+1)).flatMap xU)):=by rw[Hid,HXm.o,HX2.o,HS.o,HBC.o,hm2,←hDl,List.take_length];simp
         have HOm:=AQ hOm
         have HBm:=AQ Bm
         clear hOm Bm hQm hm2
         go_wp2_with fail
         go_roundw
         case rel=>exact⟨k+1,a,Xm,c,rfl,by go_num,by omega,HN.o,HOm.o,HBm.o⟩
         case measure=>simp[intOf];omega
      ·have hk2:k=V.cs.length:=by omega
       have HXn:Hid (X2=R):=by rw[Hid,HX2.o,hR.o,hk2,List.take_length];unfold rE;rfl
       subst hk2
       clear B HX2
       go_wp2_with fail
       go_ret
       exact⟨a,c,by rw[HXn.o];rfl,by rw[←HXn.o];exact HO2.o.low HB0.o.size,HB0.o.trans (HB2.o.mono HB0.o.size)⟩
end Go.Proofs.YtlholdllibghbaaGreat
namespace Go.Cit
open Go Go.RowKit
def SS (ops:Array Oper) (j:Nat) (early:Nat→Bool):Bool:=
 (List.range ops.size).all fun i=>match ops[i]? with
  | some o=>(match o.dst with |some d=>early d || decide (i=j) || iq ops (ops.size+1) i j |none=>true)
  | none=>true
section
variable {P:Program} {ops:Array Oper} {Q:Exit→Act→World→Prop}
structure II (ops:Array Oper) (T:Nat→Value→World→Prop) (a0:Act) (o:Oper) (A B:World→Prop) (n j:Nat) (a:Act) (w:World):Prop where
 slot:∀d,iC ops o d=true→T d (a.eval (.tmp d)) w
 old:∀d,jc ops d=true→a.eval (.tmp d)=a0.eval (.tmp d)
 lit:∀v,a.eval (.const v)=v
 fn:∀f,a.eval (.func f)= .func (.func f) #[] #[]
 ab:A w∨B w
 now:n=j→A w
 later:iq ops (ops.size+1) n j=true→B w
theorem BL {id:Nat} {a0:Act} {w:World} (j:Nat) (A B:World→Prop) (T:Nat→Value→World→Prop) (early:Nat→Bool)
 (hm:P.follows .mixedOrders=true) (hs:jg ops a0.tmps.size=true) (hl:SS ops j early=true) (hj:j<ops.size)
 (hA:∀w',Below w.heap.size w w'→w'.heap=w.heap→A w') (he:∀d v w w',early d=true→T d v w→T d v w')
 (hop:dB (fun n o=>∀a wx,II ops T a0 o A B n j a wx→Wanted ops o a∧bQ P (fun v w'=>((n=j→B w')∧(n≠j→w'=wx))∧tyP T o v w') ((execOp a.eval o).run P wx)) ops.toList 0)
 (hend:∀a wx,B wx→fF ops a0 a→(∀d,jc ops d=false→T d (a.eval (.tmp d)) wx)→Q .normal a wx):
 (Code.region id ops true).wp P Q a0 w:=by
 refine jv (fun δ wx=>(δ j=false→A wx)∧(δ j=true→B wx)) (fun i wx w'=>i=j∨w'=wx) T hm hs ?_ ?_ ?_ ?_
 ·intro w' hb hh
  exact⟨fun _=>hA w' hb hh,fun h=>absurd h Bool.false_ne_true⟩
 ·intro δ i k o v wx w' ho hik hcl hk hi _ hG hT
  rcases hd:o.dst with _ |d
  ·exact eU hd _ _
  ·rw[fZ hd] at hT ⊢
   rcases hG with rfl |rfl
   ·have h1:=List.all_eq_true.1 hl k (List.mem_range.2 (Array.getElem?_eq_some_iff.1 ho).1)
    rw[ho] at h1
    simp only[hd,Bool.or_eq_true,decide_eq_true_eq] at h1
    rcases h1 with (h1 |h1) |h1
    ·exact he d v wx w' h1 hT
    ·exact absurd h1.symm hik
    ·rw[hcl.needs _ k i h1 hk] at hi;exact absurd hi AP
   ·exact hT
 ·have:∀(l:List Oper) (n:Nat),dB (fun n o=>∀a wx,II ops T a0 o A B n j a wx→Wanted ops o a∧bQ P (fun v w'=>((n=j→B w')∧(n≠j→w'=wx))∧tyP T o v w') ((execOp a.eval o).run P wx)) l n→
   dB (fun n o=>∀δ a wx,qR ops (fun δ wx=>(δ j=false→A wx)∧(δ j=true→B wx)) T a0 n o δ a wx→Wanted ops o a∧bQ P (fun v w'=>(n=j∨w'=wx)∧((upd δ n j=false→A w')∧(upd δ n j=true→B w'))∧tyP T o v w') ((execOp a.eval o).run P wx)) l n:=by
   intro l
   induction l with
   | nil=>intro n _;trivial
   |
    cons o l ih=>
    intro n h
    refine⟨fun δ a wx hk=> ?_,ih _ h.2⟩
    have hk1:II ops T a0 o A B n j a wx:=by
     refine⟨hk.slot,hk.old,hk.lit,hk.fn, ?_,fun hn=> ?_,fun hn=> ?_⟩
     ·cases hδ:δ j
      ·exact .inl (hk.inv.1 hδ)
      ·exact .inr (hk.inv.2 hδ)
     ·exact hk.inv.1 (by rw[←hn];exact hk.yet)
     ·by_cases hnj:n=j
      ·have h1:=hk.next.needs _ n j hn (upd_same _ _)
       exact hk.inv.2 (by
        cases hδ:δ j
        ·subst hnj
         exact absurd hn (by
          intro hn'
          have:=mX hs (ops.size+1) n n hn'
          omega)
        ·rfl)
      ·have h1:=hk.next.needs _ n j hn (upd_same _ _)
       rw[aA δ hnj] at h1
       exact hk.inv.2 h1
    obtain⟨hw,hg⟩:=h.1 a wx hk1
    refine⟨hw, ?_⟩
    have conv:∀v w',(((n=j→B w')∧(n≠j→w'=wx))∧tyP T o v w')→((n=j∨w'=wx)∧((upd δ n j=false→A w')∧(upd δ n j=true→B w'))∧tyP T o v w'):=by
     rintro v w' ⟨h1,h2⟩
     by_cases hnj:n=j
     ·exact⟨.inl hnj,⟨fun hx=>by rw[hnj,upd_same] at hx;exact absurd hx AP,fun _=>h1.1 hnj⟩,h2⟩
     ·have h1:=h1.2 hnj
      subst h1
      exact⟨.inr rfl,⟨fun hx=>hk.inv.1 (by rw[aA δ hnj] at hx;exact hx),fun hx=>hk.inv.2 (by rw[aA δ hnj] at hx;exact hx)⟩,h2⟩
    generalize (execOp a.eval o).run P wx=r at hg
    match r,hg with
    | .ok (.value v) w',hg=>exact conv v w' hg
    | .ok .skip w',hg=>exact conv undef w' hg
    |
     .ok (.enter f args) w',hg=>
     refine Calls.mono hg ?_
     rintro e w'' ⟨v,he,hv⟩
     exact⟨v,he,conv v w'' hv⟩
  exact this _ _ hop
 ·intro δ a wx hall hc hsame hT
  exact hend a wx (hc.2 (hall j hj)) hsame hT
end
end Go.Cit
namespace Go.Proofs.YtlholdllibghbaaGreat
open Go Go.RowKit Go.Cit
structure Rf (base top:Nat) (w:World) (b:Nat) (a:Option Addr) (B:List UInt8) (c:Nat) (at_:Nat) (e:Int):Prop where
 blk:w.heap[b]? =some (.cells #[.slice a B.length c, .int .i64 at_, .int .i64 e] 192 (0,0))
 row:Row w a B c
 ge:base≤b
 off:B≠ []→∀g,Go.Cit.blk a=some g→g≠b∧base≤g∧g<top
 len:B.length≤65536
 le:at_≤B.length
theorem Rf.lt {base top w b a B c t e} (h:Rf base top w b a B c t e):b<w.heap.size:=(Array.getElem?_eq_some_iff.1 h.blk).1
theorem Rf.c0 {base top w b a B c t e} (h:Rf base top w b a B c t e):w.cell? ⟨b,0,none⟩=some (.slice a B.length c):=by rw[World.cell?,h.blk];rfl
theorem Rf.c1 {base top w b a B c t e} (h:Rf base top w b a B c t e):w.cell? ⟨b,1,none⟩=some (.int .i64 t):=by rw[World.cell?,h.blk];rfl
theorem Rf.c2 {base top w b a B c t e} (h:Rf base top w b a B c t e):w.cell? ⟨b,2,none⟩=some (.int .i64 e):=by rw[World.cell?,h.blk];rfl
theorem Rf.fr {base top w b a B c t e} (h:Rf base top w b a B c t e) (i:Nat):w.frozen? ⟨b,i,none⟩=false:=by simp[World.frozen?,h.blk]
theorem Rf.save {S:Nat→Prop} {base top w w' b a B c t e} (h:Rf base top w b a B c t e) (hs:Save S w w') (hb:S b) (ha:B≠ []→∀g,Go.Cit.blk a=some g→S g):Rf base top w' b a B c t e:=
 ⟨by rw[hs.block b h.lt hb];exact h.blk,h.row.save' hs ha,h.ge,h.off,h.len,h.le⟩
theorem Rf.stay {base top w w' b a B c t e} (h:Rf base top w b a B c t e) (hs:Below w.heap.size w w'):Rf base top w' b a B c t e:=h.save (Save.of (S:=fun _=>True) hs) trivial (fun _ _ _=>trivial)
def iP (base top:Nat) (w:World) (b:Nat) (s:St):Prop:=∃a B c t,Rf base top w b a B c t s.e∧(s.e=0→B.drop t=s.l)
theorem iP.save {S:Nat→Prop} {base top w w' b s} (h:iP base top w b s) (hs:Save S w w') (hb:S b) (ht:∀g,base≤g→g<top→S g):iP base top w' b s:=by
 obtain⟨a,B,c,t,h,he⟩:=h
 exact⟨a,B,c,t,h.save hs hb (fun hl g hg=>ht g (h.off hl g hg).2.1 (h.off hl g hg).2.2),he⟩
theorem iP.stay {base top w w' b s} (h:iP base top w b s) (hb:Below w.heap.size w w'):iP base top w' b s:=by
 obtain⟨a,B,c,t,h,he⟩:=h;exact⟨a,B,c,t,h.stay hb,he⟩
theorem set1 {w:World} {b:Nat} {x y z v:Value} {T:TypeId} {fr:Nat×Nat} (h:w.heap[b]? =some (.cells #[x,y,z] T fr)):(w.setCell ⟨b,1,none⟩ v).heap[b]? =some (.cells #[x,v,z] T fr):=by
 simp[World.setCell,Array.getElem?_modify,h]
theorem wu (w:World) {a0:Option Addr} {l:List UInt8} {c0:Nat} (h0:Row w a0 l c0):
 Calls Tryz.prog 62 #[.slice a0 l.length c0] w fun r w'=>∃b,Hid (w.heap.size≤b∧b<w'.heap.size)∧r= .returned (.pointer (some ⟨b,0,none⟩))∧iP w.heap.size w'.heap.size w' b (St.new l)∧Below w.heap.size w w':=by
 have hlen:=h0.bK
 go_enter Tryz.func62,Tryz.ntmps62
 by_cases hl:65536<l.length
 ·have HE:Hid (St.new l=⟨[],3⟩):=by rw[Hid,St.new,if_neg AL]
  go_wp2_with fail
  go_ret
  refine⟨w.heap.size,⟨Nat.le_refl _,by simp⟩,rfl, ?_,(Below.refl _ _).alloc (Nat.le_refl _) _⟩
  rw[HE.o]
  exact⟨none,[],0,0,⟨heap_alloc_new w _,Row.nil_ _,Nat.le_refl _,fun h=>absurd rfl h,by simp,by simp⟩,fun h=>absurd h AP⟩
 ·have HE:Hid (St.new l=⟨l,0⟩):=by rw[Hid,St.new,if_pos AL]
  have hl9:l.length≤65536:=by omega
  clear hl
  go_wp2_with fail
  refine(TM (zy _ _ _ _ h0 AL)).mono ?_
  rintro e w2 ⟨a2,X,c2,HX,rfl,hm2,hb2⟩
  have hXl:X.length≤65536:=by rw[HX.o];exact hl9
  go_wp2_with fail
  go_ret
  refine⟨w2.heap.size,⟨hb2.size,by simp⟩,rfl, ?_,hb2.trans ((Below.refl _ _).alloc (by have:=hb2.size;omega) _)⟩
  rw[HE.o]
  refine⟨a2,X,c2,0,⟨heap_alloc_new w2 _,hm2.row.stay ((Below.refl _ _).alloc (Nat.le_refl _) _),hb2.size,fun hX g hg=> ?_,hXl,Nat.zero_le _⟩,fun _=>by rw[List.drop_zero,HX.o]⟩
  have h1:=hm2.row.blk (List.length_pos_iff.2 hX)
  have h2:g<w2.heap.size:=by
   cases a2 with
   | none=>simp[blk] at hg
   | some p=>simp[blk,ad] at hg h1;omega
  exact⟨by omega,hm2.new g hg,by simp;omega⟩
theorem DI {base top w b a B c t e} (h:Rf base top w b a B c t e) (n:Int) (hn:0≤n) (hn9:n≤1000000) (hno:e=0→((B.length-t:Nat):Int)<n):
 Calls Tryz.prog 149 #[.pointer (some ⟨b,0,none⟩), .int .i64 n] w fun r w'=>r= .returned (.tuple #[.slice none 0 0, .bool false])∧iP base top w' b (St.breaks ⟨B.drop t,e⟩)∧Save (· ≠b) w w':=by
 have c0:=h.c0
 have c1:=h.c1
 have c2:=h.c2
 have f2:=h.fr 2
 have hl:=h.len
 have hle:=h.le
 go_enter Tryz.func149,Tryz.ntmps149
 by_cases he:e=0
 ·have ge:(e !=0)=false:=by rw[he];rfl
  have hlt:=hno he
  have HE:Hid (St.breaks ⟨B.drop t,e⟩=St.broke):=by rw[Hid,St.breaks,if_pos he]
  have hlt2:(B.length:Int)-t<n:=by omega
  clear hno he hlt
  go_wp2_with fail
  have d0:∀k,(w.drewN k).cell? ⟨b,0,none⟩=some (.slice a B.length c):=fun _=>c0
  have d1:∀k,(w.drewN k).cell? ⟨b,1,none⟩=some (.int .i64 t):=fun _=>c1
  go_quiet (fail)
  go_wp2_with fail
  go_ret2
  have hS:Save (· ≠b) w ((w.setCell ⟨b,2,none⟩ (.int .i64 50)).drewN nq):=Save.set.trans (Save.drewN _ _)
  refine⟨rfl, ?_,hS⟩
  rw[HE.o]
  exact⟨a,B,c,t,⟨set2 (v:= .int .i64 50) h.blk,h.row.save' hS (fun hB g hg=>(h.off hB g hg).1),h.ge,h.off,h.len,h.le⟩,fun h=>absurd h AP⟩
 ·have ge:(e !=0)=true:=by simpa using he
  have HE:Hid (St.breaks ⟨B.drop t,e⟩=⟨B.drop t,e⟩):=by rw[Hid,St.breaks,if_neg he]
  clear hno he
  go_wp2_with fail
  go_ret2
  refine⟨rfl, ?_,Save.refl _ _⟩
  rw[HE.o]
  exact⟨a,B,c,t,h,fun _=>rfl⟩
theorem Fb {P:Program} {w:World} {o:Oper} {ρ:Operand→Value} {post:Value→World→Prop} {ty:TypeId} {x:Operand} {lo hi mx:Option Operand} (h:o.op= .slice ty x lo hi mx) {vx v:Value} {vl vh vm:Option Value} (hx:ρ x=vx) (hl:lo.map ρ=vl) (hh:hi.map ρ=vh) (hm:mx.map ρ=vm)
 (hr:∀w,(Instr.sliceAt ty vx vl vh vm).run P w= .ok v w) (hp:post v w):bQ P post ((execOp ρ o).run P w):=by
 refine fA (v:=v) (w':=w) ?_ hp
 unfold execOp;rw[h];dsimp only;rw[hx,hl,hh,hm,Sem.run_bind,hr];rfl
def Kw (W:World) (b:Nat) (a:Option Addr) (B:List UInt8) (c:Nat) (v1 n t:Int) (a1:Option Addr) (m:List UInt8) (c1:Nat):Nat→Value→World→Prop
 | 38,v,_=>v= .slice a B.length c
 | 41,v,_=>v= .pointer (some ⟨b,1,none⟩)
 | 47,v,_=>v= .pointer (some ⟨b,1,none⟩)
 | 42,v,_=>v= .int .i64 v1
 | 48,v,_=>v= .int .i64 v1
 | 43,v,_=>v= .int .i64 n
 | 44,v,_=>v= .int .i64 t
 | 49,v,_=>v= .slice a1 m.length c1
 | 50,v,wx=>∃a2 X c2,Hid (X=m)∧v= .slice a2 X.length c2∧Mine W.heap.size wx a2 X c2
 | 4,v,wx=>∃a2 X c2,Hid (X=m)∧v= .slice a2 X.length c2∧Mine W.heap.size wx a2 X c2
 | 5,v,_=>v= .bool true
 | _,v,_=>v= .pointer (some ⟨b,0,none⟩)
theorem GV {W b a B c v1 n t a1 m c1 d v w w'} (hd:(!decide (d=50∨d=4))=true) (h:Kw W b a B c v1 n t a1 m c1 d v w):Kw W b a B c v1 n t a1 m c1 d v w':=by
 unfold Kw at h ⊢
 split<;>simp_all
theorem zL {base top w b a B c t} (h:Rf base top w b a B c t 0) (n:Nat) (hn:n≤B.length-t):
 Calls Tryz.prog 149 #[.pointer (some ⟨b,0,none⟩), .int .i64 n] w fun r w'=>∃a' X c',Hid (X=(B.drop t).take n)∧r= .returned (.tuple #[.slice a' X.length c', .bool true])∧Mine w.heap.size w' a' X c'∧iP base top w' b ⟨(B.drop t).drop n,0⟩∧Save (· ≠b) w w':=by
 have c0:=h.c0
 have c1:=h.c1
 have c2:=h.c2
 have f1:=h.fr 1
 have hl:=h.len
 have hle:=h.le
 obtain⟨v1,hv1⟩:∃v1:Int,Hid (v1=(t:Int)+n):=⟨_,rfl⟩
 have hsub:v1-n=t:=by rw[hv1.o];omega
 have hv0:0≤v1∧v1≤200000:=by rw[hv1.o];omega
 obtain⟨hv0,hv9⟩:=hv0
 have HN:=AQ hn
 have d0':∀k,(w.drewN k).cell? ⟨b,0,none⟩=some (.slice a B.length c):=fun _=>c0
 have d1':∀k,(w.drewN k).cell? ⟨b,1,none⟩=some (.int .i64 t):=fun _=>c1
 have f1':∀k,(w.drewN k).frozen? ⟨b,1,none⟩=false:=fun _=>f1
 go_enter Tryz.func149,Tryz.ntmps149
 go_wp2_with fail
 go_quiet (fail)
 go_wp2_with fail
 rw[←hv1.o]
 have hS:Save (· ≠b) w ((w.drewN nq).setCell ⟨b,1,none⟩ (.int .i64 v1)):=(Save.drewN _ _).trans Save.set
 have hk1:((w.drewN nq).setCell ⟨b,1,none⟩ (.int .i64 v1)).heap[b]? =_:=set1 (w:=w.drewN nq) (v:= .int .i64 v1) h.blk
 generalize (w.drewN nq).setCell ⟨b,1,none⟩ (.int .i64 v1)=W at hS hk1 ⊢
 clear d0' d1' f1' c0 c1 c2 f1 hn
 have hr1:=h.row.save' hS (fun hB g hg=>(h.off hB g hg).1)
 obtain⟨a1,m,c1',hm,hrun,r1⟩:=hr1.part bt.slice bt.sz t (t+n) AL (by have:=HN.o;omega)
 have HM:Hid (m=(B.drop t).take n):=by rw[Hid,hm,List.take_drop,Nat.add_comm]
 have hml:m.length≤65536:=by rw[hm,List.length_drop,List.length_take];have:=HN.o;omega
 rw[show((t+n:Nat):Int)=v1 by rw[hv1.o];omega] at hrun
 have d0:∀ {wx:World},(wx.heap=W.heap∨Below W.heap.size W wx)→wx.cell? ⟨b,0,none⟩=some (.slice a B.length c)∧wx.cell? ⟨b,1,none⟩=some (.int .i64 v1):=by
  intro wx hx
  have hh:wx.heap[b]? =W.heap[b]? :=by
   rcases hx with hx |hx
   ·rw[hx]
   ·exact hx.block b (Array.getElem?_eq_some_iff.1 hk1).1
  rw[hk1] at hh
  exact⟨by rw[World.cell?,hh];rfl,by rw[World.cell?,hh];rfl⟩
 have HB:=AQ hk1
 clear hm hk1
 refine BL 15 (fun wx=>wx.heap=W.heap∧Below W.heap.size W wx) (fun wx=>Below W.heap.size W wx) (Kw W b a B c v1 n t a1 m c1') (fun d=> !decide (d=50∨d=4)) AB AB AB AP ?_ ?_ ?_ ?_
 ·intro w' hb hh
  exact⟨hh,hb⟩
 ·intro d v w1 w2 hd hT
  exact GV hd hT
 ·refine aI ?_ (aI ?_ (aI ?_ (aI ?_ (aI ?_ (aI ?_ (aI ?_ (aI ?_ (aI ?_ (aI ?_ (aI ?_ (aI ?_ (aI ?_ (aI ?_ (aI ?_ (aI ?_ (aI ?_ (aI ?_ aU)))))))))))))))))
  all_goals intro wa wx hk
  ·exact⟨ah rfl,eH (.tmp 0) rfl ⟨⟨fun h=>absurd h AP,fun _=>rfl⟩,hk.old 0 AB⟩⟩
  ·exact⟨ah rfl,Bh (.tmp 35) rfl (hk.slot 35 AB) ⟨⟨fun h=>absurd h AP,fun _=>rfl⟩,rfl⟩⟩
  ·exact⟨ah rfl,bF (.tmp 36) rfl (hk.slot 36 AB) (fun w=>AB) ⟨⟨fun h=>absurd h AP,fun _=>rfl⟩,rfl⟩⟩
  ·have hc:=(d0 (hk.ab.elim (fun h=> .inl h.1) .inr)).1
   exact⟨ah rfl,bg (.tmp 37) rfl (hk.slot 37 AB) (by simp[go_sem,hc]) ⟨⟨fun h=>absurd h AP,fun _=>rfl⟩,rfl⟩⟩
  ·exact⟨ah rfl,eH (.tmp 0) rfl ⟨⟨fun h=>absurd h AP,fun _=>rfl⟩,hk.old 0 AB⟩⟩
  ·exact⟨ah rfl,Bh (.tmp 39) rfl (hk.slot 39 AB) ⟨⟨fun h=>absurd h AP,fun _=>rfl⟩,rfl⟩⟩
  ·exact⟨ah rfl,bF (.tmp 40) rfl (hk.slot 40 AB) (fun w=>AB) ⟨⟨fun h=>absurd h AP,fun _=>rfl⟩,rfl⟩⟩
  ·have hc:=(d0 (hk.ab.elim (fun h=> .inl h.1) .inr)).2
   exact⟨ah rfl,bg (.tmp 41) rfl (hk.slot 41 AB) (by simp[go_sem,hc]) ⟨⟨fun h=>absurd h AP,fun _=>rfl⟩,rfl⟩⟩
  ·exact⟨ah rfl,eH (.tmp 1) rfl ⟨⟨fun h=>absurd h AP,fun _=>rfl⟩,hk.old 1 AB⟩⟩
  ·exact⟨ah rfl,wS rfl (hk.slot 42 AB) (hk.slot 43 AB) (v:= .int .i64 t) (fun w=>by rw[←hsub];go_simp;exact IntWalk.i64_in _ AL) ⟨⟨fun h=>absurd h AP,fun _=>rfl⟩,rfl⟩⟩
  ·exact⟨ah rfl,eH (.tmp 0) rfl ⟨⟨fun h=>absurd h AP,fun _=>rfl⟩,hk.old 0 AB⟩⟩
  ·exact⟨ah rfl,Bh (.tmp 45) rfl (hk.slot 45 AB) ⟨⟨fun h=>absurd h AP,fun _=>rfl⟩,rfl⟩⟩
  ·exact⟨ah rfl,bF (.tmp 46) rfl (hk.slot 46 AB) (fun w=>AB) ⟨⟨fun h=>absurd h AP,fun _=>rfl⟩,rfl⟩⟩
  ·have hc:=(d0 (hk.ab.elim (fun h=> .inl h.1) .inr)).2
   exact⟨ah rfl,bg (.tmp 47) rfl (hk.slot 47 AB) (by simp[go_sem,hc]) ⟨⟨fun h=>absurd h AP,fun _=>rfl⟩,rfl⟩⟩
  ·exact⟨ah rfl,Fb rfl (hk.slot 38 AB) (congrArg some (show wa.eval (.tmp 44)=_ from hk.slot 44 AB)) (congrArg some (show wa.eval (.tmp 48)=_ from hk.slot 48 AB)) rfl hrun ⟨⟨fun h=>absurd h AP,fun _=>rfl⟩,rfl⟩⟩
  ·obtain⟨hh,hbl⟩:=hk.now rfl
   have e49:wa.eval (.tmp 49)=_:=hk.slot 49 AB
   have r2:Row wx a1 m c1':=r1.stay hbl
   refine⟨ah rfl,bJ rfl (hk.fn _) #[.slice a1 m.length c1'] (fun w=>AB) (by simp[e49]) ((TM (zy _ _ _ _ r2 AL)).mono ?_)⟩
   rintro e w' ⟨a2,X,c2,HX,he,hm2,hb2⟩
   have hz:wx.heap.size=W.heap.size:=by rw[hh]
   refine⟨_,he,⟨fun _=>hbl.trans (hb2.mono AL),fun h=>absurd rfl h⟩,a2,X,c2,HX,rfl,hm2.low AL⟩
  ·exact⟨ah rfl,mQ (.tmp 50) rfl ⟨⟨fun h=>absurd h AP,fun _=>rfl⟩,hk.slot 50 AB⟩⟩
  ·exact⟨ah rfl,mQ (.const (.bool true)) rfl ⟨⟨fun h=>absurd h AP,fun _=>rfl⟩,hk.lit _⟩⟩
 ·intro wa wx hB hsame hT
  rename_i hK
  obtain⟨a2,X,c2,HX,h4,hm4⟩:=hT 4 AB
  obtain⟨a3,X3,c3,_,h50,_⟩:=hT 50 AB
  have h5:wa.eval (.tmp 5)=_:=hT 5 AB
  have hd:=hsame.1
  clear hT hsame
  have hR:Rf base top W b a B c (t+n) 0:=⟨by rw[HB.o,hv1.o];rfl,hr1,h.ge,h.off,h.len,by have:=HN.o;omega⟩
  refine hK wa wx ?_
  apply wp_ret
  refine bodyPost_ret (results_tmp2 rfl _ _ _) hd ⟨a2,X,c2,by rw[Hid,HX.o,HM.o], ?_,hm4.low hS.size, ?_,hS.trans (Save.of hB)⟩
  ·show Ending.returned (.tuple #[wa.eval (.tmp 4),wa.eval (.tmp 5)])=_
   rw[h4,h5]
  ·exact⟨a,B,c,t+n,hR.stay hB,fun _=>by rw[List.drop_drop]⟩
def St.num (s:St) (n:Nat):UInt64×St:=match s.next n with |(some x,s')=>(dS x,s') |(none,s')=>(0,s')
theorem nM {base top w b s} (h:iP base top w b s) (n:Nat) (h1:1≤n) (h8:n≤8):
 Calls Tryz.prog 148 #[.pointer (some ⟨b,0,none⟩), .int .i64 n] w fun r w'=>r= .returned (vq (St.num s n).1)∧iP base top w' b (St.num s n).2∧Save (· ≠b) w w':=by
 obtain⟨a,B,c,t,hR,hd⟩:=h
 obtain⟨l,e⟩:=s
 by_cases hy:e=0∧n≤B.length-t
 ·obtain⟨rfl,hn⟩:=hy
  obtain rfl:B.drop t=l:=hd rfl
  have hle:=hR.le
  have hnx:St.next ⟨B.drop t,0⟩ n=(some ((B.drop t).take n),⟨(B.drop t).drop n,0⟩):=oH (by rw[List.length_drop];exact hn)
  have HN:Hid (St.num ⟨B.drop t,0⟩ n=(dS ((B.drop t).take n),⟨(B.drop t).drop n,0⟩)):=by rw[Hid,St.num,hnx]
  have hk:=zL hR n hn
  have HL:Hid (((B.drop t).take n).length=n):=by rw[Hid,List.length_take,List.length_drop];omega
  clear hnx hd hn
  go_enter Tryz.func148,Tryz.ntmps148
  go_wp2_with fail
  refine Calls.mono hk ?_
  rintro r w1 ⟨a1,X,c1,HX,rfl,hm1,hR1,hS1⟩
  go_wp2_with fail
  refine(qg _ _ _ _ hm1.row).mono ?_
  rintro r w2 ⟨rfl,hw2⟩
  subst hw2
  have hv:oL X=dS ((B.drop t).take n):=by rw[oL,HX.o,if_pos (by rw[HL.o];exact⟨h1,h8⟩)]
  have HV:=AQ hv
  clear hv hk
  go_wp2_with fail
  go_ret
  rw[HN.o,HV.o]
  exact⟨rfl,hR1,hS1⟩
 ·have hno:e=0→((B.length-t:Nat):Int)<n:=fun he=>by have:=fun h=>hy ⟨he,h⟩;omega
  have hnx:St.next ⟨l,e⟩ n=(none,St.breaks ⟨l,e⟩):=yM (fun he=>by have h2:=hno he;have h3:=hd he;simp only at h3;rw[←h3,List.length_drop];omega)
  have HN:Hid (St.num ⟨l,e⟩ n=(0,St.breaks ⟨l,e⟩)):=by rw[Hid,St.num,hnx]
  have hk:=DI hR n AL AL hno
  have HB:Hid (∀ {w'},iP base top w' b (St.breaks ⟨B.drop t,e⟩)→iP base top w' b (St.breaks ⟨l,e⟩)):=by
   intro w' hh
   by_cases he:e=0
   ·have h3:=hd he
    simp only at h3
    rw[←h3];exact hh
   ·unfold St.breaks at hh ⊢
    rw[if_neg he] at hh ⊢
    obtain⟨a',B',c',t',hR',_⟩:=hh
    exact⟨a',B',c',t',hR',fun h0=>absurd h0 he⟩
  clear hno hy hnx
  go_enter Tryz.func148,Tryz.ntmps148
  go_wp2_with fail
  refine Calls.mono hk ?_
  rintro r w1 ⟨rfl,hR1,hS1⟩
  go_wp2_with fail
  go_ret
  rw[HN.o]
  exact⟨rfl,HB.o hR1,hS1⟩
end Go.Proofs.YtlholdllibghbaaGreat
