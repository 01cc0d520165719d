/- Texts of the proof, one behind the other: StV, CloneS, WireLaw, Man. No condition but those that each names. -/
import Derived.Test.YtlholdllibghbaaGreatG20
import Derived.Test.YtlholdllibghbaaGreatG14
import Derived.Test.YtlholdllibghbaaGreatG10
import Derived.Test.YtlholdllibghbaaGreatG15
import Derived.Test.YtlholdllibghbaaGreatG09
import Derived.Test.YtlholdllibghbaaGreatG08
import Derived.Test.YtlholdllibghbaaGreatG02
import Derived.Test.YtlholdllibghbaaGreatG06
import Derived.Laws.Cover3
import Derived.Test.YtlholdllibghbaaGreatG11
import Derived.Laws.CopyRow
import Derived.Test.YtlholdllibghbaaGreatKit
set_option maxRecDepth 100000
set_option maxHeartbeats 8000000
namespace Go.Proofs.YtlholdllibghbaaGreat
open Go Go.RowKit Go.Cit
theorem qM {base top w R b q0} (h:fH base top w R b q0):Calls Tryz.prog 95 #[.pointer (some ⟨R,0,none⟩)] w fun e w'=>∃x:aK,e= .returned (.agg (cP x))∧x.prt=(bW q0).1∧Ei w' x∧(∀g,Ew x g→w.heap.size≤g)∧fH base top w' R b (bW q0).2∧Save (iw b R) w w':=
 (uf h).mono fun _ _ ⟨x,h1,h2,h3,h4,h5,h6⟩=>⟨x,h1,h2,h3,fun g hg=>h4 g hg.2,h5,h6⟩
theorem qL {base top w R b q} (h:fH base top w R b q) (most:Int) (hm:0≤most∧most≤100):Calls Tryz.prog 94 #[.pointer (some ⟨R,0,none⟩), .int .i64 most, .func (.func 95) #[.pointer (some ⟨R,0,none⟩)] #[]] w fun e w'=>∃a c,∃L:List aK,e= .returned (.slice a L.length c)∧L.map aK.prt=(mQ bW most q).1∧aW bG 14 42 w.heap.size w' a L c∧(∀x∈L,Ei w' x∧∀g,Ew x g→w.heap.size≤g∧blk a≠some g)∧fH base top w' R b (mQ bW most q).2∧Save (iw b R) w w':=by
 have hRlt:=h.lt
 have hblt:=h.rd.lt
 have htp:=h.tp
 obtain⟨n,hn⟩:∃n:Nat,Hid ((q.count most).1=(n:Int)):=⟨(q.count most).1.toNat,by have:=(count_range q.s most hm.1).1;show(q.s.count most).1=(((q.s.count most).1.toNat:Nat):Int);omega⟩
 have hn9:n≤100:=by have h1:(q.s.count most).1≤most:=(count_range q.s most hm.1).2;have h2:(q.s.count most).1=(n:Int):=hn.o;omega
 obtain⟨q1,hq1⟩:=AU ((q.count most).2)
 have hk:=ji h most
 rw[hn.o,←hq1.o] at hk
 have HK:=AQ hk
 have HRD:Hid (mQ bW most q=mY bW n q1):=by rw[Hid,mQ,hn.o,hq1.o];rfl
 rw[HRD.o]
 have c0:=h.c0
 have HLT:=AQ (And.intro hRlt (And.intro hblt htp))
 clear h hk hRlt hblt htp
 go_enter Tryz.func94,Tryz.ntmps94
 go_wp2_with fail
 refine(HK.o).mono ?_
 rintro e w1 ⟨rfl,hR,hS⟩
 have HS1:=AQ (And.intro hR hS)
 clear hR hS HK c0
 go_wp2_with fail
 go_loopw [7,14] (fun v i wr=>∃(k:Nat) (a:Option Addr) (L:List aK) (c:Nat),v= .slice a L.length c∧i= .int .i64 (k:Int)∧k≤n∧Hid (L.map aK.prt=(mY bW k q1).1)∧aW bG 14 42 w.heap.size wr a L c∧(∀x∈L,Ei wr x∧∀g,Ew x g→w.heap.size≤g∧blk a≠some g)∧fH base top wr R b (mY bW k q1).2∧Save (iw b R) w wr) (fun _ i _=>n-(intOf i).toNat)
 case atStart=>exact⟨0,none,[],0,rfl,rfl,Nat.zero_le _,rfl,aW.nil_ _ _ _ _ _,fun x hx=>by simp at hx,HS1.o.1,HS1.o.2⟩
 case round=>
  obtain⟨k,a,L,c,rfl,rfl,hk,HL,hO,hI,hR,hS⟩:=hrel
  by_cases hlt:k<n
  ·obtain⟨q2,hq2⟩:=AU ((mY bW k q1).2)
   rw[←hq2.o] at hR
   have HKC:=AQ (qM hR)
   have HL9:Hid (L.length≤100):=by
    have h1:=oL bW k q1
    rw[←HL.o,List.length_map] at h1
    rw[Hid];omega
   have HW:=AQ (And.intro hO (And.intro hI hS))
   have HLTk:=AQ hlt
   clear hO hI hR hS
   go_wp2_with fail
   refine(HKC.o).mono ?_
   rintro e w5 ⟨x,rfl,hx,hin,hnew,hR5,hS5⟩
   have hsz5:w.heap.size≤w5.heap.size:=Nat.le_trans HW.o.2.2.size hS5.size
   have hO5:=HW.o.1.save hS5 (fun g hg=>by have h1:=(HW.o.1.aQ hg).1;have h2:=HLT.o;exact⟨by omega,by omega⟩)
   have H5:=AQ (And.intro hx (And.intro hin (And.intro hnew (And.intro hR5 hS5))))
   have HO5:=AQ (And.intro hO5 hsz5)
   clear hx hin hnew hR5 hS5 hO5 hsz5 HKC
   go_wp2_with (first
    | ((with_reducible refine aP (o:=⟨some 19, .buildSlice _ _ _,_,_,_,_⟩) AA (lT dD (.tmp 18) (.agg (cP x)) (cP x) rfl AA AA (dZ _) AP _) ?_))
    | ((with_reducible refine bn (o:=⟨some 20, .call _,_,_,_,_⟩) dD aH gu (y:=x) (.tmp 16) (.tmp 19) AA AA HO5.o.1 AA (by have:=HL9.o;omega) HO5.o.2 AA AA ?_);intro a4 k4 w6 hO4 hg4 hn4;have HO4:=AQ (And.intro hO4 (And.intro hg4 hn4));clear hO4 hg4 hn4))
   have hB6:=HO5.o.1.grown HO4.o.2.1 HO5.o.2
   have hs6:Save (· <w.heap.size) w5 w6:=⟨hB6.os,hB6.tape,hB6.output,hB6.size,fun j _ hj=>hB6.block j hj⟩
   have HN:Hid ((L++ [x]).map aK.prt=(mY bW (k+1) q1).1):=by rw[Hid,List.map_append,HL.o,mY,←hq2.o,List.map_cons,List.map_nil,H5.o.1]
   have HIM:Hid (∀z∈L++ [x],Ei w6 z∧∀g,Ew z g→w.heap.size≤g∧blk a4≠some g):=fun z hz=>by
    have hz5:Ei w5 z∧∀g,Ew z g→w.heap.size≤g∧blk a≠some g:=by
     rcases List.mem_append.1 hz with hz |hz
     ·have hy:=HW.o.2.1 z hz
      exact⟨jD hy.1 H5.o.2.2.2.2 fun g hg=>by have h1:=(hy.2 g hg).1;have h2:=HLT.o;exact⟨by omega,by omega⟩,hy.2⟩
     ·obtain rfl:z=x:=by simpa using hz
      refine⟨H5.o.2.1,fun g hg=> ?_⟩
      have h1:=H5.o.2.2.1 g hg
      refine⟨Nat.le_trans HW.o.2.2.size h1,fun e=> ?_⟩
      have:=(HW.o.1.aQ e).2
      omega
    refine⟨jD hz5.1 (Save.grown HO4.o.2.1) fun g hg e=>(hz5.2 g hg).2 e.symm,fun g hg=>⟨(hz5.2 g hg).1,fun e=> ?_⟩⟩
    rcases HO4.o.2.2 g e with h1 |h1
    ·exact(hz5.2 g hg).2 h1
    ·have:=Gg hz5.1 hg
     omega
   go_roundw
   case rel=>exact⟨k+1,a4,L++ [x],k4,by simp,by go_num,HLTk.o,HN.o,HO4.o.1,HIM.o,by rw[mY,←hq2.o];exact H5.o.2.2.2.1.save hs6 HLT.o.2.1 HLT.o.1 (fun g _ ht=>by have:=HLT.o;show g<w.heap.size;omega),iq (HW.o.2.2.trans H5.o.2.2.2.2) hB6⟩
   case measure=>have:=HLTk.o;simp[intOf];omega
  ·have hk2:k=n:=by omega
   have HF:=AQ (And.intro hO (And.intro hI (And.intro hR hS)))
   clear hO hI hR hS
   subst hk2
   go_wp2_with fail
   go_ret
   exact⟨a,c,L,rfl,HL.o,HF.o.1,HF.o.2.1,HF.o.2.2.1,HF.o.2.2.2⟩
theorem pF {base top w R b q} (h:fH base top w R b q) (most:Int) (hm:0≤most∧most≤100):Calls Tryz.prog 96 #[.pointer (some ⟨R,0,none⟩), .int .i64 most, .func (.func 97) #[.pointer (some ⟨R,0,none⟩)] #[]] w fun e w'=>∃a c,∃L:List bF,e= .returned (.slice a L.length c)∧L.map bF.kC=(mQ dB most q).1∧aW bZ 6 51 w.heap.size w' a L c∧(∀x∈L,Es w' x∧∀g,Fz x g→w.heap.size≤g∧blk a≠some g)∧fH base top w' R b (mQ dB most q).2∧Save (iw b R) w w':=by
 have hRlt:=h.lt
 have hblt:=h.rd.lt
 have htp:=h.tp
 obtain⟨n,hn⟩:∃n:Nat,Hid ((q.count most).1=(n:Int)):=⟨(q.count most).1.toNat,by have:=(count_range q.s most hm.1).1;show(q.s.count most).1=(((q.s.count most).1.toNat:Nat):Int);omega⟩
 have hn9:n≤100:=by have h1:(q.s.count most).1≤most:=(count_range q.s most hm.1).2;have h2:(q.s.count most).1=(n:Int):=hn.o;omega
 obtain⟨q1,hq1⟩:=AU ((q.count most).2)
 have hk:=ji h most
 rw[hn.o,←hq1.o] at hk
 have HK:=AQ hk
 have HRD:Hid (mQ dB most q=mY dB n q1):=by rw[Hid,mQ,hn.o,hq1.o];rfl
 rw[HRD.o]
 have c0:=h.c0
 have HLT:=AQ (And.intro hRlt (And.intro hblt htp))
 clear h hk hRlt hblt htp
 go_enter Tryz.func96,Tryz.ntmps96
 go_wp2_with fail
 refine(HK.o).mono ?_
 rintro e w1 ⟨rfl,hR,hS⟩
 have HS1:=AQ (And.intro hR hS)
 clear hR hS HK c0
 go_wp2_with fail
 go_loopw [7,14] (fun v i wr=>∃(k:Nat) (a:Option Addr) (L:List bF) (c:Nat),v= .slice a L.length c∧i= .int .i64 (k:Int)∧k≤n∧Hid (L.map bF.kC=(mY dB k q1).1)∧aW bZ 6 51 w.heap.size wr a L c∧(∀x∈L,Es wr x∧∀g,Fz x g→w.heap.size≤g∧blk a≠some g)∧fH base top wr R b (mY dB k q1).2∧Save (iw b R) w wr) (fun _ i _=>n-(intOf i).toNat)
 case atStart=>exact⟨0,none,[],0,rfl,rfl,Nat.zero_le _,rfl,aW.nil_ _ _ _ _ _,fun x hx=>by simp at hx,HS1.o.1,HS1.o.2⟩
 case round=>
  obtain⟨k,a,L,c,rfl,rfl,hk,HL,hO,hI,hR,hS⟩:=hrel
  by_cases hlt:k<n
  ·obtain⟨q2,hq2⟩:=AU ((mY dB k q1).2)
   rw[←hq2.o] at hR
   have HKC:=AQ (qO hR)
   have HL9:Hid (L.length≤100):=by
    have h1:=oL dB k q1
    rw[←HL.o,List.length_map] at h1
    rw[Hid];omega
   have HW:=AQ (And.intro hO (And.intro hI hS))
   have HLTk:=AQ hlt
   clear hO hI hR hS
   go_wp2_with fail
   refine(HKC.o).mono ?_
   rintro e w5 ⟨x,X,HX,rfl,hx,hin,hnew,hR5,hS5⟩
   have HXs:Hid (X.size=6):=by rw[Hid,HX.o];rfl
   have hsz5:w.heap.size≤w5.heap.size:=Nat.le_trans HW.o.2.2.size hS5.size
   have hO5:=HW.o.1.save hS5 (fun g hg=>by have h1:=(HW.o.1.aQ hg).1;have h2:=HLT.o;exact⟨by omega,by omega⟩)
   have H5:=AQ (And.intro hx (And.intro hin (And.intro hnew (And.intro hR5 hS5))))
   have HO5:=AQ (And.intro hO5 hsz5)
   clear hx hin hnew hR5 hS5 hO5 hsz5 HKC
   go_wp2_with (first
    | ((with_reducible refine aP (o:=⟨some 19, .buildSlice _ _ _,_,_,_,_⟩) AA (lT fF (.tmp 18) (.agg X) (X) rfl AA AA HXs.o AP _) ?_))
    | ((with_reducible refine bn (o:=⟨some 20, .call _,_,_,_,_⟩) fF aT fZ (y:=x) (.tmp 16) (.tmp 19) AA AA HO5.o.1 HX.o (by have:=HL9.o;omega) HO5.o.2 AA AA ?_);intro a4 k4 w6 hO4 hg4 hn4;have HO4:=AQ (And.intro hO4 (And.intro hg4 hn4));clear hO4 hg4 hn4))
   have hB6:=HO5.o.1.grown HO4.o.2.1 HO5.o.2
   have hs6:Save (· <w.heap.size) w5 w6:=⟨hB6.os,hB6.tape,hB6.output,hB6.size,fun j _ hj=>hB6.block j hj⟩
   have HN:Hid ((L++ [x]).map bF.kC=(mY dB (k+1) q1).1):=by rw[Hid,List.map_append,HL.o,mY,←hq2.o,List.map_cons,List.map_nil,H5.o.1]
   have HIM:Hid (∀z∈L++ [x],Es w6 z∧∀g,Fz z g→w.heap.size≤g∧blk a4≠some g):=fun z hz=>by
    have hz5:Es w5 z∧∀g,Fz z g→w.heap.size≤g∧blk a≠some g:=by
     rcases List.mem_append.1 hz with hz |hz
     ·have hy:=HW.o.2.1 z hz
      exact⟨oO hy.1 H5.o.2.2.2.2 fun g hg=>by have h1:=(hy.2 g hg).1;have h2:=HLT.o;exact⟨by omega,by omega⟩,hy.2⟩
     ·obtain rfl:z=x:=by simpa using hz
      refine⟨H5.o.2.1,fun g hg=> ?_⟩
      have h1:=H5.o.2.2.1 g hg
      refine⟨Nat.le_trans HW.o.2.2.size h1,fun e=> ?_⟩
      have:=(HW.o.1.aQ e).2
      omega
    refine⟨oO hz5.1 (Save.grown HO4.o.2.1) fun g hg e=>(hz5.2 g hg).2 e.symm,fun g hg=>⟨(hz5.2 g hg).1,fun e=> ?_⟩⟩
    rcases HO4.o.2.2 g e with h1 |h1
    ·exact(hz5.2 g hg).2 h1
    ·have:=FM hz5.1 hg
     omega
   go_roundw
   case rel=>exact⟨k+1,a4,L++ [x],k4,by simp,by go_num,HLTk.o,HN.o,HO4.o.1,HIM.o,by rw[mY,←hq2.o];exact H5.o.2.2.2.1.save hs6 HLT.o.2.1 HLT.o.1 (fun g _ ht=>by have:=HLT.o;show g<w.heap.size;omega),iq (HW.o.2.2.trans H5.o.2.2.2.2) hB6⟩
   case measure=>have:=HLTk.o;simp[intOf];omega
  ·have hk2:k=n:=by omega
   have HF:=AQ (And.intro hO (And.intro hI (And.intro hR hS)))
   clear hO hI hR hS
   subst hk2
   go_wp2_with fail
   go_ret
   exact⟨a,c,L,rfl,HL.o,HF.o.1,HF.o.2.1,HF.o.2.2.1,HF.o.2.2.2⟩
open Go Go.RowKit Go.Cit
theorem EU (ρ:Operand→Value) (o:Oper) (w:World) (h:o.op= .buildSlice 29 0 #[]):(execOp ρ o).run Tryz.prog w= .ok (.value (.slice (some ⟨w.heap.size,0,none⟩) 0 0)) (w.alloc (.cells #[] 42)):=by
 unfold execOp;rw[h];kernel_rfl
theorem tZ (w:World) (a:Option Addr) (l:List aK) (c:Nat) (h:Vec bG 14 w a l c) (hl:l.length≤1000):
 Calls Tryz.prog 176 #[.slice a l.length c] w fun e w'=>∃a' c',e= .returned (.slice a' l.length c')∧aW bG 14 42 w.heap.size w' a' l c'∧Below w.heap.size w w':=by
 cases a with
 |
  none=>
  have h0:=h.nil rfl
  have h1:=h.le
  obtain rfl:l=[]:=List.eq_nil_of_length_eq_zero AL
  subst h0
  show Calls Tryz.prog 176 #[.slice none 0 0] w _
  have hq:=fun w:World=>Lib.run_eql_slice_nil (P:=Tryz.prog) w 29 42 none 0 0 0 0 Tryz.underlying29
  go_enter Tryz.func176,Tryz.ntmps176
  go_wp2_with fail
  go_ret
  exact⟨none,0,rfl,aW.nil_ _ _ _ _ _,Below.refl _ _⟩
 |
  some x=>
  have hq:=fun w:World=>Lib.run_eql_slice_nil (P:=Tryz.prog) w 29 42 (some x) l.length c 0 0 Tryz.underlying29
  have B0:Below w.heap.size w (w.alloc (.cells #[] 42)):=(Below.refl _ _).alloc (Nat.le_refl _) _
  have O0:=(oU w #[] 42 14 ([]:List aK) aH rfl AO)
  obtain⟨a',c',w',hr,ho,hb⟩:=sD dD aH gu 29 O0 (h.stay aH B0) AL B0.size
  have HR:=AQ hr
  have HO:=AQ (And.intro ho (B0.trans (hb.mono B0.size)))
  clear hr ho hb O0 B0 h
  go_enter Tryz.func176,Tryz.ntmps176
  go_wp2_with (first
   | ((with_reducible refine aP (o:=⟨some 5, .buildSlice _ _ _,_,_,_,_⟩) AA (EU _ _ _ rfl) ?_))
   | ((with_reducible refine aP (o:=⟨some 7, .call _,_,_,_,_⟩) AA (nR rfl AA AA HR.o) ?_)))
  go_ret
  exact⟨a',c',rfl,HO.o.1,HO.o.2⟩
theorem EM (ρ:Operand→Value) (o:Oper) (w:World) (h:o.op= .buildSlice 30 0 #[]):(execOp ρ o).run Tryz.prog w= .ok (.value (.slice (some ⟨w.heap.size,0,none⟩) 0 0)) (w.alloc (.cells #[] 51)):=by
 unfold execOp;rw[h];kernel_rfl
theorem sS (w:World) (a:Option Addr) (l:List bF) (c:Nat) (h:Vec bZ 6 w a l c) (hl:l.length≤1000):
 Calls Tryz.prog 177 #[.slice a l.length c] w fun e w'=>∃a' c',e= .returned (.slice a' l.length c')∧aW bZ 6 51 w.heap.size w' a' l c'∧Below w.heap.size w w':=by
 cases a with
 |
  none=>
  have h0:=h.nil rfl
  have h1:=h.le
  obtain rfl:l=[]:=List.eq_nil_of_length_eq_zero AL
  subst h0
  show Calls Tryz.prog 177 #[.slice none 0 0] w _
  have hq:=fun w:World=>Lib.run_eql_slice_nil (P:=Tryz.prog) w 30 51 none 0 0 0 0 Tryz.underlying30
  go_enter Tryz.func177,Tryz.ntmps177
  go_wp2_with fail
  go_ret
  exact⟨none,0,rfl,aW.nil_ _ _ _ _ _,Below.refl _ _⟩
 |
  some x=>
  have hq:=fun w:World=>Lib.run_eql_slice_nil (P:=Tryz.prog) w 30 51 (some x) l.length c 0 0 Tryz.underlying30
  have B0:Below w.heap.size w (w.alloc (.cells #[] 51)):=(Below.refl _ _).alloc (Nat.le_refl _) _
  have O0:=(oU w #[] 51 6 ([]:List bF) aT rfl AO)
  obtain⟨a',c',w',hr,ho,hb⟩:=sD fF aT fZ 30 O0 (h.stay aT B0) AL B0.size
  have HR:=AQ hr
  have HO:=AQ (And.intro ho (B0.trans (hb.mono B0.size)))
  clear hr ho hb O0 B0 h
  go_enter Tryz.func177,Tryz.ntmps177
  go_wp2_with (first
   | ((with_reducible refine aP (o:=⟨some 5, .buildSlice _ _ _,_,_,_,_⟩) AA (EM _ _ _ rfl) ?_))
   | ((with_reducible refine aP (o:=⟨some 7, .call _,_,_,_,_⟩) AA (nR rfl AA AA HR.o) ?_)))
  go_ret
  exact⟨a',c',rfl,HO.o.1,HO.o.2⟩
open Go Go.RowKit Go.Cit
structure Fl where
 what:Int
 x:UInt8
 n:Int
 is:Bool
 a:Option Addr
 l:List UInt8
 c:Nat
 t:List UInt8
def Fl.cs (f:Fl):List Value:=[.int .i64 f.what,vb f.x, .int .i64 f.n, .bool f.is, .slice f.a f.l.length f.c]++f.t.map vb
structure Fl.At (f:Fl) (w:World):Prop where
 row:Row w f.a f.l f.c
 t32:f.t.length=32
 hn: -9223372036854775808≤f.n∧f.n≤9223372036854775807
 hw: -9223372036854775808≤f.what∧f.what≤9223372036854775807
 lr:f.l.length≤140737488351232
theorem Fl.At.stay {f:Fl} {w w':World} (h:f.At w) (hb:Below w.heap.size w w'):f.At w':=⟨h.row.stay hb,h.t32,h.hn,h.hw,h.lr⟩
def Fl.bytes (f:Fl):List UInt8:=
 if f.what=0 then [f.x] else if f.what=1 then rowB (BI f.n) 8 else if f.what=2 then eH f.is else if f.what=3∨f.what=4 then jm f.l else if f.what=5 then f.t else []
end Go.Proofs.YtlholdllibghbaaGreat
namespace Go.Cit
open Go Go.RowKit
def xU (C:Array Value) (o:Nat) (D:List Value):Array Value:=(C.toList.take o++D++C.toList.drop (o+D.length)).toArray
section
variable {P:Program} {ops:Array Oper} {rest:List Oper} {o:Oper} {act:Act} {w w':World} {Q:Exit→Act→World→Prop}
theorem wQ {T E:TypeId} {b k n:Nat} {C D:Array Value} (hi:(P.info? T).map (·.size)=some n) (x y:Operand) {ρ:Operand→Value} (ho:o.op= .store T x y) (hx:ρ x= .pointer (some ⟨b,k,none⟩)) (hy:ρ y= .agg D) (hn:D.size=n) (hb:w.heap[b]? =some (.cells C E (0,0)))
 (hl:k+n≤C.size) (h1:D.all (·.oneCell')=true):(execOp ρ o).run P w= .ok .skip (w.setRow b (xU C k D.toList)):=by
 have hs:=run_storeCells_at (P:=P) b k E D.toList 0 C w hb (by simp;omega) (fun v hv=>(Array.all_eq_true_iff_forall_mem.1 h1) v (by simpa using hv))
 simp only[Nat.add_zero] at hs
 unfold execOp
 simp only[ho,hx,hy,Instr.storeAt,Instr.sureAddr,Sem.run_bind,Sem.run_pure,Result.andThen_ok]
 have:(storeVar T ⟨b,k,none⟩ (.agg D)).run P w= .ok () (w.setRow b (xU C k D.toList)):=by
  cases hq:P.info? T with
  | none=>simp[hq] at hi
  |
   some i=>
   have h2:D.size=i.size:=by simp[hq] at hi;omega
   simp[storeVar,sizeOf,typeInfo,hq,Value.cells,h2,hs,xU]
 rw[this]
 rfl
end
structure BH where
 ver:I64
 prev:List UInt8
 trial:I64
 cfg:aZ
 tag:List UInt8
def BH.cs (M:BH):List Value:=[.int .i64 M.ver.1]++(M.prev.map vb++([.int .i64 M.trial.1]++(Gn M.cfg++M.tag.map vb)))
structure BH.At (w:World) (M:BH):Prop where
 p32:M.prev.length=32
 t32:M.tag.length=32
 cfg:M.cfg.At w
theorem BH.At.stay {w w':World} {M:BH} (h:M.At w) (hb:Below w.heap.size w w'):M.At w':=⟨h.p32,h.t32,h.cfg.stay hb⟩
end Go.Cit
namespace Go.Proofs.YtlholdllibghbaaGreat
open Go Go.RowKit Go.Cit
end Go.Proofs.YtlholdllibghbaaGreat
