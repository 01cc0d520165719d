/- Texts of the proof, one behind the other: Parse2, Clone, Copy. No condition but those that each names. -/
import Derived.Test.YtlholdllibghbaaGreatParse1
import Derived.Test.YtlholdllibghbaaGreatG11
import Derived.Test.YtlholdllibghbaaGreatG15
import Derived.Test.YtlholdllibghbaaGreatKit
set_option maxRecDepth 100000
set_option maxHeartbeats 8000000
namespace Go.Proofs.YtlholdllibghbaaGreat
open Go Go.RowKit Go.Cit
theorem Fj {base top w b s} (h:dU base top w b s) (htop:top≤w.heap.size) (g:Nat) (hg:dJ w g b) (most:Int) (hm:0≤most∧most≤100):Calls Tryz.prog 133 #[.pointer (some ⟨b,0,none⟩), .int .i64 most, .func (.func 134) #[] #[.pointer (some ⟨g,0,none⟩)]] w fun e w'=>∃a c,e= .returned (.slice a (iF bW most s).1.length c)∧aS mY 2 77 w.heap.size w' a (iF bW most s).1 c∧dU base top w' b (iF bW most s).2∧Save (· ≠b) w w':=by
 have hgb:=hg.ne h
 have hglt:=hg.lt
 have hblt:=h.lt
 obtain⟨n,hn⟩:∃n:Nat,Hid ((s.count most).1=(n:Int)):=⟨(s.count most).1.toNat,by have:=(count_range s most hm.1).1;rw[Hid];omega⟩
 have hn9:n≤100:=by have:=(count_range s most hm.1).2;have:=hn.o;omega
 obtain⟨s1,hs1⟩:=AU ((s.count most).2)
 have hk:=nY h most
 rw[hn.o,←hs1.o] at hk
 have HK:=AQ hk
 have HG:=AQ hg
 have HRD:Hid (iF bW most s=bY bW n s1):=by rw[Hid,iF,hn.o,hs1.o];rfl
 rw[HRD.o]
 clear h hg hk
 go_enter Tryz.func133,Tryz.ntmps133
 go_wp2_with fail
 refine(HK.o).mono ?_
 rintro e w1 ⟨rfl,hR,hS⟩
 have HS1:=AQ (And.intro hR (And.intro (HG.o.save hS hgb) hS))
 clear hR hS HK
 go_wp2_with fail
 go_loopw [7,11] (fun v i wr=>∃(k:Nat) (a:Option Addr) (L:List qm) (c:Nat),v= .slice a L.length c∧i= .int .i64 (k:Int)∧k≤n∧Hid (L=(bY bW k s1).1)∧aS mY 2 77 w.heap.size wr a L c∧dU base top wr b (bY bW k s1).2∧dJ wr g b∧Save (· ≠b) w wr) (fun _ i _=>n-(intOf i).toNat)
 case atStart=>exact⟨0,none,[],0,rfl,rfl,Nat.zero_le _,rfl,aS.nil_ _ _ _ _ _,HS1.o.1,HS1.o.2.1,HS1.o.2.2⟩
 case round=>
  obtain⟨k,a,L,c,rfl,rfl,hk,HL,hO,hR,hgv,hS⟩:=hrel
  by_cases hlt:k<n
  ·obtain⟨s2,hs2⟩:=AU ((bY bW k s1).2)
   rw[←hs2.o] at hR
   have HKC:=AQ (LQ hR (Nat.le_trans htop hS.size) g hgv)
   have HL9:Hid (L.length≤100):=by
    have:=kM bW k s1
    have h2:=HL.o
    rw[Hid]
    rw[←h2] at this;omega
   have HW:=AQ (And.intro hO (And.intro hgv hS))
   clear hO hR hgv hS
   go_wp2_with fail
   refine(HKC.o).mono ?_
   rintro e w5 ⟨rfl,hR5,hS5⟩
   have hO5:=HW.o.1.save hS5 (fun g' hg'=>by have:=(HW.o.1.aK hg').1;omega)
   have HW5:=AQ (And.intro hO5 (And.intro hR5 (And.intro (HW.o.2.1.save hS5 hgb) (HW.o.2.2.trans hS5))))
   have hsz:w.heap.size≤w5.heap.size:=Nat.le_trans HW.o.2.2.size hS5.size
   clear hO5 hR5 hS5 HKC
   go_wp2_with (first
    | ((with_reducible refine aj (o:=⟨some 16, .buildSlice _ _ _,_,_,_,_⟩) AA (nV JR (.tmp 15) (.agg (#[.int .i64 (bW s2).1.len.1, .int .i64 (bW s2).1.part.1])) (#[.int .i64 (bW s2).1.len.1, .int .i64 (bW s2).1.part.1]) rfl AA AA AA AP _) ?_))
    | ((with_reducible refine dA (o:=⟨some 17, .call _,_,_,_,_⟩) JR dW vg (y:=(bW s2).1) (.tmp 13) (.tmp 16) AA AA HW5.o.1 AA (by have:=HL9.o;omega) hsz AA AA ?_);intro a4 k4 w6 hO4 hg4 hn4;have HO4:=AQ (And.intro hO4 (And.intro hg4 hn4));clear hO4 hg4 hn4))
   have hB6:=HW5.o.1.grown HO4.o.2.1 hsz
   have hs6:Save (· <w.heap.size) w5 w6:=⟨hB6.os,hB6.tape,hB6.output,hB6.size,fun j _ hj=>hB6.block j hj⟩
   have HN:Hid (L++ [(bW s2).1]=(bY bW (k+1) s1).1):=by rw[Hid,HL.o,bY,←hs2.o]
   go_roundw
   case rel=>exact⟨k+1,a4,L++ [(bW s2).1],k4,by simp,by go_num,by omega,HN.o,HO4.o.1,by rw[bY,←hs2.o];exact HW5.o.2.1.save hs6 hblt (fun g hg ht=>by omega),(hs6.block g (Array.getElem?_eq_some_iff.1 HW5.o.2.2.1).1 hglt).trans HW5.o.2.2.1,⟨hB6.os.trans HW5.o.2.2.2.os,hB6.tape.trans HW5.o.2.2.2.tape,hB6.output.trans HW5.o.2.2.2.output,Nat.le_trans HW5.o.2.2.2.size hB6.size,fun j hj hs=>(hB6.block j hj).trans (HW5.o.2.2.2.block j hj hs)⟩⟩
   case measure=>simp[intOf];omega
  ·have hk2:k=n:=by omega
   have HF:=AQ (And.intro hO (And.intro hR (And.intro hgv hS)))
   clear hO hR hgv hS
   subst hk2
   go_wp2_with fail
   go_ret
   exact⟨a,c,by rw[←HL.o];rfl,by rw[←HL.o];exact HF.o.1,HF.o.2.1,HF.o.2.2.2⟩
theorem FC {base top w b s} (h:dU base top w b s) (htop:top≤w.heap.size) (g:Nat) (hg:dJ w g b) (most:Int) (hm:0≤most∧most≤100):Calls Tryz.prog 135 #[.pointer (some ⟨b,0,none⟩), .int .i64 most, .func (.func 136) #[] #[.pointer (some ⟨g,0,none⟩)]] w fun e w'=>∃a c,∃L:List dL,e= .returned (.slice a L.length c)∧L.map dL.pt=(iF fC most s).1∧aS Bo 5 46 w.heap.size w' a L c∧(∀x∈L,Row w' x.a x.img x.c∧(x.img≠ []→∀g,blk x.a=some g→w.heap.size≤g∧blk a≠some g))∧dU base top w' b (iF fC most s).2∧Save (· ≠b) w w':=by
 have hgb:=hg.ne h
 have hglt:=hg.lt
 have hblt:=h.lt
 obtain⟨n,hn⟩:∃n:Nat,Hid ((s.count most).1=(n:Int)):=⟨(s.count most).1.toNat,by have:=(count_range s most hm.1).1;rw[Hid];omega⟩
 have hn9:n≤100:=by have:=(count_range s most hm.1).2;have:=hn.o;omega
 obtain⟨s1,hs1⟩:=AU ((s.count most).2)
 have hk:=nY h most
 rw[hn.o,←hs1.o] at hk
 have HK:=AQ hk
 have HG:=AQ hg
 have HRD:Hid (iF fC most s=bY fC n s1):=by rw[Hid,iF,hn.o,hs1.o];rfl
 rw[HRD.o]
 clear h hg hk
 go_enter Tryz.func135,Tryz.ntmps135
 go_wp2_with fail
 refine(HK.o).mono ?_
 rintro e w1 ⟨rfl,hR,hS⟩
 have HS1:=AQ (And.intro hR (And.intro (HG.o.save hS hgb) hS))
 clear hR hS HK
 go_wp2_with fail
 go_loopw [7,11] (fun v i wr=>∃(k:Nat) (a:Option Addr) (L:List dL) (c:Nat),v= .slice a L.length c∧i= .int .i64 (k:Int)∧k≤n∧Hid (L.map dL.pt=(bY fC k s1).1)∧aS Bo 5 46 w.heap.size wr a L c∧(∀x∈L,Row wr x.a x.img x.c∧(x.img≠ []→∀g,blk x.a=some g→w.heap.size≤g∧blk a≠some g))∧dU base top wr b (bY fC k s1).2∧dJ wr g b∧Save (· ≠b) w wr) (fun _ i _=>n-(intOf i).toNat)
 case atStart=>exact⟨0,none,[],0,rfl,rfl,Nat.zero_le _,rfl,aS.nil_ _ _ _ _ _,fun x hx=>by simp at hx,HS1.o.1,HS1.o.2.1,HS1.o.2.2⟩
 case round=>
  obtain⟨k,a,L,c,rfl,rfl,hk,HL,hO,hIm,hR,hgv,hS⟩:=hrel
  by_cases hlt:k<n
  ·obtain⟨s2,hs2⟩:=AU ((bY fC k s1).2)
   rw[←hs2.o] at hR
   have HKC:=AQ (KP hR (Nat.le_trans htop hS.size) g hgv)
   have HL9:Hid (L.length≤100):=by
    have:=kM fC k s1
    have h2:=HL.o
    rw[Hid]
    rw[←h2,List.length_map] at this;omega
   have HW:=AQ (And.intro hO (And.intro hgv hS))
   have HIM:=AQ hIm
   clear hO hR hgv hS hIm
   go_wp2_with fail
   refine(HKC.o).mono ?_
   rintro e w5 ⟨x,rfl,hx,hrow,hnew,hR5,hS5⟩
   have hO5:=HW.o.1.save hS5 (fun g' hg'=>by have:=(HW.o.1.aK hg').1;omega)
   have HW5:=AQ (And.intro hO5 (And.intro hR5 (And.intro (HW.o.2.1.save hS5 hgb) (HW.o.2.2.trans hS5))))
   have hsz:w.heap.size≤w5.heap.size:=Nat.le_trans HW.o.2.2.size hS5.size
   have HX:=AQ (And.intro hx (And.intro hrow (And.intro hnew hS5)))
   clear hx hrow hnew
   clear hO5 hR5 hS5 HKC
   go_wp2_with (first
    | ((with_reducible refine aj (o:=⟨some 16, .buildSlice _ _ _,_,_,_,_⟩) AA (nV Di (.tmp 15) (.agg (cA x)) (cA x) rfl AA AA AA AP _) ?_))
    | ((with_reducible refine dA (o:=⟨some 17, .call _,_,_,_,_⟩) Di dY yR (y:=x) (.tmp 13) (.tmp 16) AA AA HW5.o.1 AA (by have:=HL9.o;omega) hsz AA AA ?_);intro a4 k4 w6 hO4 hg4 hn4;have HO4:=AQ (And.intro hO4 (And.intro hg4 hn4));clear hO4 hg4 hn4))
   have hB6:=HW5.o.1.grown HO4.o.2.1 hsz
   have hs6:Save (· <w.heap.size) w5 w6:=⟨hB6.os,hB6.tape,hB6.output,hB6.size,fun j _ hj=>hB6.block j hj⟩
   have HN:Hid ((L++ [x]).map dL.pt=(bY fC (k+1) s1).1):=by rw[Hid,List.map_append,HL.o,bY,←hs2.o,List.map_cons,List.map_nil,HX.o.1]
   have HIM2:Hid (∀y∈L++ [x],Row w6 y.a y.img y.c∧(y.img≠ []→∀g,blk y.a=some g→w.heap.size≤g∧blk a4≠some g)):=fun y hy=>by
    have hrow5:Row w5 y.a y.img y.c∧(y.img≠ []→∀g,blk y.a=some g→w.heap.size≤g∧blk a≠some g):=by
     rcases List.mem_append.1 hy with hy |hy
     ·have hyy:=HIM.o y hy
      exact⟨hyy.1.save' HX.o.2.2.2 (fun h g' hg'=>by have:=(hyy.2 h g' hg').1;omega),hyy.2⟩
     ·obtain rfl:y=x:=by simpa using hy
      refine⟨HX.o.2.1,fun h g' hg'=> ?_⟩
      have h1:=HX.o.2.2.1 h g' hg'
      refine⟨Nat.le_trans HW.o.2.2.size h1,fun e=> ?_⟩
      have:=(HW.o.1.aK e).2
      omega
    refine⟨hrow5.1.save' (Save.grown HO4.o.2.1) (fun h g' hg' e=>(hrow5.2 h g' hg').2 e.symm),fun h g' hg'=>⟨(hrow5.2 h g' hg').1,fun e=> ?_⟩⟩
    rcases HO4.o.2.2 g' e with h1 |h1
    ·exact(hrow5.2 h g' hg').2 h1
    ·obtain⟨g2,off,e2⟩:=hrow5.1.spot h
     have h2:=hrow5.1.cell 0 (List.length_pos_iff.2 h)
     have h3:=World.block_lt_of_cell? w5 _ h2
     rw[e2] at hg' h3
     simp[blk] at hg'
     simp[ad] at h3
     omega
   go_roundw
   case rel=>exact⟨k+1,a4,L++ [x],k4,by simp,by go_num,by omega,HN.o,HO4.o.1,HIM2.o,by rw[bY,←hs2.o];exact HW5.o.2.1.save hs6 hblt (fun g hg ht=>by omega),(hs6.block g (Array.getElem?_eq_some_iff.1 HW5.o.2.2.1).1 hglt).trans HW5.o.2.2.1,⟨hB6.os.trans HW5.o.2.2.2.os,hB6.tape.trans HW5.o.2.2.2.tape,hB6.output.trans HW5.o.2.2.2.output,Nat.le_trans HW5.o.2.2.2.size hB6.size,fun j hj hs=>(hB6.block j hj).trans (HW5.o.2.2.2.block j hj hs)⟩⟩
   case measure=>simp[intOf];omega
  ·have hk2:k=n:=by omega
   have HF:=AQ (And.intro hO (And.intro hR (And.intro hgv hS)))
   have HIM:=AQ hIm
   clear hO hR hgv hS hIm
   subst hk2
   go_wp2_with fail
   go_ret
   exact⟨a,c,L,rfl,HL.o,HF.o.1,HIM.o,HF.o.2.1,HF.o.2.2.2⟩
theorem Ic {base top w b s} (h:dU base top w b s) (htop:top≤w.heap.size) (g:Nat) (hg:dJ w g b) (most:Int) (hm:0≤most∧most≤100):Calls Tryz.prog 138 #[.pointer (some ⟨b,0,none⟩), .int .i64 most, .func (.func 139) #[] #[.pointer (some ⟨g,0,none⟩)]] w fun e w'=>∃a c,e= .returned (.slice a (iF dN most s).1.length c)∧aS BO 5 48 w.heap.size w' a (iF dN most s).1 c∧dU base top w' b (iF dN most s).2∧Save (· ≠b) w w':=by
 have hgb:=hg.ne h
 have hglt:=hg.lt
 have hblt:=h.lt
 obtain⟨n,hn⟩:∃n:Nat,Hid ((s.count most).1=(n:Int)):=⟨(s.count most).1.toNat,by have:=(count_range s most hm.1).1;rw[Hid];omega⟩
 have hn9:n≤100:=by have:=(count_range s most hm.1).2;have:=hn.o;omega
 obtain⟨s1,hs1⟩:=AU ((s.count most).2)
 have hk:=nY h most
 rw[hn.o,←hs1.o] at hk
 have HK:=AQ hk
 have HG:=AQ hg
 have HRD:Hid (iF dN most s=bY dN n s1):=by rw[Hid,iF,hn.o,hs1.o];rfl
 rw[HRD.o]
 clear h hg hk
 go_enter Tryz.func138,Tryz.ntmps138
 go_wp2_with fail
 refine(HK.o).mono ?_
 rintro e w1 ⟨rfl,hR,hS⟩
 have HS1:=AQ (And.intro hR (And.intro (HG.o.save hS hgb) hS))
 clear hR hS HK
 go_wp2_with fail
 go_loopw [7,11] (fun v i wr=>∃(k:Nat) (a:Option Addr) (L:List Ch) (c:Nat),v= .slice a L.length c∧i= .int .i64 (k:Int)∧k≤n∧Hid (L=(bY dN k s1).1)∧aS BO 5 48 w.heap.size wr a L c∧dU base top wr b (bY dN k s1).2∧dJ wr g b∧Save (· ≠b) w wr) (fun _ i _=>n-(intOf i).toNat)
 case atStart=>exact⟨0,none,[],0,rfl,rfl,Nat.zero_le _,rfl,aS.nil_ _ _ _ _ _,HS1.o.1,HS1.o.2.1,HS1.o.2.2⟩
 case round=>
  obtain⟨k,a,L,c,rfl,rfl,hk,HL,hO,hR,hgv,hS⟩:=hrel
  by_cases hlt:k<n
  ·obtain⟨s2,hs2⟩:=AU ((bY dN k s1).2)
   rw[←hs2.o] at hR
   have HKC:=AQ (Lu hR (Nat.le_trans htop hS.size) g hgv)
   have HL9:Hid (L.length≤100):=by
    have:=kM dN k s1
    have h2:=HL.o
    rw[Hid]
    rw[←h2] at this;omega
   have HW:=AQ (And.intro hO (And.intro hgv hS))
   clear hO hR hgv hS
   go_wp2_with fail
   refine(HKC.o).mono ?_
   rintro e w5 ⟨rfl,hR5,hS5⟩
   have hO5:=HW.o.1.save hS5 (fun g' hg'=>by have:=(HW.o.1.aK hg').1;omega)
   have HW5:=AQ (And.intro hO5 (And.intro hR5 (And.intro (HW.o.2.1.save hS5 hgb) (HW.o.2.2.trans hS5))))
   have hsz:w.heap.size≤w5.heap.size:=Nat.le_trans HW.o.2.2.size hS5.size
   clear hO5 hR5 hS5 HKC
   go_wp2_with (first
    | ((with_reducible refine aj (o:=⟨some 16, .buildSlice _ _ _,_,_,_,_⟩) AA (nV Kv (.tmp 15) (.agg (Rx (dN s2).1)) (Rx (dN s2).1) rfl AA AA AA AP _) ?_))
    | ((with_reducible refine dA (o:=⟨some 17, .call _,_,_,_,_⟩) Kv gK yE (y:=(dN s2).1) (.tmp 13) (.tmp 16) AA AA HW5.o.1 AA (by have:=HL9.o;omega) hsz AA AA ?_);intro a4 k4 w6 hO4 hg4 hn4;have HO4:=AQ (And.intro hO4 (And.intro hg4 hn4));clear hO4 hg4 hn4))
   have hB6:=HW5.o.1.grown HO4.o.2.1 hsz
   have hs6:Save (· <w.heap.size) w5 w6:=⟨hB6.os,hB6.tape,hB6.output,hB6.size,fun j _ hj=>hB6.block j hj⟩
   have HN:Hid (L++ [(dN s2).1]=(bY dN (k+1) s1).1):=by rw[Hid,HL.o,bY,←hs2.o]
   go_roundw
   case rel=>exact⟨k+1,a4,L++ [(dN s2).1],k4,by simp,by go_num,by omega,HN.o,HO4.o.1,by rw[bY,←hs2.o];exact HW5.o.2.1.save hs6 hblt (fun g hg ht=>by omega),(hs6.block g (Array.getElem?_eq_some_iff.1 HW5.o.2.2.1).1 hglt).trans HW5.o.2.2.1,⟨hB6.os.trans HW5.o.2.2.2.os,hB6.tape.trans HW5.o.2.2.2.tape,hB6.output.trans HW5.o.2.2.2.output,Nat.le_trans HW5.o.2.2.2.size hB6.size,fun j hj hs=>(hB6.block j hj).trans (HW5.o.2.2.2.block j hj hs)⟩⟩
   case measure=>simp[intOf];omega
  ·have hk2:k=n:=by omega
   have HF:=AQ (And.intro hO (And.intro hR (And.intro hgv hS)))
   clear hO hR hgv hS
   subst hk2
   go_wp2_with fail
   go_ret
   exact⟨a,c,by rw[←HL.o];rfl,by rw[←HL.o];exact HF.o.1,HF.o.2.1,HF.o.2.2.2⟩
open Go Go.RowKit Go.Cit
theorem Oz (ρ:Operand→Value) (o:Oper) (w:World) (h:o.op= .buildSlice 23 0 #[]):(execOp ρ o).run Tryz.prog w= .ok (.value (.slice (some ⟨w.heap.size,0,none⟩) 0 0)) (w.alloc (.cells #[] 46)):=by
 unfold execOp;rw[h];kernel_rfl
theorem Ez (w:World) (a:Option Addr) (l:List qm) (c:Nat) (h:Vec mY 2 w a l c) (hl:l.length≤1000):
 Calls Tryz.prog 160 #[.slice a l.length c] w fun e w'=>∃a' c',e= .returned (.slice a' l.length c')∧aS mY 2 77 w.heap.size w' a' l c'∧Below w.heap.size w w':=by
 cases a with
 |
  none=>
  have h0:=h.nil rfl
  have h1:=h.le
  obtain rfl:l=[]:=List.eq_nil_of_length_eq_zero AL
  subst h0
  show Calls Tryz.prog 160 #[.slice none 0 0] w _
  have hq:=fun w:World=>Lib.run_eql_slice_nil (P:=Tryz.prog) w 22 77 none 0 0 0 0 Tryz.underlying22
  go_enter Tryz.func160,Tryz.ntmps160
  go_wp2_with fail
  go_ret
  exact⟨none,0,rfl,aS.nil_ _ _ _ _ _,Below.refl _ _⟩
 |
  some x=>
  have hq:=fun w:World=>Lib.run_eql_slice_nil (P:=Tryz.prog) w 22 77 (some x) l.length c 0 0 Tryz.underlying22
  have B0:Below w.heap.size w (w.alloc (.cells #[] 77)):=(Below.refl _ _).alloc (Nat.le_refl _) _
  have O0:=(jh w #[] 77 2 ([]:List qm) dW rfl AO)
  obtain⟨a',c',w',hr,ho,hb⟩:=mP JR dW vg 22 O0 (h.stay dW B0) AL B0.size
  have HR:=AQ hr
  have HO:=AQ (And.intro ho (B0.trans (hb.mono B0.size)))
  clear hr ho hb O0 B0 h
  go_enter Tryz.func160,Tryz.ntmps160
  go_wp2_with (first
   | ((with_reducible refine aj (o:=⟨some 5, .buildSlice _ _ _,_,_,_,_⟩) AA (J5 _ _ _ rfl) ?_))
   | ((with_reducible refine aj (o:=⟨some 7, .call _,_,_,_,_⟩) AA (jU rfl AA AA HR.o) ?_)))
  go_ret
  exact⟨a',c',rfl,HO.o.1,HO.o.2⟩
theorem Eu (w:World) (a:Option Addr) (l:List Ch) (c:Nat) (h:Vec BO 5 w a l c) (hl:l.length≤1000):
 Calls Tryz.prog 161 #[.slice a l.length c] w fun e w'=>∃a' c',e= .returned (.slice a' l.length c')∧aS BO 5 48 w.heap.size w' a' l c'∧Below w.heap.size w w':=by
 cases a with
 |
  none=>
  have h0:=h.nil rfl
  have h1:=h.le
  obtain rfl:l=[]:=List.eq_nil_of_length_eq_zero AL
  subst h0
  show Calls Tryz.prog 161 #[.slice none 0 0] w _
  have hq:=fun w:World=>Lib.run_eql_slice_nil (P:=Tryz.prog) w 24 48 none 0 0 0 0 Tryz.underlying24
  go_enter Tryz.func161,Tryz.ntmps161
  go_wp2_with fail
  go_ret
  exact⟨none,0,rfl,aS.nil_ _ _ _ _ _,Below.refl _ _⟩
 |
  some x=>
  have hq:=fun w:World=>Lib.run_eql_slice_nil (P:=Tryz.prog) w 24 48 (some x) l.length c 0 0 Tryz.underlying24
  have B0:Below w.heap.size w (w.alloc (.cells #[] 48)):=(Below.refl _ _).alloc (Nat.le_refl _) _
  have O0:=(jh w #[] 48 5 ([]:List Ch) gK rfl AO)
  obtain⟨a',c',w',hr,ho,hb⟩:=mP Kv gK yE 24 O0 (h.stay gK B0) AL B0.size
  have HR:=AQ hr
  have HO:=AQ (And.intro ho (B0.trans (hb.mono B0.size)))
  clear hr ho hb O0 B0 h
  go_enter Tryz.func161,Tryz.ntmps161
  go_wp2_with (first
   | ((with_reducible refine aj (o:=⟨some 5, .buildSlice _ _ _,_,_,_,_⟩) AA (FT _ _ _ rfl) ?_))
   | ((with_reducible refine aj (o:=⟨some 7, .call _,_,_,_,_⟩) AA (jU rfl AA AA HR.o) ?_)))
  go_ret
  exact⟨a',c',rfl,HO.o.1,HO.o.2⟩
theorem D7 (w:World) (a:Option Addr) (l:List dL) (c:Nat) (h:Vec Bo 5 w a l c) (hl:l.length≤1000):
 Calls Tryz.prog 162 #[.slice a l.length c] w fun e w'=>∃a' c',e= .returned (.slice a' l.length c')∧aS Bo 5 46 w.heap.size w' a' l c'∧Below w.heap.size w w':=by
 cases a with
 |
  none=>
  have h0:=h.nil rfl
  have h1:=h.le
  obtain rfl:l=[]:=List.eq_nil_of_length_eq_zero AL
  subst h0
  show Calls Tryz.prog 162 #[.slice none 0 0] w _
  have hq:=fun w:World=>Lib.run_eql_slice_nil (P:=Tryz.prog) w 23 46 none 0 0 0 0 Tryz.underlying23
  go_enter Tryz.func162,Tryz.ntmps162
  go_wp2_with fail
  go_ret
  exact⟨none,0,rfl,aS.nil_ _ _ _ _ _,Below.refl _ _⟩
 |
  some x=>
  have hq:=fun w:World=>Lib.run_eql_slice_nil (P:=Tryz.prog) w 23 46 (some x) l.length c 0 0 Tryz.underlying23
  have B0:Below w.heap.size w (w.alloc (.cells #[] 46)):=(Below.refl _ _).alloc (Nat.le_refl _) _
  have O0:=(jh w #[] 46 5 ([]:List dL) dY rfl AO)
  obtain⟨a',c',w',hr,ho,hb⟩:=mP Di dY yR 23 O0 (h.stay dY B0) AL B0.size
  have HR:=AQ hr
  have HO:=AQ (And.intro ho (B0.trans (hb.mono B0.size)))
  clear hr ho hb O0 B0 h
  go_enter Tryz.func162,Tryz.ntmps162
  go_wp2_with (first
   | ((with_reducible refine aj (o:=⟨some 5, .buildSlice _ _ _,_,_,_,_⟩) AA (Oz _ _ _ rfl) ?_))
   | ((with_reducible refine aj (o:=⟨some 7, .call _,_,_,_,_⟩) AA (jU rfl AA AA HR.o) ?_)))
  go_ret
  exact⟨a',c',rfl,HO.o.1,HO.o.2⟩
open Go Go.RowKit Go.Cit
def Ue (B g k:Nat) (L:List dL) (pc:Nat) (x:dL) (N:Nat):Nat→Value→World→Prop
 | 22,v,_=>v= .pointer (some ⟨B,1,none⟩)
 | 23,v,_=>v= .slice (some ⟨g,0,none⟩) L.length pc
 | 24,v,_=>v= .int .i64 (k:Int)
 | 25,v,_=>v= .pointer (some ⟨B,1,none⟩)
 | 26,v,_=>v= .slice (some ⟨g,0,none⟩) L.length pc
 | 27,v,_=>v= .int .i64 (k:Int)
 | 28,v,_=>v= .pointer (some ⟨g,k*5,none⟩)
 | 29,v,_=>v= .pointer (some ⟨g,k*5+4,none⟩)
 | 30,v,_=>v= .slice x.a x.img.length x.c
 | 31,v,w=>∃a c,v= .slice a x.img.length c∧Cit.Own 5 N w a x.img c
 | 32,v,_=>v= .pointer (some ⟨g,k*5,none⟩)
 | 33,v,_=>v= .pointer (some ⟨g,k*5+4,none⟩)
 | _,_,_=>True
def SY (W:World) (g k:Nat) (L:List dL) (pc:Nat) (x:dL) (N:Nat) (wx:World):Prop:=∃a c,Held Bo 5 46 wx g (L.set k ⟨x.id,x.reg,x.keep,a,x.img,c⟩) pc∧Cit.Own 5 N wx a x.img c∧Save (· ≠g) W wx
def Vt (W:World) (g k:Nat) (L:List dL) (pc:Nat) (x:dL) (N:Nat) (δ:Nat→Bool) (wx:World):Prop:=(δ 12=false→Below W.heap.size W wx)∧(δ 12=true→SY W g k L pc x N wx)
def Vf (g i:Nat) (wx w':World):Prop:=(i≠12∧Below wx.heap.size wx w')∨(i=12∧Save (· ≠g) wx w'∧∃cs,wx.heap[g]? =some (.cells cs 46 (0,0)))
theorem OJ {B g k:Nat} {L:List dL} {pc:Nat} {x:dL} {N d i:Nat} {v:Value} {wx w':World} (hG:Vf g i wx w') (h:Ue B g k L pc x N d v wx):Ue B g k L pc x N d v w':=by
 unfold Ue at *
 split at h
 all_goals first
  | exact h
  | (
   obtain⟨a,c,e,h⟩:=h
   refine⟨a,c,e, ?_⟩
   rcases hG with⟨_,hb⟩ |⟨_,hs,cs,hg⟩
   ·exact h.stay hb
   ·exact h.save hs (fun j hj=>mF h hg Ll j hj))
  | trivial
structure bV (B:Nat) (w:World) (V:aO):Prop where
 win:Vec mY 2 w V.wa V.ws V.wc
 pts:Vec Bo 5 w V.pa V.ps V.pc
 kL:Vec BO 5 w V.ca V.cs V.cc
 wb:∀g,blk V.wa=some g→B≤g∧∃cs,w.heap[g]? =some (.cells cs 77 (0,0))
 pb:∀g,blk V.pa=some g→B≤g∧∃cs,w.heap[g]? =some (.cells cs 46 (0,0))
 cb:∀g,blk V.ca=some g→B≤g∧∃cs,w.heap[g]? =some (.cells cs 48 (0,0))
 img:∀x∈V.ps,Cit.Own 5 B w x.a x.img x.c
theorem bV.at {B:Nat} {w:World} {V:aO} (h:bV B w V):V.At w:=⟨h.win,h.pts,h.kL,fun x hx=>(h.img x hx).isRow⟩
theorem fD.fresh {B:Nat} {w:World} {V:aO} (h:fD B w V):bV B w V:=
 ⟨h.at.win,h.at.pts,h.at.kL,fun _ hg=>⟨(h.win.aK hg).1,dV h.win hg⟩,fun _ hg=>⟨(h.pts.aK hg).1,dV h.pts hg⟩,fun _ hg=>⟨(h.kL.aK hg).1,dV h.kL hg⟩,h.img⟩
theorem bV.stay {B:Nat} {w w':World} {V:aO} (h:bV B w V) (hb:Below w.heap.size w w'):bV B w' V:=
 ⟨h.win.stay dW hb,h.pts.stay dY hb,h.kL.stay gK hb,fun g hg=>⟨(h.wb g hg).1,let⟨cs,hc⟩:=(h.wb g hg).2;⟨cs,aG hc hb⟩⟩,fun g hg=>⟨(h.pb g hg).1,let⟨cs,hc⟩:=(h.pb g hg).2;⟨cs,aG hc hb⟩⟩,fun g hg=>⟨(h.cb g hg).1,let⟨cs,hc⟩:=(h.cb g hg).2;⟨cs,aG hc hb⟩⟩,fun x hx=>(h.img x hx).stay hb⟩
theorem bV.low {B B':Nat} {w:World} {V:aO} (h:bV B w V) (hb:B'≤B):bV B' w V:=
 ⟨h.win,h.pts,h.kL,fun g hg=>⟨Nat.le_trans hb (h.wb g hg).1,(h.wb g hg).2⟩,fun g hg=>⟨Nat.le_trans hb (h.pb g hg).1,(h.pb g hg).2⟩,fun g hg=>⟨Nat.le_trans hb (h.cb g hg).1,(h.cb g hg).2⟩,fun x hx=>(h.img x hx).low hb⟩
theorem Ld {V:aO} {L:List dL} {k:Nat} (h:L.map dL.pt=V.ps.map dL.pt) (hk:k<L.length) (a:Option Addr) (c:Nat):(L.set k ⟨L[k].id,L[k].reg,L[k].keep,a,L[k].img,c⟩).map dL.pt=V.ps.map dL.pt:=by
 rw[Qy dL.pt L k ⟨L[k].id,L[k].reg,L[k].keep,a,L[k].img,c⟩ hk rfl,h]
theorem xY (w:World) (V:aO) (h:V.At w) (hs:cu V):Calls Tryz.prog 79 #[.agg #[.slice V.wa V.ws.length V.wc, .slice V.pa V.ps.length V.pc, .slice V.ca V.cs.length V.cc]] w fun e w'=>∃U:aO,e= .returned (.agg #[.slice U.wa U.ws.length U.wc, .slice U.pa U.ps.length U.pc, .slice U.ca U.cs.length U.cc])∧U.cfg=V.cfg∧bV w.heap.size w' U∧Below w.heap.size w w':=by
 obtain⟨B,hB⟩:=AV (w.heap.size)
 obtain⟨w0,hw0⟩:=AV ((w.alloc (.cells #[.slice V.wa V.ws.length V.wc, .slice V.pa V.ps.length V.pc, .slice V.ca V.cs.length V.cc] 26)).alloc (.cells #[.slice none 0 0, .slice none 0 0, .slice none 0 0] 26))
 have B0:Below w.heap.size w w0:=by rw[hw0];exact((Below.refl _ w).alloc (Nat.le_refl _) _).alloc AO _
 have hx1:w0.heap[B]? =some (.cells #[.slice V.wa V.ws.length V.wc, .slice V.pa V.ps.length V.pc, .slice V.ca V.cs.length V.cc] 26 (0,0)):=by rw[hw0,hB];exact(Below.heap_alloc _ _ _ AO).trans (heap_alloc_new w _)
 have hx2:w0.heap[B+1]? =some (.cells #[.slice none 0 0, .slice none 0 0, .slice none 0 0] 26 (0,0)):=by
  have:=heap_alloc_new (w.alloc (.cells #[.slice V.wa V.ws.length V.wc, .slice V.pa V.ps.length V.pc, .slice V.ca V.cs.length V.cc] 26)) (.cells #[.slice none 0 0, .slice none 0 0, .slice none 0 0] 26)
  rw[World.size_alloc] at this
  rw[hw0,hB];exact this
 have HV:=AQ (h.stay B0)
 have HVW:=AQ h
 have H0:=AQ (And.intro hx1 (And.intro hx2 B0))
 have HK:=AQ (Ez w0 V.wa V.ws V.wc HV.o.win (Nat.le_trans hs.win AP))
 have hl2:=h.pts.bK
 have c0:=au hx1 0 rfl
 clear h hx1 hx2 B0
 go_enter Tryz.func79,Tryz.ntmps79
 go_upto_region 1 with fail
 rw[←hw0,←hB]
 have HBB:=AQ hB
 clear hw0 hB
 go_wp2_with fail
 refine(HK.o).mono ?_
 rintro e w1 ⟨a1,k1,rfl,hO1,hb1⟩
 have hx1:=aG H0.o.1 hb1
 have c0:=au hx1 0 rfl
 have f0:=bD hx1 0
 obtain⟨x1,hx⟩:=AV (w1.setCell ⟨B,0,none⟩ (.slice a1 V.ws.length k1))
 have s1:Save (· ≠B) w1 x1:=by rw[hx];exact Save.set
 have hq1:x1.heap[B]? =some (.cells #[.slice a1 V.ws.length k1, .slice V.pa V.ps.length V.pc, .slice V.ca V.cs.length V.cc] 26 (0,0)):=by rw[hx];exact aX _ hx1
 have hr1:x1.heap[B+1]? =_:=(s1.block (B+1) (Array.getElem?_eq_some_iff.1 (aG H0.o.2.1 hb1)).1 AL).trans (aG H0.o.2.1 hb1)
 have o1:=hO1.save s1 (fun g hg=>cO hO1 hx1 Kr g hg)
 have t1:Save (· ≠B) w0 x1:=(Save.of hb1).trans s1
 have H1:=AQ (And.intro o1 (And.intro hq1 (And.intro hr1 t1)))
 clear hO1 hb1 hx1 HK s1 hq1 hr1 o1 t1
 go_upto_region 2 with fail
 rw[←hx]
 clear hx c0 f0
 have HVN:Hid (∀ {wx:World},Save (· ≠B) w0 wx→V.At wx):=fun {wx} hsv=>HVW.o.stay (H0.o.2.2.trans (hsv.below H0.o.2.2.size (fun k hk=>by have:=HBB.o;omega)))
 have HBN:Hid (∀ {wx:World},Save (· ≠B) w0 wx→w.heap.size≤wx.heap.size):=fun {wx} hsv=>Nat.le_trans H0.o.2.2.size hsv.size
 have c2:=au H1.o.2.1 2 rfl
 have HK:=AQ (Eu x1 V.ca V.cs V.cc (HVN.o H1.o.2.2.2).kL (Nat.le_trans hs.kL AP))
 go_wp2_with fail
 refine(HK.o).mono ?_
 rintro e w2 ⟨a2,k2,rfl,hO2,hb2⟩
 have hx1:=aG H1.o.2.1 hb2
 have c2:=au hx1 2 rfl
 have f2:=bD hx1 2
 obtain⟨x2,hx⟩:=AV (w2.setCell ⟨B,2,none⟩ (.slice a2 V.cs.length k2))
 have s1:Save (· ≠B) w2 x2:=by rw[hx];exact Save.set
 have hq1:x2.heap[B]? =some (.cells #[.slice a1 V.ws.length k1, .slice V.pa V.ps.length V.pc, .slice a2 V.cs.length k2] 26 (0,0)):=by rw[hx];exact aX _ hx1
 have hr1:x2.heap[B+1]? =_:=(s1.block (B+1) (Array.getElem?_eq_some_iff.1 (aG H1.o.2.2.1 hb2)).1 AL).trans (aG H1.o.2.2.1 hb2)
 have o0:=H1.o.1.stay hb2
 have o1:=o0.save s1 (fun g hg=>cO o0 hx1 Kr g hg)
 have o2:=(hO2.low (HBN.o H1.o.2.2.2)).save s1 (fun g hg=>cO hO2 hx1 Nh g hg)
 have t1:Save (· ≠B) w0 x2:=H1.o.2.2.2.trans ((Save.of hb2).trans s1)
 have H2:=AQ (And.intro (o1.low H0.o.2.2.size) (And.intro o2 (And.intro hq1 (And.intro hr1 t1))))
 clear hO2 hb2 hx1 HK s1 hq1 hr1 o0 o1 o2 t1
 go_upto_region 3 with fail
 rw[←hx]
 clear hx c2 f2
 have c1:=au H2.o.2.2.1 1 rfl
 have HK:=AQ (D7 x2 V.pa V.ps V.pc (HVN.o H2.o.2.2.2.2).pts (Nat.le_trans hs.pts AP))
 go_wp2_with fail
 refine(HK.o).mono ?_
 rintro e w3 ⟨a3,k3,rfl,hO3,hb3⟩
 have hx1:=aG H2.o.2.2.1 hb3
 have c1:=au hx1 1 rfl
 have f1:=bD hx1 1
 obtain⟨x3,hx⟩:=AV (w3.setCell ⟨B,1,none⟩ (.slice a3 V.ps.length k3))
 have s1:Save (· ≠B) w3 x3:=by rw[hx];exact Save.set
 have hq1:x3.heap[B]? =some (.cells #[.slice a1 V.ws.length k1, .slice a3 V.ps.length k3, .slice a2 V.cs.length k2] 26 (0,0)):=by rw[hx];exact aX _ hx1
 have hr1:x3.heap[B+1]? =_:=(s1.block (B+1) (Array.getElem?_eq_some_iff.1 (aG H2.o.2.2.2.1 hb3)).1 AL).trans (aG H2.o.2.2.2.1 hb3)
 have o0:=H2.o.1.stay hb3
 have o1:=o0.save s1 (fun g hg=>cO o0 hx1 Kr g hg)
 have o9:=H2.o.2.1.stay hb3
 have o2:=o9.save s1 (fun g hg=>cO o9 hx1 Nh g hg)
 have o3:=(hO3.low (HBN.o H2.o.2.2.2.2)).save s1 (fun g hg=>cO hO3 hx1 QD g hg)
 have hgt:V.ps≠ []→∀g,blk a3=some g→x2.heap.size≤g:=fun _ g hg=>(hO3.aK hg).1
 have t1:Save (· ≠B) w0 x3:=H2.o.2.2.2.2.trans ((Save.of hb3).trans s1)
 have H3:=AQ (And.intro o1 (And.intro o2 (And.intro o3 (And.intro hq1 (And.intro hr1 t1)))))
 clear hO3 hb3 hx1 HK s1 hq1 hr1 o0 o1 o2 o3 o9 t1
 go_upto_region 4 with fail
 rw[←hx]
 clear hx c1 f1 H1 H2
 have c1:=au H3.o.2.2.2.1 1 rfl
 by_cases h0:V.ps=[]
 ·have h00:V.ps.length=0:=by rw[h0];rfl
  have o3:=H3.o.2.2.1
  rw[h0] at o3
  have HO3:=AQ o3
  have HXR:=AQ H3.o.2.2.2.2.1
  have hxB:=H3.o.2.2.2.1
  rw[h00] at hxB c1
  have c0:=au hxB 0 rfl
  have c2:=au hxB 2 rfl
  have HBE:Hid (Below w.heap.size w x3):=H0.o.2.2.trans (H3.o.2.2.2.2.2.below H0.o.2.2.size (fun k hk=>by have:=HBB.o;omega))
  rw[h00]
  clear hxB o3
  go_wp2_with fail
  go_loopw [19] (fun i wr=>i= .int .i64 0∧wr=x3) (fun i _=>0)
  case atStart=>exact⟨rfl,rfl⟩
  case round=>
   obtain⟨rfl,rfl⟩:=hrel
   go_wp2_with ((with_reducible refine ay (o:=⟨none, .store _ (.tmp 2) _,_,_,_,_⟩) iW (.tmp 2) (.tmp 35) AA AA AA AA AA HXR.o AA AA AA ?_);intro w9 hg9 hs9)
   have ow9:=H3.o.1.save hs9 (fun j hj=>cO H3.o.1 HXR.o Kr j hj)
   have oc9:=H3.o.2.1.save hs9 (fun j hj=>cO H3.o.2.1 HXR.o Nh j hj)
   have op9:=HO3.o.save hs9 (fun j hj=>cO HO3.o HXR.o QD j hj)
   refine bodyPost_ret (ig iW rfl (by rfl) hg9 rfl) rfl ⟨⟨a1,V.ws,k1,a3,[],k3,a2,V.cs,k2⟩,rfl, ?_,⟨ow9.vec dW,op9.vec dY,oc9.vec gK,fun j hj=>⟨(ow9.aK hj).1,dV ow9 hj⟩,fun j hj=>⟨(op9.aK hj).1,dV op9 hj⟩,fun j hj=>⟨(oc9.aK hj).1,dV oc9 hj⟩,fun x hx=>by simp at hx⟩,HBE.o.trans (hs9.below HBE.o.size (fun j hj=>by have:=HBB.o;omega))⟩
   simp[aO.cfg,h0]
 ·obtain⟨g,ha3,hgB,hg3⟩:=O6 H3.o.2.2.1 h0
  have hgne:g≠B:=fun e=>by
   obtain⟨C,hC⟩:=dV H3.o.2.2.1 (g:=g) (by rw[ha3];rfl)
   rw[e,H3.o.2.2.2.1] at hC;simp at hC
  have hgne2:g≠B+1:=fun e=>by
   obtain⟨C,hC⟩:=dV H3.o.2.2.1 (g:=g) (by rw[ha3];rfl)
   rw[e,H3.o.2.2.2.2.1] at hC;simp at hC
  subst ha3
  have HH3:Hid (Held Bo 5 46 x3 g V.ps k3):=H3.o.2.2.1.held dY
  have HGG:=AQ (And.intro hgB (And.intro hgne hgne2))
  have HBX:Hid (∀ {wx:World},Save (· ≠g) x3 wx→Below w.heap.size w wx):=fun {wx} hsv=>(H0.o.2.2.trans (H3.o.2.2.2.2.2.below H0.o.2.2.size (fun k hk=>by have:=HBB.o;omega))).trans (hsv.below (HBN.o H3.o.2.2.2.2.2) (fun k hk=>by omega))
  clear hgB hgne hgne2
  go_wp2_with fail
  go_loopw [19] (fun i wr=>∃(k:Nat) (L:List dL),i= .int .i64 (k:Int)∧k≤V.ps.length∧L.length=V.ps.length∧Hid (L.map dL.pt=V.ps.map dL.pt)∧Hid (∀j (hj:j<L.length),j<k→Cit.Own 5 w.heap.size wr L[j].a L[j].img L[j].c)∧Hid (∀j (hj:j<L.length) (hv:j<V.ps.length),k≤j→L[j]=V.ps[j])∧Held Bo 5 46 wr g L k3∧Save (· ≠g) x3 wr) (fun i _=>V.ps.length-(intOf i).toNat)
  case atStart=>exact⟨0,V.ps,rfl,Nat.zero_le _,rfl,rfl,fun j hj h=>by omega,fun j hj hv h=>rfl,HH3.o,Save.refl _ _⟩
  case round=>
   obtain⟨k,L,rfl,hk,hLl,HLM,HLO,HLV,hH,hS⟩:=hrel
   have HLH:=AQ (And.intro hH hS)
   have c1:wr.cell? ⟨B,1,none⟩=some (.slice (some ⟨g,0,none⟩) L.length k3):=by
    rw[hLl]
    exact(hS.cell (p:=⟨B,1,none⟩) (Array.getElem?_eq_some_iff.1 H3.o.2.2.2.1).1 (by have:=HGG.o.2.1;show B≠g;omega)).trans (au H3.o.2.2.2.1 1 rfl)
   by_cases hlt:k<V.ps.length
   ·have hltL:k<L.length:=by rw[hLl];exact hlt
    have i0:∀w,(Instr.indexAt 23 (.slice (some ⟨g,0,none⟩) L.length k3) (.int .i64 (k:Int))).run Tryz.prog w= .ok (.pointer (some ⟨g,k*5,none⟩)) w:=by
     have:=hH.vec.index Di k hltL
     rwa[rP] at this
    obtain⟨x,hx⟩:∃x,Hid (x=L[k]):=⟨L[k],rfl⟩
    have HXE:=hx
    have u4:wr.cell? ⟨g,k*5+4,none⟩=some (.slice x.a x.img.length x.c):=by
     have:=(dh hH.vec (Below.refl _ wr) k hltL).2.2.2.2
     rw[←hx.o] at this
     rw[rP] at this
     exact this
    have HXR:Hid (Row wr x.a x.img x.c∧x.img.length≤1000000000):=by
     have e:x=V.ps[k]:=by rw[hx.o];exact HLV.o k hltL hlt (Nat.le_refl _)
     have hm:x∈V.ps:=by rw[e];exact List.getElem_mem hlt
     exact⟨(HVW.o.img x hm).stay (HBX.o hS),Nat.le_trans (hs.img x hm) AP⟩
    have HNR:Hid (w.heap.size≤wr.heap.size):=(HBX.o hS).size
    clear hH hS
    go_upto_region 7 with fail
    refine jv (Vt wr g k L k3 x w.heap.size) (Vf g) (Ue B g k L k3 x w.heap.size) AB AB (fun w' hb hh=>⟨fun _=>hb,fun h=>absurd h AO⟩) ?_ ?_ ?_
    ·intro δ i j o v wx w' ho hij hcl hj hi hc hG hT
     rcases hd:o.dst with _ |d
     ·exact eU hd _ _
     ·rw[fZ hd] at hT ⊢
      exact OJ hG hT
    ·repeat' (first |exact aU |refine aI ?_ ?_)
     all_goals intro δ wa wx hk
     ·have hy:=hk.closed.yet 14 12 0 AB hk.yet
      have hb:=hk.inv.1 hy
      exact⟨ah rfl,bF (.tmp 1) rfl (hk.o 1) (v:= .pointer (some ⟨B,1,none⟩)) (fun w=>AB) ⟨.inl ⟨by decide,Below.refl _ _⟩,⟨fun _=>hb,fun h=>absurd h (by rw[aA _ AP,hy];decide)⟩,rfl⟩⟩
     ·have hy:=hk.closed.yet 14 12 1 AB hk.yet
      have hb:=hk.inv.1 hy
      exact⟨ah rfl,bg (.tmp 22) rfl (hk.s 22) (v:= .slice (some ⟨g,0,none⟩) L.length k3) (bM (fun w=>AB) (keep hb c1)) ⟨.inl ⟨by decide,Below.refl _ _⟩,⟨fun _=>hb,fun h=>absurd h (by rw[aA _ AP,hy];decide)⟩,rfl⟩⟩
     ·have hy:=hk.closed.yet 14 12 2 AB hk.yet
      have hb:=hk.inv.1 hy
      exact⟨ah rfl,eH (.tmp 3) rfl ⟨.inl ⟨by decide,Below.refl _ _⟩,⟨fun _=>hb,fun h=>absurd h (by rw[aA _ AP,hy];decide)⟩,hk.o 3⟩⟩
     ·have hy:=hk.closed.yet 14 12 3 AB hk.yet
      have hb:=hk.inv.1 hy
      exact⟨ah rfl,bF (.tmp 1) rfl (hk.o 1) (v:= .pointer (some ⟨B,1,none⟩)) (fun w=>AB) ⟨.inl ⟨by decide,Below.refl _ _⟩,⟨fun _=>hb,fun h=>absurd h (by rw[aA _ AP,hy];decide)⟩,rfl⟩⟩
     ·have hy:=hk.closed.yet 14 12 4 AB hk.yet
      have hb:=hk.inv.1 hy
      exact⟨ah rfl,bg (.tmp 25) rfl (hk.s 25) (v:= .slice (some ⟨g,0,none⟩) L.length k3) (bM (fun w=>AB) (keep hb c1)) ⟨.inl ⟨by decide,Below.refl _ _⟩,⟨fun _=>hb,fun h=>absurd h (by rw[aA _ AP,hy];decide)⟩,rfl⟩⟩
     ·have hy:=hk.closed.yet 14 12 5 AB hk.yet
      have hb:=hk.inv.1 hy
      exact⟨ah rfl,eH (.tmp 3) rfl ⟨.inl ⟨by decide,Below.refl _ _⟩,⟨fun _=>hb,fun h=>absurd h (by rw[aA _ AP,hy];decide)⟩,hk.o 3⟩⟩
     ·have hy:=hk.closed.yet 14 12 6 AB hk.yet
      have hb:=hk.inv.1 hy
      exact⟨ah rfl,FV (.tmp 26) (.tmp 27) rfl (hk.s 26) (hk.s 27) (v:= .pointer (some ⟨g,k*5,none⟩)) (i0 wx) ⟨.inl ⟨by decide,Below.refl _ _⟩,⟨fun _=>hb,fun h=>absurd h (by rw[aA _ AP,hy];decide)⟩,rfl⟩⟩
     ·have hy:=hk.closed.yet 14 12 7 AB hk.yet
      have hb:=hk.inv.1 hy
      exact⟨ah rfl,bF (.tmp 28) rfl (hk.s 28) (v:= .pointer (some ⟨g,k*5+4,none⟩)) (fun w=>AB) ⟨.inl ⟨by decide,Below.refl _ _⟩,⟨fun _=>hb,fun h=>absurd h (by rw[aA _ AP,hy];decide)⟩,rfl⟩⟩
     ·have hy:=hk.closed.yet 14 12 8 AB hk.yet
      have hb:=hk.inv.1 hy
      exact⟨ah rfl,bg (.tmp 29) rfl (hk.s 29) (v:= .slice x.a x.img.length x.c) (bM (fun w=>AB) (keep hb u4)) ⟨.inl ⟨by decide,Below.refl _ _⟩,⟨fun _=>hb,fun h=>absurd h (by rw[aA _ AP,hy];decide)⟩,rfl⟩⟩
     ·have hy:=hk.closed.yet 14 12 9 AB hk.yet
      have hb:=hk.inv.1 hy
      refine⟨ah rfl,bJ rfl (hk.fn _) #[.slice x.a x.img.length x.c] (fun w=>AB) (by simp only[List.map_toArray,List.map_cons,List.map_nil,show wa.eval (.tmp 30)=_ from hk.s 30]) ((vK wx x.a x.img x.c (HXR.o.1.stay hb) HXR.o.2).mono ?_)⟩
      rintro e w9 ⟨a9,c9,he,ho,hb9⟩
      exact⟨_,he, .inl ⟨by decide,hb9⟩,⟨fun _=>hb.trans (hb9.mono hb.size),fun h=>absurd h (by rw[aA _ AP,hy];decide)⟩,a9,c9,rfl,ho.low (Nat.le_trans HNR.o hb.size)⟩
     ·have hy:=hk.closed.yet 14 12 10 AB hk.yet
      have hb:=hk.inv.1 hy
      exact⟨ah rfl,FV (.tmp 23) (.tmp 24) rfl (hk.s 23) (hk.s 24) (v:= .pointer (some ⟨g,k*5,none⟩)) (i0 wx) ⟨.inl ⟨by decide,Below.refl _ _⟩,⟨fun _=>hb,fun h=>absurd h (by rw[aA _ AP,hy];decide)⟩,rfl⟩⟩
     ·have hy:=hk.closed.yet 14 12 11 AB hk.yet
      have hb:=hk.inv.1 hy
      exact⟨ah rfl,bF (.tmp 32) rfl (hk.s 32) (v:= .pointer (some ⟨g,k*5+4,none⟩)) (fun w=>AB) ⟨.inl ⟨by decide,Below.refl _ _⟩,⟨fun _=>hb,fun h=>absurd h (by rw[aA _ AP,hy];decide)⟩,rfl⟩⟩
     ·have hb:=hk.inv.1 hk.yet
      obtain⟨a9,c9,e31,o31⟩:=hk.s 31
      have hH:=HLH.o.1.stay dY hb
      obtain⟨cs,hcs⟩:=hH.blk
      refine⟨ah rfl,zu (.tmp 33) (.tmp 31) rfl (hk.s 33) e31 (FN (fun w=>AB) (keep hb u4) (hH.free _)) ⟨.inr ⟨rfl,Save.set,cs,hcs⟩,⟨fun h=>absurd h (by rw[upd_same];decide),fun _=>⟨a9,c9, ?_,o31.save Save.set (fun j hj=>mF o31 hcs Ll j hj),(Save.of hb).trans Save.set⟩⟩,trivial⟩⟩
      refine hH.set dY hltL AP ?_
      rw[←HXE.o];rfl
    intro δ a wz hall hC hsame hT
    obtain⟨a9,c9,hH9,hO9,hS9⟩:=hC.2 (hall 12 AP)
    have he:=dn hsame [22,23,24,25,26,27,28,29,30,31,32,33] AB
    simp only[List.foldl_cons,List.foldl_nil] at he
    generalize a.eval (.tmp 22)=y22 at he
    generalize a.eval (.tmp 23)=y23 at he
    generalize a.eval (.tmp 24)=y24 at he
    generalize a.eval (.tmp 25)=y25 at he
    generalize a.eval (.tmp 26)=y26 at he
    generalize a.eval (.tmp 27)=y27 at he
    generalize a.eval (.tmp 28)=y28 at he
    generalize a.eval (.tmp 29)=y29 at he
    generalize a.eval (.tmp 30)=y30 at he
    generalize a.eval (.tmp 31)=y31 at he
    generalize a.eval (.tmp 32)=y32 at he
    generalize a.eval (.tmp 33)=y33 at he
    simp only[fV] at he
    dsimp only[List.set_cons_zero,List.set_cons_succ] at he
    subst he
    clear hsame hT hall
    have HF:=AQ (And.intro hH9 (And.intro hO9 hS9))
    clear hH9 hO9 hS9 hC
    have hset:∀j (hj:j<(L.set k ⟨x.id,x.reg,x.keep,a9,x.img,c9⟩).length),(L.set k ⟨x.id,x.reg,x.keep,a9,x.img,c9⟩)[j]=if k=j then⟨x.id,x.reg,x.keep,a9,x.img,c9⟩ else L[j]'(by rw[List.length_set] at hj;exact hj):=fun j hj=>List.getElem_set _
    have HM2:Hid ((L.set k ⟨x.id,x.reg,x.keep,a9,x.img,c9⟩).map dL.pt=V.ps.map dL.pt):=by
     have:=Ld HLM.o hltL a9 c9
     rw[←HXE.o] at this
     exact this
    have HO2:Hid (∀j (hj:j<(L.set k ⟨x.id,x.reg,x.keep,a9,x.img,c9⟩).length),j<k+1→Cit.Own 5 w.heap.size wz (L.set k ⟨x.id,x.reg,x.keep,a9,x.img,c9⟩)[j].a (L.set k ⟨x.id,x.reg,x.keep,a9,x.img,c9⟩)[j].img (L.set k ⟨x.id,x.reg,x.keep,a9,x.img,c9⟩)[j].c):=fun j hj hjk=>by
     rw[hset j hj]
     split
     ·exact HF.o.2.1
     ·have ho:=HLO.o j (by rw[List.length_set] at hj;exact hj) AL
      obtain⟨cs,hcs⟩:=HLH.o.1.blk
      exact ho.save HF.o.2.2 (fun i hi=>mF ho hcs Ll i hi)
    have HV2:Hid (∀j (hj:j<(L.set k ⟨x.id,x.reg,x.keep,a9,x.img,c9⟩).length) (hv:j<V.ps.length),k+1≤j→(L.set k ⟨x.id,x.reg,x.keep,a9,x.img,c9⟩)[j]=V.ps[j]):=fun j hj hv hjk=>by
     rw[hset j hj,if_neg AL]
     exact HLV.o j _ hv AL
    clear c1 u4 i0 hset
    go_wp2_with fail
    go_roundw
    case rel=>exact⟨k+1,L.set k ⟨x.id,x.reg,x.keep,a9,x.img,c9⟩,by go_num,by omega,by rw[List.length_set];exact hLl,HM2.o,HO2.o,HV2.o,HF.o.1,HLH.o.2.trans HF.o.2.2⟩
    case measure=>simp[intOf];omega
   ·have hk2:k=V.ps.length:=by omega
    have hxB:=(hS.block B (Array.getElem?_eq_some_iff.1 H3.o.2.2.2.1).1 (by have:=HGG.o.2.1;omega)).trans H3.o.2.2.2.1
    have hxR:=(hS.block (B+1) (Array.getElem?_eq_some_iff.1 H3.o.2.2.2.2.1).1 (by have:=HGG.o.2.2;omega)).trans H3.o.2.2.2.2.1
    have HXR:=AQ hxR
    have HBE:=AQ (HBX.o hS)
    clear c1
    have c0:=au hxB 0 rfl
    have c1:=au hxB 1 rfl
    have c2:=au hxB 2 rfl
    clear hH hS hxB hxR
    subst hk2
    go_wp2_with ((with_reducible refine ay (o:=⟨none, .store _ (.tmp 2) _,_,_,_,_⟩) iW (.tmp 2) (.tmp 35) AA AA AA AA AA HXR.o AA AA AA ?_);intro w9 hg9 hs9)
    have hH:=HLH.o.1
    have hS:=HLH.o.2
    obtain⟨cs,hcs⟩:=HH3.o.blk
    have ow:=H3.o.1.save hS (fun j hj=>cO H3.o.1 hcs TR j hj)
    have ow9:=ow.save hs9 (fun j hj=>cO ow HXR.o Kr j hj)
    have oc:=H3.o.2.1.save hS (fun j hj=>cO H3.o.2.1 hcs TP j hj)
    have oc9:=oc.save hs9 (fun j hj=>cO oc HXR.o Nh j hj)
    have hH9:=hH.save dY hs9 HGG.o.2.2
    refine bodyPost_ret (ig iW rfl (by rfl) hg9 rfl) rfl ⟨⟨a1,V.ws,k1,some ⟨g,0,none⟩,L,k3,a2,V.cs,k2⟩,by rw[hLl], ?_,⟨ow9.vec dW,hH9.vec,oc9.vec gK,fun j hj=>⟨(ow9.aK hj).1,dV ow9 hj⟩,fun j hj=> ?_,fun j hj=>⟨(oc9.aK hj).1,dV oc9 hj⟩,fun x hx=> ?_⟩,HBE.o.trans (hs9.below HBE.o.size (fun j hj=>by have:=HBB.o;omega))⟩
    ·simp only[aO.cfg,HLM.o]
    ·obtain rfl:g=j:=by simpa[blk] using hj
     exact⟨HGG.o.1,hH9.blk⟩
    ·obtain⟨j,hj,rfl⟩:=List.getElem_of_mem hx
     have hj2:j<L.length:=hj
     have ho:=HLO.o j hj AL
     exact ho.save hs9 (fun i hi=>mF ho HXR.o Ti i hi)
end Go.Proofs.YtlholdllibghbaaGreat
