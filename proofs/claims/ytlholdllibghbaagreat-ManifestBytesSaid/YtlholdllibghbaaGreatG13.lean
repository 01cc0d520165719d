/- Texts of the proof, one behind the other: VAll, VChk, Eq, Law11. No condition but those that each names. -/
import Derived.Test.YtlholdllibghbaaGreatG12
import Derived.Laws.EntriesVeiled
import Derived.Test.YtlholdllibghbaaGreatG00
import Derived.DeepKeys
import Derived.Laws.StructEq
import Derived.Laws.IdiomStrings
import Derived.Lib.Bytealg
import Derived.Test.YtlholdllibghbaaGreatKit
set_option maxRecDepth 100000
set_option maxHeartbeats 8000000
namespace Go.Cit
open Go Go.RowKit
theorem Nr {P:Program} {T E:TypeId} {n by_:Nat} {z:Value} (hE:bT P T E n by_ z) {ρ:Operand→Value} {o:Oper} (x:Operand) (v:Value) (ho:o.op= .buildSlice T 1 #[(0,x)]) (hx:ρ x=v) (hv:v.cells.size=n) (hn:n≤1000) (w:World):
 (execOp ρ o).run P w= .ok (.value (.slice (some ⟨w.heap.size,0,none⟩) 1 1)) (w.alloc (.cells v.cells E)):=by
 have hf:=hE.few
 have h:=tZ hE (ρ:=ρ) (o:=o) [x] [v] 1 ho (by simp[hx]) rfl AP (by intro u hu;rw[List.mem_singleton] at hu;rw[hu];exact hv) AL w
 simpa using h
@[reducible] def cZ (n:Int):List Value:=[.int .i64 n]
theorem qM:∀x,(cZ x).length=1:=fun _=>rfl
theorem AZ:∀x,∀u∈cZ x,u.oneCell'=true:=by
 intro x u hu;obtain rfl:u= .int .i64 x:=by simpa using hu
 rfl
end Go.Cit
namespace Go.Proofs.YtlholdllibghbaaGreat
open Go Go.RowKit Go.Cit Go.Shelf
def lM (ps:List dL):List Reg:=(ps.filter fun x=>kE x.reg).map (·.reg)
theorem G5 (ps:List dL) (k:Nat) (h:k<ps.length):lM (ps.take (k+1))=lM (ps.take k)++(if kE ps[k].reg then [ps[k].reg] else []):=by
 unfold lM
 rw[List.take_succ_eq_append_getElem h,List.filter_append,List.map_append]
 cases hm:kE ps[k].reg<;>simp[hm]
def fU (ps:List dL):Bool:=decide (qV (lM ps)≠0)
theorem Cc (w:World) (V:aO) (h:V.At w) (hs:cu V):Calls Tryz.prog 228 #[.agg #[.slice V.wa V.ws.length V.wc, .slice V.pa V.ps.length V.pc, .slice V.ca V.cs.length V.cc]] w fun e w'=>e= .returned (.bool (fU V.ps))∧Below w.heap.size w w':=by
 obtain⟨R,HR⟩:=AU (fU V.ps)
 rw[←HR.o]
 obtain⟨w0,hw0⟩:=AV (w.alloc (.cells #[.slice V.wa V.ws.length V.wc, .slice V.pa V.ps.length V.pc, .slice V.ca V.cs.length V.cc] 26))
 have B0:Below w.heap.size w w0:=by rw[hw0];exact(Below.refl _ w).alloc (Nat.le_refl _) _
 have hI:gU w0 w.heap.size V:=by rw[hw0];exact dK w V _
 have hlen:=h.pts.bK
 have hl100:=hs.pts
 have HV:=AQ (h.stay B0)
 have HI:=AQ (And.intro hI B0)
 obtain⟨c0,c1,c2⟩:=hI
 clear h B0
 go_enter Tryz.func228,Tryz.ntmps228
 go_wp2_with fail
 rw[←hw0]
 clear hw0
 go_wp2_with fail
 go_loopw [3,9] (fun s i wr=>∃(k:Nat) (a:Option Addr) (L:List Reg) (c:Nat),Hid (L=lM (V.ps.take k))∧L.length≤k∧k≤V.ps.length∧s= .slice a L.length c∧i= .int .i64 k∧aS IQ 2 44 w0.heap.size wr a L c∧Below w0.heap.size w0 wr) (fun _ i _=>V.ps.length-(intOf i).toNat)
 case atStart=>exact⟨0,none,[],0,rfl,by simp,by omega,rfl,rfl,aS.nil_ _ _ _ _ _,Below.refl _ _⟩
 case round=>
  obtain⟨k,a,L,c,HL,hLk,hk,rfl,rfl,hO,B⟩:=hrel
  by_cases hlt:k<V.ps.length
  ·have i0:=HV.o.pts.index Di k hlt
   obtain⟨u0,u1,u2,u3,u4⟩:=dh HV.o.pts B k hlt
   have HT:=AQ (G5 V.ps k hlt)
   obtain⟨x,hx⟩:∃x:dL,Hid (x=V.ps[k]):=⟨V.ps[k],rfl⟩
   rw[←hx.o] at u0 u1 u2 u3 u4 HT
   have HC:=AQ (kT (wr.alloc (.cells #[.int .i64 x.id.1, .int .i64 x.reg.base.1, .int .i64 x.reg.size.1, .bool x.keep, .slice x.a x.img.length x.c] 46)) x.reg)
   have HN:Hid ((wr.alloc (.cells #[.int .i64 x.id.1, .int .i64 x.reg.base.1, .int .i64 x.reg.size.1, .bool x.keep, .slice x.a x.img.length x.c] 46)).heap[wr.heap.size]? =some (.cells #[.int .i64 x.id.1, .int .i64 x.reg.base.1, .int .i64 x.reg.size.1, .bool x.keep, .slice x.a x.img.length x.c] 46 (0,0))):=heap_alloc_new _ _
   have Ba:Below wr.heap.size wr (wr.alloc (.cells #[.int .i64 x.id.1, .int .i64 x.reg.base.1, .int .i64 x.reg.size.1, .bool x.keep, .slice x.a x.img.length x.c] 46)):=(Below.refl _ wr).alloc (Nat.le_refl _) _
   have HB:=AQ (And.intro B Ba)
   have HO:=AQ hO
   clear B Ba hO
   cases hq:kE x.reg with
   |
    false=>
    rw[hq] at HC HT
    have HL2:Hid (L=lM (V.ps.take (k+1))):=by rw[Hid,HT.o,HL.o];simp
    clear hq
    go_wp2_with fail
    refine(HC.o).mono ?_
    rintro e w2 ⟨rfl,hb2⟩
    have Bw:=HB.o.2.trans (hb2.mono HB.o.2.size)
    have HO2:=AQ (HO.o.stay Bw)
    have HB2:=AQ (HB.o.1.trans (Bw.mono HB.o.1.size))
    clear hb2 Bw
    go_wp2_with fail
    go_roundw
    case rel=>exact⟨k+1,a,L,c,HL2.o,by omega,by omega,rfl,by go_num,HO2.o,HB2.o⟩
    case measure=>simp[intOf];omega
   |
    true=>
    rw[hq] at HC HT
    have HL2:Hid (L++ [x.reg]=lM (V.ps.take (k+1))):=by rw[Hid,HT.o,HL.o];simp
    clear hq
    go_wp2_with fail
    refine(HC.o).mono ?_
    rintro e w2 ⟨rfl,hb2⟩
    have Bw:=HB.o.2.trans (hb2.mono HB.o.2.size)
    have HO2:=AQ (HO.o.stay Bw)
    have HB2:=AQ (HB.o.1.trans (Bw.mono HB.o.1.size))
    have e2:=(hb2.block wr.heap.size AO).trans HN.o
    have k1:=au e2 1 rfl
    have k2:=au e2 2 rfl
    clear hb2 Bw e2
    go_wp2_with (first
     | ((with_reducible refine aj (o:=⟨some 19, .buildSlice _ _ _,_,_,_,_⟩) AA (Nr SH (.tmp 18) (.agg #[.int .i64 x.reg.base.1, .int .i64 x.reg.size.1]) AA AA AA AP _) ?_))
     | ((with_reducible refine dA (o:=⟨some 20, .call _,_,_,_,_⟩) SH oK N9 (y:=x.reg) (.tmp 16) (.tmp 19) AA AA HO2.o AA AL HB2.o.size AA AA ?_);intro a4 c4 w4 hO4 hg4 hn4;have HO4:=AQ hO4;have HB4:=AQ (HB2.o.trans (HO2.o.grown hg4 HB2.o.size));clear hO4 hg4 hn4))
    go_roundw
    case rel=>exact⟨k+1,a4,L++ [x.reg],c4,HL2.o,by simp;omega,by omega,by simp,by go_num,HO4.o,HB4.o⟩
    case measure=>simp[intOf];omega
  ·have hk2:k=V.ps.length:=by omega
   have HLE:Hid (R=decide (qV L≠0)):=by rw[Hid,HR.o,fU,HL.o,hk2,List.take_length]
   have HC:=AQ (Jj wr a L c (hO.vec oK))
   obtain⟨z,hz⟩:=AU (qV L)
   rw[←hz.o] at HC HLE
   have HB:=AQ (HI.o.2.trans (B.mono HI.o.2.size))
   clear hk2 hO B
   go_wp2_with fail
   refine(HC.o).mono ?_
   rintro e w2 ⟨rfl,hb2⟩
   have HB2:=AQ (HB.o.trans (hb2.mono HB.o.size))
   clear hb2
   go_wp2_with fail
   go_ret
   exact⟨aJ (by rw[HLE.o,Bool.eq_iff_iff];simp),HB2.o⟩
def Dq:Array Value:= #[.int .i64 90, .func (.func 225) #[] #[], .int .i64 120, .func (.func 226) #[] #[], .int .i64 80, .func (.func 227) #[] #[], .int .i64 121, .func (.func 228) #[] #[], .int .i64 100, .func (.func 229) #[] #[]]
theorem Nv:fO Tryz.prog 222 10:=⟨⟨_,Tryz.underlying222,rfl⟩,by kernel_rfl⟩
theorem Ht (w:World):Calls Tryz.prog 179 #[] w fun e w'=>e= .returned (.agg Dq)∧Below w.heap.size w w':=by
 go_enter Tryz.func179,Tryz.ntmps179
 go_wp2_with fail
 refine bodyPost_ret (ig Nv rfl (by rfl) (heap_alloc_new _ _) rfl) rfl ⟨rfl,(Below.refl _ w).alloc (Nat.le_refl _) _⟩
theorem Vj (a b c d e a' b' c' d' e':Value) (w:World):(Instr.index 222 (.agg #[a,a',b,b',c,c',d,d',e,e']) (.int .i64 0)).run Tryz.prog w= .ok (.agg #[a,a']) w:=by kernel_rfl
theorem VD (a b c d e a' b' c' d' e':Value) (w:World):(Instr.index 222 (.agg #[a,a',b,b',c,c',d,d',e,e']) (.int .i64 1)).run Tryz.prog w= .ok (.agg #[b,b']) w:=by kernel_rfl
theorem Vu (a b c d e a' b' c' d' e':Value) (w:World):(Instr.index 222 (.agg #[a,a',b,b',c,c',d,d',e,e']) (.int .i64 2)).run Tryz.prog w= .ok (.agg #[c,c']) w:=by kernel_rfl
theorem VF (a b c d e a' b' c' d' e':Value) (w:World):(Instr.index 222 (.agg #[a,a',b,b',c,c',d,d',e,e']) (.int .i64 3)).run Tryz.prog w= .ok (.agg #[d,d']) w:=by kernel_rfl
theorem Vm (a b c d e a' b' c' d' e':Value) (w:World):(Instr.index 222 (.agg #[a,a',b,b',c,c',d,d',e,e']) (.int .i64 4)).run Tryz.prog w= .ok (.agg #[e,e']) w:=by kernel_rfl
def qB (V:aO):List (Int×Bool):=[(90,gG V),(120,gY V.ps),(80,fB V.ps),(121,fU V.ps),(100,fH V)]
def iG (V:aO) (k:Nat):List Int:=(((qB V).take k).filter (·.2)).map (·.1)
def errs (V:aO):List Int:=iG V 5
theorem lq (V:aO) (k:Nat) (h:k<(qB V).length):iG V (k+1)=iG V k++(if (qB V)[k].2 then [(qB V)[k].1] else []):=by
 unfold iG
 rw[List.take_succ_eq_append_getElem h,List.filter_append,List.map_append]
 cases hb:(qB V)[k].2<;>simp[hb]
theorem IG (V:aO) (k:Nat):(iG V k).length≤5:=by
 unfold iG
 rw[List.length_map]
 refine Nat.le_trans (List.length_filter_le _ _) ?_
 rw[List.length_take]
 exact Nat.min_le_right _ _
theorem Il (w:World) (V:aO) (h:V.At w) (hs:cu V):Calls Tryz.prog 102 #[.agg #[.slice V.wa V.ws.length V.wc, .slice V.pa V.ps.length V.pc, .slice V.ca V.cs.length V.cc]] w fun e w'=>∃a c,e= .returned (.slice a (errs V).length c)∧aS cZ 1 33 w.heap.size w' a (errs V) c∧Below w.heap.size w w':=by
 obtain⟨R,HR⟩:=AU (errs V)
 rw[←HR.o]
 obtain⟨w0,hw0⟩:=AV (w.alloc (.cells #[.slice V.wa V.ws.length V.wc, .slice V.pa V.ps.length V.pc, .slice V.ca V.cs.length V.cc] 26))
 have B0:Below w.heap.size w w0:=by rw[hw0];exact(Below.refl _ w).alloc (Nat.le_refl _) _
 have hI:gU w0 w.heap.size V:=by rw[hw0];exact dK w V _
 have HV:=AQ (h.stay B0)
 have HI:=AQ hI
 have HB0:=AQ B0
 clear h B0 hI
 have x0:=Vj
 have x1:=VD
 have x2:=Vu
 have x3:=VF
 have x4:=Vm
 go_enter Tryz.func102,Tryz.ntmps102
 go_wp2_with fail
 rw[←hw0]
 clear hw0
 refine(Ht w0).mono ?_
 rintro e w1 ⟨rfl,hb1⟩
 have HB1:=AQ hb1
 clear hb1
 unfold Dq
 go_wp2_with fail
 go_loopw [3,7] (fun s i wr=>∃(k:Nat) (a:Option Addr) (L:List Int) (c:Nat),Hid (L=iG V k)∧L.length≤k∧k≤5∧s= .slice a L.length c∧i= .int .i64 k∧aS cZ 1 33 w0.heap.size wr a L c∧Below w0.heap.size w0 wr) (fun _ i _=>5-(intOf i).toNat)
 case atStart=>exact⟨0,none,[],0,rfl,by simp,by omega,rfl,rfl,aS.nil_ _ _ _ _ _,HB1.o⟩
 case round=>
  obtain⟨k,a,L,c,HL,hLk,hk,rfl,rfl,hO,B⟩:=hrel
  have HIA:Hid (∀C T,gU (wr.alloc (.cells C T)) w.heap.size V):=fun C T=>(HI.o.keep B).keep ((Below.refl _ wr).alloc (Nat.le_refl _) _)
  have HVA:Hid (∀C T,V.At (wr.alloc (.cells C T))):=fun C T=>(HV.o.stay B).stay ((Below.refl _ wr).alloc (Nat.le_refl _) _)
  have HB:=AQ B
  have HO:=AQ hO
  have HLK:=AQ hLk
  clear B hO hLk
  by_cases hk0:k=0
  ·subst hk0
   have HT:=AQ (lq V 0 (show 0<5 by decide))
   have HC:=AQ (BH (wr.alloc (.cells #[.int .i64 90, .func (.func 225) #[] #[]] 221)) V (HVA.o _ _) hs)
   have HN:Hid ((wr.alloc (.cells #[.int .i64 90, .func (.func 225) #[] #[]] 221)).heap[wr.heap.size]? =some (.cells #[.int .i64 90, .func (.func 225) #[] #[]] 221 (0,0))):=heap_alloc_new _ _
   have HBa:Hid (Below wr.heap.size wr (wr.alloc (.cells #[.int .i64 90, .func (.func 225) #[] #[]] 221))):=(Below.refl _ wr).alloc (Nat.le_refl _) _
   obtain⟨c0,c1,c2⟩:=HIA.o #[.int .i64 90, .func (.func 225) #[] #[]] 221
   cases hq:gG V with
   |
    false=>
    rw[hq] at HC
    have HL2:Hid (L=iG V 1):=by rw[Hid,HT.o,HL.o];simp[qB,hq]
    clear hq
    go_wp2_with fail
    refine(HC.o).mono ?_
    rintro e w2 ⟨rfl,hb2⟩
    have Bw:=HBa.o.trans (hb2.mono HBa.o.size)
    have HO2:=AQ (HO.o.stay Bw)
    have HB2:=AQ (HB.o.trans (Bw.mono HB.o.size))
    clear hb2 Bw
    go_wp2_with fail
    go_roundw
    case rel=>exact⟨1,a,L,c,HL2.o,by have:=HLK.o;omega,by omega,rfl,by go_num,HO2.o,HB2.o⟩
    case measure=>simp[intOf]
   |
    true=>
    rw[hq] at HC
    have HL2:Hid (L++ [90]=iG V 1):=by rw[Hid,HT.o,HL.o];simp[qB,hq]
    clear hq
    go_wp2_with fail
    refine(HC.o).mono ?_
    rintro e w2 ⟨rfl,hb2⟩
    have Bw:=HBa.o.trans (hb2.mono HBa.o.size)
    have HO2:=AQ (HO.o.stay Bw)
    have HB2:=AQ (HB.o.trans (Bw.mono HB.o.size))
    have e2:=(hb2.block wr.heap.size AO).trans HN.o
    have k0:=au e2 0 rfl
    clear hb2 Bw e2
    go_wp2_with ((with_reducible refine dA (o:=⟨some 18, .call _,_,_,_,_⟩) SE qM AZ (y:=90) (.tmp 14) (.tmp 17) AA AA HO2.o AA (by have:=HLK.o;omega) HB2.o.size AA AA ?_);intro a4 c4 w4 hO4 hg4 hn4;have HO4:=AQ hO4;have HB4:=AQ (HB2.o.trans (HO2.o.grown hg4 HB2.o.size));clear hO4 hg4 hn4)
    go_roundw
    case rel=>exact⟨1,a4,L++ [90],c4,HL2.o,by have:=HLK.o;rw[List.length_append,List.length_singleton];omega,by omega,by simp,by go_num,HO4.o,HB4.o⟩
    case measure=>simp[intOf]
  by_cases hk1:k=1
  ·subst hk1
   have HT:=AQ (lq V 1 (show 1<5 by decide))
   have HC:=AQ (Ho (wr.alloc (.cells #[.int .i64 120, .func (.func 226) #[] #[]] 221)) V (HVA.o _ _))
   have HN:Hid ((wr.alloc (.cells #[.int .i64 120, .func (.func 226) #[] #[]] 221)).heap[wr.heap.size]? =some (.cells #[.int .i64 120, .func (.func 226) #[] #[]] 221 (0,0))):=heap_alloc_new _ _
   have HBa:Hid (Below wr.heap.size wr (wr.alloc (.cells #[.int .i64 120, .func (.func 226) #[] #[]] 221))):=(Below.refl _ wr).alloc (Nat.le_refl _) _
   obtain⟨c0,c1,c2⟩:=HIA.o #[.int .i64 120, .func (.func 226) #[] #[]] 221
   cases hq:gY V.ps with
   |
    false=>
    rw[hq] at HC
    have HL2:Hid (L=iG V 2):=by rw[Hid,HT.o,HL.o];simp[qB,hq]
    clear hq
    go_wp2_with fail
    refine(HC.o).mono ?_
    rintro e w2 ⟨rfl,hb2⟩
    have Bw:=HBa.o.trans (hb2.mono HBa.o.size)
    have HO2:=AQ (HO.o.stay Bw)
    have HB2:=AQ (HB.o.trans (Bw.mono HB.o.size))
    clear hb2 Bw
    go_wp2_with fail
    go_roundw
    case rel=>exact⟨2,a,L,c,HL2.o,by have:=HLK.o;omega,by omega,rfl,by go_num,HO2.o,HB2.o⟩
    case measure=>simp[intOf]
   |
    true=>
    rw[hq] at HC
    have HL2:Hid (L++ [120]=iG V 2):=by rw[Hid,HT.o,HL.o];simp[qB,hq]
    clear hq
    go_wp2_with fail
    refine(HC.o).mono ?_
    rintro e w2 ⟨rfl,hb2⟩
    have Bw:=HBa.o.trans (hb2.mono HBa.o.size)
    have HO2:=AQ (HO.o.stay Bw)
    have HB2:=AQ (HB.o.trans (Bw.mono HB.o.size))
    have e2:=(hb2.block wr.heap.size AO).trans HN.o
    have k0:=au e2 0 rfl
    clear hb2 Bw e2
    go_wp2_with ((with_reducible refine dA (o:=⟨some 18, .call _,_,_,_,_⟩) SE qM AZ (y:=120) (.tmp 14) (.tmp 17) AA AA HO2.o AA (by have:=HLK.o;omega) HB2.o.size AA AA ?_);intro a4 c4 w4 hO4 hg4 hn4;have HO4:=AQ hO4;have HB4:=AQ (HB2.o.trans (HO2.o.grown hg4 HB2.o.size));clear hO4 hg4 hn4)
    go_roundw
    case rel=>exact⟨2,a4,L++ [120],c4,HL2.o,by have:=HLK.o;rw[List.length_append,List.length_singleton];omega,by omega,by simp,by go_num,HO4.o,HB4.o⟩
    case measure=>simp[intOf]
  by_cases hk2:k=2
  ·subst hk2
   have HT:=AQ (lq V 2 (show 2<5 by decide))
   have HC:=AQ (BR (wr.alloc (.cells #[.int .i64 80, .func (.func 227) #[] #[]] 221)) V (HVA.o _ _))
   have HN:Hid ((wr.alloc (.cells #[.int .i64 80, .func (.func 227) #[] #[]] 221)).heap[wr.heap.size]? =some (.cells #[.int .i64 80, .func (.func 227) #[] #[]] 221 (0,0))):=heap_alloc_new _ _
   have HBa:Hid (Below wr.heap.size wr (wr.alloc (.cells #[.int .i64 80, .func (.func 227) #[] #[]] 221))):=(Below.refl _ wr).alloc (Nat.le_refl _) _
   obtain⟨c0,c1,c2⟩:=HIA.o #[.int .i64 80, .func (.func 227) #[] #[]] 221
   cases hq:fB V.ps with
   |
    false=>
    rw[hq] at HC
    have HL2:Hid (L=iG V 3):=by rw[Hid,HT.o,HL.o];simp[qB,hq]
    clear hq
    go_wp2_with fail
    refine(HC.o).mono ?_
    rintro e w2 ⟨rfl,hb2⟩
    have Bw:=HBa.o.trans (hb2.mono HBa.o.size)
    have HO2:=AQ (HO.o.stay Bw)
    have HB2:=AQ (HB.o.trans (Bw.mono HB.o.size))
    clear hb2 Bw
    go_wp2_with fail
    go_roundw
    case rel=>exact⟨3,a,L,c,HL2.o,by have:=HLK.o;omega,by omega,rfl,by go_num,HO2.o,HB2.o⟩
    case measure=>simp[intOf]
   |
    true=>
    rw[hq] at HC
    have HL2:Hid (L++ [80]=iG V 3):=by rw[Hid,HT.o,HL.o];simp[qB,hq]
    clear hq
    go_wp2_with fail
    refine(HC.o).mono ?_
    rintro e w2 ⟨rfl,hb2⟩
    have Bw:=HBa.o.trans (hb2.mono HBa.o.size)
    have HO2:=AQ (HO.o.stay Bw)
    have HB2:=AQ (HB.o.trans (Bw.mono HB.o.size))
    have e2:=(hb2.block wr.heap.size AO).trans HN.o
    have k0:=au e2 0 rfl
    clear hb2 Bw e2
    go_wp2_with ((with_reducible refine dA (o:=⟨some 18, .call _,_,_,_,_⟩) SE qM AZ (y:=80) (.tmp 14) (.tmp 17) AA AA HO2.o AA (by have:=HLK.o;omega) HB2.o.size AA AA ?_);intro a4 c4 w4 hO4 hg4 hn4;have HO4:=AQ hO4;have HB4:=AQ (HB2.o.trans (HO2.o.grown hg4 HB2.o.size));clear hO4 hg4 hn4)
    go_roundw
    case rel=>exact⟨3,a4,L++ [80],c4,HL2.o,by have:=HLK.o;rw[List.length_append,List.length_singleton];omega,by omega,by simp,by go_num,HO4.o,HB4.o⟩
    case measure=>simp[intOf]
  by_cases hk3:k=3
  ·subst hk3
   have HT:=AQ (lq V 3 (show 3<5 by decide))
   have HC:=AQ (Cc (wr.alloc (.cells #[.int .i64 121, .func (.func 228) #[] #[]] 221)) V (HVA.o _ _) hs)
   have HN:Hid ((wr.alloc (.cells #[.int .i64 121, .func (.func 228) #[] #[]] 221)).heap[wr.heap.size]? =some (.cells #[.int .i64 121, .func (.func 228) #[] #[]] 221 (0,0))):=heap_alloc_new _ _
   have HBa:Hid (Below wr.heap.size wr (wr.alloc (.cells #[.int .i64 121, .func (.func 228) #[] #[]] 221))):=(Below.refl _ wr).alloc (Nat.le_refl _) _
   obtain⟨c0,c1,c2⟩:=HIA.o #[.int .i64 121, .func (.func 228) #[] #[]] 221
   cases hq:fU V.ps with
   |
    false=>
    rw[hq] at HC
    have HL2:Hid (L=iG V 4):=by rw[Hid,HT.o,HL.o];simp[qB,hq]
    clear hq
    go_wp2_with fail
    refine(HC.o).mono ?_
    rintro e w2 ⟨rfl,hb2⟩
    have Bw:=HBa.o.trans (hb2.mono HBa.o.size)
    have HO2:=AQ (HO.o.stay Bw)
    have HB2:=AQ (HB.o.trans (Bw.mono HB.o.size))
    clear hb2 Bw
    go_wp2_with fail
    go_roundw
    case rel=>exact⟨4,a,L,c,HL2.o,by have:=HLK.o;omega,by omega,rfl,by go_num,HO2.o,HB2.o⟩
    case measure=>simp[intOf]
   |
    true=>
    rw[hq] at HC
    have HL2:Hid (L++ [121]=iG V 4):=by rw[Hid,HT.o,HL.o];simp[qB,hq]
    clear hq
    go_wp2_with fail
    refine(HC.o).mono ?_
    rintro e w2 ⟨rfl,hb2⟩
    have Bw:=HBa.o.trans (hb2.mono HBa.o.size)
    have HO2:=AQ (HO.o.stay Bw)
    have HB2:=AQ (HB.o.trans (Bw.mono HB.o.size))
    have e2:=(hb2.block wr.heap.size AO).trans HN.o
    have k0:=au e2 0 rfl
    clear hb2 Bw e2
    go_wp2_with ((with_reducible refine dA (o:=⟨some 18, .call _,_,_,_,_⟩) SE qM AZ (y:=121) (.tmp 14) (.tmp 17) AA AA HO2.o AA (by have:=HLK.o;omega) HB2.o.size AA AA ?_);intro a4 c4 w4 hO4 hg4 hn4;have HO4:=AQ hO4;have HB4:=AQ (HB2.o.trans (HO2.o.grown hg4 HB2.o.size));clear hO4 hg4 hn4)
    go_roundw
    case rel=>exact⟨4,a4,L++ [121],c4,HL2.o,by have:=HLK.o;rw[List.length_append,List.length_singleton];omega,by omega,by simp,by go_num,HO4.o,HB4.o⟩
    case measure=>simp[intOf]
  by_cases hk4:k=4
  ·subst hk4
   have HT:=AQ (lq V 4 (show 4<5 by decide))
   have HC:=AQ (Ag (wr.alloc (.cells #[.int .i64 100, .func (.func 229) #[] #[]] 221)) V (HVA.o _ _) hs)
   have HN:Hid ((wr.alloc (.cells #[.int .i64 100, .func (.func 229) #[] #[]] 221)).heap[wr.heap.size]? =some (.cells #[.int .i64 100, .func (.func 229) #[] #[]] 221 (0,0))):=heap_alloc_new _ _
   have HBa:Hid (Below wr.heap.size wr (wr.alloc (.cells #[.int .i64 100, .func (.func 229) #[] #[]] 221))):=(Below.refl _ wr).alloc (Nat.le_refl _) _
   obtain⟨c0,c1,c2⟩:=HIA.o #[.int .i64 100, .func (.func 229) #[] #[]] 221
   cases hq:fH V with
   |
    false=>
    rw[hq] at HC
    have HL2:Hid (L=iG V 5):=by rw[Hid,HT.o,HL.o];simp[qB,hq]
    clear hq
    go_wp2_with fail
    refine(HC.o).mono ?_
    rintro e w2 ⟨rfl,hb2⟩
    have Bw:=HBa.o.trans (hb2.mono HBa.o.size)
    have HO2:=AQ (HO.o.stay Bw)
    have HB2:=AQ (HB.o.trans (Bw.mono HB.o.size))
    clear hb2 Bw
    go_wp2_with fail
    go_roundw
    case rel=>exact⟨5,a,L,c,HL2.o,by have:=HLK.o;omega,by omega,rfl,by go_num,HO2.o,HB2.o⟩
    case measure=>simp[intOf]
   |
    true=>
    rw[hq] at HC
    have HL2:Hid (L++ [100]=iG V 5):=by rw[Hid,HT.o,HL.o];simp[qB,hq]
    clear hq
    go_wp2_with fail
    refine(HC.o).mono ?_
    rintro e w2 ⟨rfl,hb2⟩
    have Bw:=HBa.o.trans (hb2.mono HBa.o.size)
    have HO2:=AQ (HO.o.stay Bw)
    have HB2:=AQ (HB.o.trans (Bw.mono HB.o.size))
    have e2:=(hb2.block wr.heap.size AO).trans HN.o
    have k0:=au e2 0 rfl
    clear hb2 Bw e2
    go_wp2_with ((with_reducible refine dA (o:=⟨some 18, .call _,_,_,_,_⟩) SE qM AZ (y:=100) (.tmp 14) (.tmp 17) AA AA HO2.o AA (by have:=HLK.o;omega) HB2.o.size AA AA ?_);intro a4 c4 w4 hO4 hg4 hn4;have HO4:=AQ hO4;have HB4:=AQ (HB2.o.trans (HO2.o.grown hg4 HB2.o.size));clear hO4 hg4 hn4)
    go_roundw
    case rel=>exact⟨5,a4,L++ [100],c4,HL2.o,by have:=HLK.o;rw[List.length_append,List.length_singleton];omega,by omega,by simp,by go_num,HO4.o,HB4.o⟩
    case measure=>simp[intOf]
  have hk5:k=5:=by omega
  subst hk5
  have HF:Hid (L=R):=by rw[Hid,HL.o,HR.o];rfl
  go_wp2_with fail
  go_ret
  exact⟨a,c,by rw[HF.o];rfl,by have:=HO.o.low HB0.o.size;rwa[HF.o] at this,HB0.o.trans (HB.o.mono HB0.o.size)⟩
open Go Go.RowKit Go.Cit
def BM (V:aO):Int:=(errs V).head?.getD 0
theorem P7 (V:aO):∀e∈errs V,e≠0:=by
 intro e he
 unfold errs iG at he
 obtain⟨x,hx,rfl⟩:=List.mem_map.1 he
 have hx:=List.mem_of_mem_take (List.mem_filter.1 hx).1
 simp[qB] at hx
 rcases hx with rfl |rfl |rfl |rfl |rfl<;>simp
theorem KU (V:aO):(BM V=0)=(errs V=[]):=by
 have h:=P7 V
 unfold BM
 cases he:errs V with
 | nil=>simp
 | cons x l=>simp;exact h x (by rw[he];simp)
theorem Pj (V:aO):(errs V).length≤5:=IG V 5
theorem vJ (w:World) (V:aO) (h:V.At w) (hs:cu V):Calls Tryz.prog 36 #[.agg #[.slice V.wa V.ws.length V.wc, .slice V.pa V.ps.length V.pc, .slice V.ca V.cs.length V.cc]] w fun e w'=>e= .returned (.int .i64 (BM V))∧Below w.heap.size w w':=by
 have B0:Below w.heap.size w (w.alloc (.cells #[.slice V.wa V.ws.length V.wc, .slice V.pa V.ps.length V.pc, .slice V.ca V.cs.length V.cc] 26)):=(Below.refl _ w).alloc (Nat.le_refl _) _
 have HC:=AQ (Il _ V (h.stay B0) hs)
 have HB0:=AQ B0
 obtain⟨L,hL⟩:=AU (errs V)
 have HR:Hid (BM V=L.head?.getD 0):=by rw[Hid,hL.o];rfl
 have HLL:L.length≤5:=by rw[hL.o];exact Pj V
 obtain⟨R,HR2⟩:=AU (BM V)
 rw[←hL.o] at HC
 rw[←HR2.o] at HR ⊢
 clear h B0
 cases L with
 |
  nil=>
  have HRZ:Hid (R=0):=by rw[Hid,HR.o];rfl
  go_enter Tryz.func36,Tryz.ntmps36
  go_wp2_with fail
  refine(HC.o).mono ?_
  rintro e w2 ⟨a,c,rfl,hO,hb2⟩
  have HB2:=AQ (HB0.o.trans (hb2.mono HB0.o.size))
  clear hO hb2
  go_wp2_with fail
  go_loopw [8] (fun s wr=>s= .int .i64 0∧wr=w2) (fun _ _=>0)
  case atStart=>exact⟨rfl,rfl⟩
  case round=>
   obtain⟨rfl,hwr⟩:=hrel
   subst hwr
   go_wp2_with fail
   go_ret
   exact⟨dX HRZ.o.symm,HB2.o⟩
 |
  cons z L=>
  have HRZ:Hid (R=z):=by rw[Hid,HR.o];rfl
  go_enter Tryz.func36,Tryz.ntmps36
  go_wp2_with fail
  refine(HC.o).mono ?_
  rintro e w2 ⟨a,c,rfl,hO,hb2⟩
  have HB2:=AQ (HB0.o.trans (hb2.mono HB0.o.size))
  have hv:=hO.vec qM
  have i0:=hv.index SE 0 AO
  have d0:=hv.wY 0 AO AP rfl
  rw[show((0:Nat):Int)=0 from rfl,Nat.zero_mul,List.length_cons] at i0
  rw[Nat.zero_mul] at d0
  clear hO hb2 hv
  go_wp2_with fail
  go_loopw [8] (fun s wr=>s= .int .i64 0∧wr=w2) (fun _ _=>0)
  case atStart=>exact⟨rfl,rfl⟩
  case round=>
   obtain⟨rfl,hwr⟩:=hrel
   subst hwr
   go_wp2_with fail
   go_ret
   exact⟨dX HRZ.o.symm,HB2.o⟩
def fitsV (V:aO):Bool:=decide (errs V=[])
theorem Ad (w:World) (V:aO) (h:V.At w) (hs:cu V):Calls Tryz.prog 11 #[.agg #[.slice V.wa V.ws.length V.wc, .slice V.pa V.ps.length V.pc, .slice V.ca V.cs.length V.cc]] w fun e w'=>e= .returned (.bool (fitsV V))∧Below w.heap.size w w':=by
 have B0:Below w.heap.size w (w.alloc (.cells #[.slice V.wa V.ws.length V.wc, .slice V.pa V.ps.length V.pc, .slice V.ca V.cs.length V.cc] 26)):=(Below.refl _ w).alloc (Nat.le_refl _) _
 have HC:=AQ (vJ _ V (h.stay B0) hs)
 have HB0:=AQ B0
 have HF:Hid (fitsV V=decide (BM V=0)):=by rw[Hid,fitsV];exact decide_eq_decide.2 (by rw[KU])
 obtain⟨R,HR⟩:=AU (fitsV V)
 obtain⟨z,hz⟩:=AU (BM V)
 rw[←HR.o,←hz.o] at HF
 rw[←hz.o] at HC
 rw[←HR.o]
 clear h B0
 go_enter Tryz.func11,Tryz.ntmps11
 go_wp2_with fail
 refine(HC.o).mono ?_
 rintro e w2 ⟨rfl,hb2⟩
 have HB2:=AQ (HB0.o.trans (hb2.mono HB0.o.size))
 clear hb2
 go_wp2_with fail
 go_ret
 exact⟨aJ (by rw[HF.o];rfl),HB2.o⟩
end Go.Proofs.YtlholdllibghbaaGreat
namespace Go.Cit
open Go Go.RowKit
theorem mapM_some {α β:Type} {f:α→Option β} {g:α→β}:∀l:List α,(∀i∈l,f i=some (g i))→l.mapM f=some (l.map g)
 | [],_=>rfl
 |
  i::l,h=>by
  rw[List.mapM_cons,h i AO,mapM_some l (fun j hj=>h j (by simp[hj]))]
  rfl
section
variable {P:Program} {T E:TypeId} {n:Nat} {k:IntKind}
structure vW (P:Program) (T E:TypeId) (n:Nat) (k:IntKind):Prop where
 arr:P.underlying T=some (.array n E)
 int:P.underlying E=some (.int k)
 cells:P.cellsOf T=n
 one:P.cellsOf E=1
 key:P.keyTypeAt 2 T=true
 guard:P.eqGuardType P.depth T=false
theorem uI (h:vW P T E n k) (zs:List Int) (hl:zs.length=n) (hw:∀z∈zs,(Lit.int k z).wf=true):P.keyLits 2 T (zs.map (Value.int k))=some (zs.map (Lit.int k)):=by
 unfold Program.keyLits
 simp only[h.arr]
 rw[if_pos (by rw[List.length_map,h.cells,hl])]
 have e:(List.range n).mapM (fun i=>P.keyLits 1 E (((zs.map (Value.int k)).drop (i*P.cellsOf E)).take (P.cellsOf E)))=some ((List.range n).map fun i=> [Lit.int k (zs.getD i 0)]):=by
  refine mapM_some _ fun i hi=> ?_
  have hi':i<zs.length:=by rw[hl];exact List.mem_range.1 hi
  rw[h.one,Nat.mul_one,List.drop_eq_getElem_cons (by simpa using hi'),List.take_succ_cons,List.take_zero]
  unfold Program.keyLits
  simp only[h.int]
  rw[List.getElem_map]
  simp only[hw _ (List.getElem_mem hi'),and_self,if_true]
  simp[hi']
 rw[e]
 simp only[Option.map_some,Option.some.injEq]
 have hfl:∀l:List Nat,(l.map fun i=> [Lit.int k (zs.getD i 0)]).flatten=l.map fun i=>Lit.int k (zs.getD i 0):=by
  intro l
  induction l with
  | nil=>rfl
  | cons a l ih=>rw[List.map_cons,List.flatten_cons,ih];rfl
 rw[hfl]
 apply List.ext_getElem
 ·simp[hl]
 ·intro i h1 h2
  have hi:i<zs.length:=by simpa using h2
  simp[hi]
theorem FX (h:vW P T E n k) (zs ys:List Int) (hl:zs.length=n) (hm:ys.length=n) (hw:∀z∈zs,(Lit.int k z).wf=true) (hv:∀z∈ys,(Lit.int k z).wf=true) (w:World):
 (Op.equalIn 10000 T (.agg (zs.map (Value.int k)).toArray) (.agg (ys.map (Value.int k)).toArray)).run P w= .ok (decide (zs=ys)) w:=by
 have hf:∀l:List Int,l.length=n→(Value.agg (l.map (Value.int k)).toArray).formed P T=true:=by
  intro l hl
  simp[Value.formed,h.arr,h.cells,hl]
 obtain⟨r,hr,hiff⟩:=run_equalIn_deep (P:=P) 9998 2 T h.key w 2 2 _ _ _ _ (hf zs hl) (hf ys hm) (by simpa[Value.cells] using uI h zs hl hw) (by simpa[Value.cells] using uI h ys hm hv)
 have hinj:(zs.map (Lit.int k)=ys.map (Lit.int k))↔zs=ys:=by
  constructor
  ·intro e
   exact(List.map_inj_right (by intro a b hab;injection hab)).1 e
  ·rintro rfl;rfl
 rw[hinj] at hiff
 rw[hr]
 congr 1
 rw[Bool.eq_iff_iff,decide_eq_true_iff];exact hiff
end
section
variable {P:Program} {T E:TypeId} {n:Nat}
theorem lV (h:vW P T E n .u8) (l m:List UInt8) (hl:l.length=n) (hm:m.length=n) (w:World):
 (Op.equalIn 10000 T (.agg (l.map vb).toArray) (.agg (m.map vb).toArray)).run P w= .ok (decide (l=m)) w:=by
 have wf:∀l:List UInt8,∀z∈l.map (fun x=>(x.toNat:Int)),(Lit.int .u8 z).wf=true:=by
  intro l z hz
  obtain⟨x,_,rfl⟩:=List.mem_map.1 hz
  have:=b_lt x
  simp[Lit.wf,IntKind.min,IntKind.max,IntKind.bits,IntKind.signed];omega
 have:=FX h (l.map fun x=>(x.toNat:Int)) (m.map fun x=>(x.toNat:Int)) (by simpa using hl) (by simpa using hm) (wf l) (wf m) w
 rw[List.map_map,List.map_map] at this
 refine this.trans ?_
 congr 1
 rw[Bool.eq_iff_iff,decide_eq_true_iff,decide_eq_true_iff]
 exact List.map_inj_right (by intro a b hab;exact UInt8.toNat_inj.1 AL)
end
section
variable {P:Program} {T:TypeId} {C D:Array Value} {r:Bool}
theorem oO (hg:P.eqGuardType P.depth T=false) (x y:Operand) (h:∀w,(Op.equalIn 10000 T (.agg C) (.agg D)).run P w= .ok r w):∀w,(do eqGuard .eql T x y (.agg C) (.agg D);binOp .eql T (.agg C) (.agg D):Sem Value).run P w= .ok (.bool r) w:=by
 intro w
 rw[Sem.run_bind,run_eqGuard_agg w .eql T x y C D hg]
 simp only[Result.andThen_ok,run_eql_struct,h]
theorem Ii (hg:P.eqGuardType P.depth T=false) (x y:Operand) (h:∀w,(Op.equalIn 10000 T (.agg C) (.agg D)).run P w= .ok r w):∀w,(do eqGuard .neq T x y (.agg C) (.agg D);binOp .neq T (.agg C) (.agg D):Sem Value).run P w= .ok (.bool (!r)) w:=by
 intro w
 rw[Sem.run_bind,run_eqGuard_agg w .neq T x y C D hg]
 simp only[Result.andThen_ok,run_neq_struct,h]
end
end Go.Cit
namespace Go.Proofs.YtlholdllibghbaaGreat
open Go Go.RowKit Go.Cit
theorem Ec {w:World} {a:Option Addr} {l:List UInt8} {cap:Nat} (h:Row w a l cap):(convert 40 9 (.slice a l.length cap)).run Tryz.prog w= .ok (.string ⟨l.toArray⟩) w:=by
 have he:Tryz.prog.underlying 5=some (.int .u8):=Tryz.underlying5
 rcases Nat.eq_zero_or_pos l.length with h0 |h0
 ·obtain rfl:l=[]:=List.eq_nil_of_length_eq_zero h0
  cases a with
  |
   none=>
   rw[run_convert_bytes_string w _ _ 5 none _ cap SG.slice he Tryz.underlying9]
   simp[Conv.bytesToString,Sem.run_pure];rfl
  |
   some x=>
   exact run_convert_bytes_back w _ _ 5 x cap [] SG.slice he Tryz.underlying9 (fun j hj=>by simp at hj)
 ·obtain⟨b,o,rfl⟩:=h.spot (by intro h1;simp[h1] at h0)
  refine run_convert_bytes_back w _ _ 5 ⟨b,o,none⟩ cap l SG.slice he Tryz.underlying9 (fun j hj=> ?_)
  have ea:(⟨b,o,none⟩:Addr).add j=ad (some ⟨b,o,none⟩) j:=by unfold Addr.add ad;split<;>simp_all
  rw[ea];exact h.cell j hj
theorem NI (a b c d:Int) (w:World):(Op.equalIn 10000 44 (.agg #[.int .i64 a, .int .i64 b]) (.agg #[.int .i64 c, .int .i64 d])).run Tryz.prog w= .ok (decide (a=c∧b=d)) w:=by
 have hS:Tryz.prog.underlying 44=some (.struct (Tryz.prog.fieldsOf 44)):=by kernel_rfl
 have hp:Tryz.prog.stoodInHeld 44=false:=by kernel_rfl
 rw[show(10000:Nat)=9999+1 from rfl,run_equalIn_agg w 9999 _ _ _ hS hp]
 simp only[Program.fieldsOf,Tryz.underlying44]
 go_simp
 by_cases h1:a=c<;>by_cases h2:b=d<;>simp[h1,h2]
theorem VB:Tryz.prog.eqGuardType Tryz.prog.depth 44=false:=by kernel_rfl
def Et (ps:List dL):Nat:=(ps.map fun x=>x.img.length).sum
theorem MV (ps:List dL) (k:Nat) (h:k<ps.length):Et (ps.take (k+1))=Et (ps.take k)+ps[k].img.length:=by
 rw[Et,Et,List.take_succ_eq_append_getElem h,List.map_append,List.sum_append];simp
theorem Qj (ps:List dL):∀x∈ps,x.img.length≤Et ps:=by
 induction ps with
 | nil=>intro x hx;simp at hx
 |
  cons y ps ih=>
  intro x hx
  simp only[Et,List.map_cons,List.sum_cons] at ih ⊢
  rcases List.mem_cons.1 hx with rfl |h
  ·omega
  ·have:=ih x h;omega
def ug (V:aO):Bool:=decide (40<V.ws.length∨20<V.ps.length∨40<V.cs.length) || decide (8000<Et V.ps)
theorem Pn {V:aO} (h:ug V=false):cu V:=by
 unfold ug at h
 rw[Bool.or_eq_false_iff,decide_eq_false_iff_not,decide_eq_false_iff_not] at h
 refine⟨by omega,by omega,by omega,fun x hx=> ?_⟩
 have:=Qj V.ps x hx
 omega
theorem EC (w:World) (V:aO) (h:V.At w) (hb:∀x∈V.ps,x.img.length≤140737488351232):Calls Tryz.prog 8 #[.agg #[.slice V.wa V.ws.length V.wc, .slice V.pa V.ps.length V.pc, .slice V.ca V.cs.length V.cc]] w fun e w'=>e= .returned (.bool (ug V))∧Below w.heap.size w w':=by
 obtain⟨R,HR⟩:=AU (ug V)
 rw[←HR.o]
 obtain⟨w0,hw0⟩:=AV (w.alloc (.cells #[.slice V.wa V.ws.length V.wc, .slice V.pa V.ps.length V.pc, .slice V.ca V.cs.length V.cc] 26))
 have B0:Below w.heap.size w w0:=by rw[hw0];exact(Below.refl _ w).alloc (Nat.le_refl _) _
 have hI:gU w0 w.heap.size V:=by rw[hw0];exact dK w V _
 have hl1:=h.win.bK
 have hl2:=h.pts.bK
 have hl3:=h.kL.bK
 have HV:=AQ (h.stay B0)
 obtain⟨c0,c1,c2⟩:=hI
 have HB0:=AQ B0
 have HBG:=AQ hb
 clear h B0 hb
 by_cases hg:40<V.ws.length∨20<V.ps.length∨40<V.cs.length
 ·have HF:Hid (R=true):=by rw[Hid,HR.o,ug,decide_eq_true hg];rfl
  have HG:=AQ hg
  clear hg
  go_enter Tryz.func8,Tryz.ntmps8
  go_wp2_with fail
  all_goals first
   | (rw[←hw0];go_ret;exact⟨aJ HF.o.symm,HB0.o⟩)
   | (exfalso;have:=HG.o;omega)
 ·have HF:Hid (R=decide (8000<Et V.ps)):=by rw[Hid,HR.o,ug,decide_eq_false hg];rfl
  have h1:V.ws.length≤40:=by omega
  have h2:V.ps.length≤20:=by omega
  have h3:V.cs.length≤40:=by omega
  clear hg
  go_enter Tryz.func8,Tryz.ntmps8
  go_wp2_with fail
  rw[←hw0]
  clear hw0
  go_wp2_with fail
  go_loopw [3,4] (fun n i wr=>∃(k m:Nat),Hid (m=Et (V.ps.take k))∧k≤V.ps.length∧m≤140737488351232*k∧n= .int .i64 m∧i= .int .i64 k∧Below w0.heap.size w0 wr) (fun _ i _=>V.ps.length-(intOf i).toNat)
  case atStart=>exact⟨0,0,rfl,Nat.zero_le _,by omega,rfl,rfl,Below.refl _ _⟩
  case round=>
   obtain⟨k,m,hm,hk,hmb,rfl,rfl,B⟩:=hrel
   have c0:=keep B c0
   have c1:=keep B c1
   have c2:=keep B c2
   by_cases hlt:k<V.ps.length
   ·have i0:=HV.o.pts.index Di k hlt
    obtain⟨u0,u1,u2,u3,u4⟩:=dh HV.o.pts B k hlt
    have HT:=AQ (MV V.ps k hlt)
    have hb1:=HBG.o V.ps[k] (List.getElem_mem hlt)
    have hb2:140737488351232*k≤140737488351232*20:=by omega
    go_wp2_with fail
    go_roundw
    case rel=>exact⟨k+1,m+V.ps[k].img.length,by rw[Hid,HT.o,hm.o],by omega,by omega,by go_num,by go_num,B⟩
    case measure=>simp[intOf];omega
   ·have hk2:k=V.ps.length:=by omega
    have HE:Hid (R=decide (8000<m)):=by rw[Hid,HF.o,hm.o,hk2,List.take_length]
    clear hk2
    go_wp2_with fail
    go_ret
    exact⟨aJ (by rw[HE.o];exact decide_eq_decide.2 AL),HB0.o.trans (B.mono HB0.o.size)⟩
theorem MN (x y:dL):x.pt=y.pt↔x.id.1=y.id.1∧(x.reg.base.1=y.reg.base.1∧x.reg.size.1=y.reg.size.1)∧x.keep=y.keep∧x.img=y.img:=by
 obtain⟨a,⟨b,c⟩,d,e,f,g⟩:=x
 obtain⟨a',⟨b',c'⟩,d',e',f',g'⟩:=y
 simp only[dL.pt,Pt.mk.injEq,Reg.mk.injEq,Subtype.ext_iff]
theorem Ar (w:World) (x y:dL) (hx:Row w x.a x.img x.c) (hy:Row w y.a y.img y.c):Calls Tryz.prog 152 #[.agg #[.int .i64 x.id.1, .int .i64 x.reg.base.1, .int .i64 x.reg.size.1, .bool x.keep, .slice x.a x.img.length x.c], .agg #[.int .i64 y.id.1, .int .i64 y.reg.base.1, .int .i64 y.reg.size.1, .bool y.keep, .slice y.a y.img.length y.c]] w fun e w'=>e= .returned (.bool (decide (x.pt=y.pt)))∧Below w.heap.size w w':=by
 obtain⟨R,HR⟩:=AU (decide (x.pt=y.pt))
 have HI:=AQ (MN x y)
 rw[←HR.o]
 have B1:∀C D,Below w.heap.size w ((w.alloc (.cells C 46)).alloc (.cells D 46)):=fun C D=>((Below.refl _ w).alloc (Nat.le_refl _) _).alloc AO _
 have s1:=fun C D=>Ec (hx.stay (B1 C D))
 have s2:=fun C D=>Ec (hy.stay (B1 C D))
 have HB1:=AQ B1
 obtain⟨S,hS⟩:∃S:ByteArray,Hid (S=⟨x.img.toArray⟩):=⟨_,rfl⟩
 obtain⟨T,hT⟩:∃T:ByteArray,Hid (T=⟨y.img.toArray⟩):=⟨_,rfl⟩
 simp only[←hS.o] at s1
 simp only[←hT.o] at s2
 have HST:Hid (S.toList=T.toList↔x.img=y.img):=by
  rw[Hid,hS.o,hT.o,ByteArray.toList_eq,ByteArray.toList_eq]
 have hq:=oO VB (.tmp 12) (.tmp 14) (NI x.reg.base.1 x.reg.size.1 y.reg.base.1 y.reg.size.1)
 clear hx hy B1
 go_enter Tryz.func152,Tryz.ntmps152
 go_wp2_with fail
 all_goals
  go_ret
  refine⟨aJ ?_,HB1.o _ _⟩
  rw[HR.o]
  have hi:=HI.o
  have hst:=HST.o
  first
   | (refine(decide_eq_false ?_).symm;intro hh;have:=hi.1 hh;simp_all;done)
   | (rw[Bool.eq_iff_iff,decide_eq_true_iff,hi];simp_all;done)
end Go.Proofs.YtlholdllibghbaaGreat
