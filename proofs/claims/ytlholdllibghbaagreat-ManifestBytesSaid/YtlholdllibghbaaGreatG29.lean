/- Texts of the proof, one behind the other: RefShaE, RefShaT, RefShaS, CatTwo. No condition but those that each names. -/
import Derived.Test.YtlholdllibghbaaGreatG28
import Derived.Test.YtlholdllibghbaaGreatG27
import Derived.Test.YtlholdllibghbaaGreatG04
import Derived.Test.YtlholdllibghbaaGreatG26
import Derived.Test.YtlholdllibghbaaGreatKit
set_option maxRecDepth 100000
set_option maxHeartbeats 8000000
namespace Go.Proofs.YtlholdllibghbaaGreat
open Go Go.RowKit Go.Cit
theorem wG (w:World) (x:UInt32) (m:Int) (n:Nat) (hm:m=(n:Int)) (h1:1≤n) (h31:n≤31):
 Calls Tryz.prog 203 #[vw x, .int .u64 m] w fun e w'=>e= .returned (vw (qA n x))∧w'=w:=by
 subst hm;exact(nG w x n h1 h31).mono fun _ _ ⟨h,k⟩=>⟨h,k.symm⟩
def P9 (s:S8) (k w:UInt32):S8:=
 let t:=dH (dH (dH (dH s.h (nD (nD (qA 6 s.e) (qA 11 s.e)) (qA 25 s.e))) (LJ (lK s.e s.f) (lK (Ns s.e) s.g))) k) w
 let u:=dH (nD (nD (qA 2 s.a) (qA 13 s.a)) (qA 22 s.a)) (nD (nD (lK s.a s.b) (lK s.a s.c)) (lK s.b s.c))
 ⟨dH t u,s.a,s.b,s.c,dH s.d t,s.e,s.f,s.g⟩
theorem PZ (s:S8) (k w:UInt32):P9 s k w=s.Ui k w:=by
 unfold P9 S8.Ui nR zZ
 rw[LD,Qn]
theorem D8 (w:World) (a0:Option Addr) (s:S8) (c0:Nat) (hs:Vec cw 1 w a0 s.l c0) (a:Option Addr) (b:List UInt8) (c:Nat) (hr:Row w a b c) (hb:b.length=64):
 Calls Tryz.prog 122 #[.slice a0 8 c0, .slice a 64 c] w fun e w'=>∃a',e= .returned (.slice a' 8 8)∧aS cw 1 38 w.heap.size w' a' (s.Ru jf b).l 8∧Below w.heap.size w w':=by
 have HBL:=AQ hb
 clear hb
 go_enter Tryz.func122,Tryz.ntmps122
 go_wp2_with fail
 refine(BG w a b c hr HBL.o).mono ?_
 rintro e w1 ⟨a1,c1,rfl,hN,hb1⟩
 go_wp2_with fail
 refine(zk w1).mono ?_
 rintro e w2 ⟨rfl,hK,hb2,hlt2⟩
 have hB2:Below w.heap.size w w2:=hb1.trans (hb2.mono hb1.size)
 have hs2:=hs.stay jD hB2
 have HN2:=AQ ((hN.stay hb2).vec jD)
 have HK2:=AQ (hK.vec jD)
 have HS:=AQ hs2
 have i0:∀w,(Instr.indexAt 167 (.slice a0 8 c0) (.int .i64 0)).run Tryz.prog w= .ok (.pointer (some (ad a0 0))) w:=hs2.lS jJ 0 (by simp[S8.l])
 have i1:∀w,(Instr.indexAt 167 (.slice a0 8 c0) (.int .i64 1)).run Tryz.prog w= .ok (.pointer (some (ad a0 1))) w:=hs2.lS jJ 1 (by simp[S8.l])
 have i2:∀w,(Instr.indexAt 167 (.slice a0 8 c0) (.int .i64 2)).run Tryz.prog w= .ok (.pointer (some (ad a0 2))) w:=hs2.lS jJ 2 (by simp[S8.l])
 have i3:∀w,(Instr.indexAt 167 (.slice a0 8 c0) (.int .i64 3)).run Tryz.prog w= .ok (.pointer (some (ad a0 3))) w:=hs2.lS jJ 3 (by simp[S8.l])
 have i4:∀w,(Instr.indexAt 167 (.slice a0 8 c0) (.int .i64 4)).run Tryz.prog w= .ok (.pointer (some (ad a0 4))) w:=hs2.lS jJ 4 (by simp[S8.l])
 have i5:∀w,(Instr.indexAt 167 (.slice a0 8 c0) (.int .i64 5)).run Tryz.prog w= .ok (.pointer (some (ad a0 5))) w:=hs2.lS jJ 5 (by simp[S8.l])
 have i6:∀w,(Instr.indexAt 167 (.slice a0 8 c0) (.int .i64 6)).run Tryz.prog w= .ok (.pointer (some (ad a0 6))) w:=hs2.lS jJ 6 (by simp[S8.l])
 have i7:∀w,(Instr.indexAt 167 (.slice a0 8 c0) (.int .i64 7)).run Tryz.prog w= .ok (.pointer (some (ad a0 7))) w:=hs2.lS jJ 7 (by simp[S8.l])
 have HI:=AQ (And.intro i0 (And.intro i1 (And.intro i2 (And.intro i3 (And.intro i4 (And.intro i5 (And.intro i6 i7)))))))
 have e0:∀n,({w2 with drawn:=n}:World).cell? (ad a0 0)=some (vw s.a):=fun _=>hs2.cell1 0 (by simp[S8.l])
 have e1:∀n,({w2 with drawn:=n}:World).cell? (ad a0 1)=some (vw s.b):=fun _=>hs2.cell1 1 (by simp[S8.l])
 have e2:∀n,({w2 with drawn:=n}:World).cell? (ad a0 2)=some (vw s.c):=fun _=>hs2.cell1 2 (by simp[S8.l])
 have e3:∀n,({w2 with drawn:=n}:World).cell? (ad a0 3)=some (vw s.d):=fun _=>hs2.cell1 3 (by simp[S8.l])
 have e4:∀n,({w2 with drawn:=n}:World).cell? (ad a0 4)=some (vw s.e):=fun _=>hs2.cell1 4 (by simp[S8.l])
 have e5:∀n,({w2 with drawn:=n}:World).cell? (ad a0 5)=some (vw s.f):=fun _=>hs2.cell1 5 (by simp[S8.l])
 have e6:∀n,({w2 with drawn:=n}:World).cell? (ad a0 6)=some (vw s.g):=fun _=>hs2.cell1 6 (by simp[S8.l])
 have e7:∀n,({w2 with drawn:=n}:World).cell? (ad a0 7)=some (vw s.h):=fun _=>hs2.cell1 7 (by simp[S8.l])
 clear hs hN hK hb1 hb2 hlt2 hs2 hr
 go_wp2_with fail
 go_quiet (fail)
 clear i0 i1 i2 i3 i4 i5 i6 i7 e0 e1 e2 e3 e4 e5 e6 e7
 have HW:Below w2.heap.size w2 (w2.drewN nq):=below_drewN _ _ _
 go_wp2_with fail
 have HI1:Hid (∀k,k<64→∀w,(Instr.indexAt 167 (.slice a1 64 c1) (.int .i64 ((k:Nat):Int))).run Tryz.prog w= .ok (.pointer (some (ad a1 k))) w):=fun k hk=>by
  have:=HN2.o.lS jJ k (by rw[fE];exact hk)
  rwa[fE] at this
 have HI2:Hid (∀k,k<64→∀w,(Instr.indexAt 167 (.slice (some ⟨w1.heap.size,0,none⟩) 64 64) (.int .i64 ((k:Nat):Int))).run Tryz.prog w= .ok (.pointer (some (ad (some ⟨w1.heap.size,0,none⟩) k))) w):=fun k hk=>HK2.o.lS jJ k hk
 have B0:Below w2.heap.size w2 (w2.drewN nq):=HW
 clear HW
 obtain⟨X,hX⟩:=AU (sched b 64)
 obtain⟨K,hK⟩:=AU jf
 rw[←hX.o] at HN2
 rw[←hK.o] at HK2
 have HXL:Hid (X.length=64):=by rw[Hid,hX.o,fE]
 have HKL:Hid (K.length=64):=by rw[Hid,hK.o];rfl
 go_loopw [7,8,9,10,11,12,13,14,15] (fun x0 x1 x2 x3 x4 x5 x6 x7 i wr=>∃(k:Nat) (t:S8),k≤64∧i= .int .i64 k∧x0=vw t.a∧x1=vw t.b∧x2=vw t.c∧x3=vw t.d∧x4=vw t.e∧x5=vw t.f∧x6=vw t.g∧x7=vw t.h∧Hid (t=s.rounds K X k)∧Below w2.heap.size w2 wr) (fun _ _ _ _ _ _ _ _ i _=>64-(intOf i).toNat)
 case atStart=>exact⟨0,s,by omega,rfl,rfl,rfl,rfl,rfl,rfl,rfl,rfl,rfl,rfl,B0⟩
 case round=>
  clear B0
  obtain⟨k,t,hk,rfl,rfl,rfl,rfl,rfl,rfl,rfl,rfl,rfl,HT,B⟩:=hrel
  by_cases hlt:k<64
  ·have d1:decide ((k:Int)<64)=true:=by simp;omega
   have i1:=HI1.o k hlt
   have i2:=HI2.o k hlt
   have HNr:=HN2.o.stay jD B
   have HKr:=HK2.o.stay jD B
   have e1:∀n,({wr with drawn:=n}:World).cell? (ad a1 k)=some (vw (X.getD k 0)):=fun _=>by
    have h:=HNr.cell1 k (by rw[HXL.o];exact hlt)
    have h2:X.getD k 0=X[k]'(by rw[HXL.o];exact hlt):=by simp[HXL.o,hlt]
    rw[h2];exact h
   have e2:∀n,({wr with drawn:=n}:World).cell? (ad (some ⟨w1.heap.size,0,none⟩) k)=some (vw (K.getD k 0)):=fun _=>by
    have h:=HKr.cell1 k (by rw[HKL.o];exact hlt)
    have h2:K.getD k 0=K[k]'(by rw[HKL.o];exact hlt):=by simp[HKL.o,hlt]
    rw[h2];exact h
   have HR:Hid (P9 t (K.getD k 0) (X.getD k 0)=s.rounds K X (k+1)):=by rw[Hid,PZ,HT.o];rfl
   obtain⟨y1,hy1⟩:∃y,X.getD k 0=y:=⟨_,rfl⟩
   obtain⟨y2,hy2⟩:∃y,K.getD k 0=y:=⟨_,rfl⟩
   rw[hy1] at e1
   rw[hy2] at e2
   rw[hy1,hy2] at HR
   clear hy1 hy2 HNr HKr
   go_wp2_with fail
   have wa:∀x y:UInt32,IntKind.u32.wrap ((x.toNat:Int)+y.toNat)=((dH x y).toNat:Int):=jI
   go_still_tail 29,AB
   still_call (wG _ t.e 6 6 rfl AP AP)
   repeat still_step
   still_call (wG _ t.e 11 11 rfl AP AP)
   repeat still_step
   still_call (wG _ t.e 25 25 rfl AP AP)
   repeat still_step
   refine wpStill_nil ?_
   change wpList _ _ _ _ _ wr.drew
   have Bd:Below w2.heap.size w2 wr.drew:=B.trans (below_drewN _ _ 1)
   generalize wr.drew=W at Bd ⊢
   go_wp2_with fail
   refine(wG _ t.a 2 2 rfl AP AP).mono ?_
   rintro e w3 ⟨rfl,rfl⟩
   go_wp2_with fail
   refine(wG _ t.a 13 13 rfl AP AP).mono ?_
   rintro e w3 ⟨rfl,rfl⟩
   go_wp2_with fail
   refine(wG _ t.a 22 22 rfl AP AP).mono ?_
   rintro e w3 ⟨rfl,rfl⟩
   go_wp2_with fail
   go_roundw
   case rel=>exact⟨k+1,P9 t y2 y1,by omega,by go_num,rfl,rfl,rfl,rfl,rfl,rfl,rfl,rfl,HR,Bd⟩
   case measure=>simp[intOf];omega
  ·have hk2:k=64:=by omega
   have d1:decide ((k:Int)<64)=false:=by simp;omega
   have hsr:=HS.o.stay jD B
   obtain⟨i0,i1,i2,i3,i4,i5,i6,i7⟩:=HI.o
   have e0:∀n,({wr with drawn:=n}:World).cell? (ad a0 0)=some (vw s.a):=fun _=>hsr.cell1 0 (by simp[S8.l])
   have e1:∀n,({wr with drawn:=n}:World).cell? (ad a0 1)=some (vw s.b):=fun _=>hsr.cell1 1 (by simp[S8.l])
   have e2:∀n,({wr with drawn:=n}:World).cell? (ad a0 2)=some (vw s.c):=fun _=>hsr.cell1 2 (by simp[S8.l])
   have e3:∀n,({wr with drawn:=n}:World).cell? (ad a0 3)=some (vw s.d):=fun _=>hsr.cell1 3 (by simp[S8.l])
   have e4:∀n,({wr with drawn:=n}:World).cell? (ad a0 4)=some (vw s.e):=fun _=>hsr.cell1 4 (by simp[S8.l])
   have e5:∀n,({wr with drawn:=n}:World).cell? (ad a0 5)=some (vw s.f):=fun _=>hsr.cell1 5 (by simp[S8.l])
   have e6:∀n,({wr with drawn:=n}:World).cell? (ad a0 6)=some (vw s.g):=fun _=>hsr.cell1 6 (by simp[S8.l])
   have e7:∀n,({wr with drawn:=n}:World).cell? (ad a0 7)=some (vw s.h):=fun _=>hsr.cell1 7 (by simp[S8.l])
   have wa:∀x y:UInt32,IntKind.u32.wrap ((x.toNat:Int)+y.toNat)=((dH x y).toNat:Int):=jI
   have HE:Hid ([dH s.a t.a,dH s.b t.b,dH s.c t.c,dH s.d t.d,dH s.e t.e,dH s.f t.f,dH s.g t.g,dH s.h t.h]=(s.Ru jf b).l):=by
    rw[Hid,S8.Ru,←hX.o,←hK.o,←hk2,←HT.o]
    simp only[S8.plus,S8.l]
    unfold dH
    simp only[UInt32.add_comm]
   clear hk2 hsr
   go_wp2_with fail
   go_still_tail 40,AB
   change wpList _ _ _ _ _ wr.drew
   have Bd:Below w2.heap.size w2 wr.drew:=B.trans (below_drewN _ _ 1)
   generalize wr.drew=W at Bd ⊢
   go_wp2_with fail
   go_ret
   have hBW:Below w.heap.size w W:=hB2.trans (Bd.mono hB2.size)
   refine⟨some ⟨W.heap.size,0,none⟩,rfl, ?_,hBW.trans ((Below.refl _ _).alloc hBW.size _)⟩
   rw[←HE.o]
   exact(jh W _ 38 1 _ jD (by rw[yP];rfl) AO).low hBW.size
open Go Go.RowKit Go.Cit
theorem ND (n:Nat):iH (8*(n:Int))=jV (qI 8) (iH n):=by
 apply UInt64.toNat_inj.1
 have h1:((iH (8*(n:Int))).toNat:Int)=(8*(n:Int))%18446744073709551616:=lD _
 have h2:((iH (n:Int)).toNat:Int)=(n:Int)%18446744073709551616:=lD _
 have h3:((qI 8).toNat:Int)=8:=xq 8 AP AP
 have h4:(jV (qI 8) (iH (n:Int))).toNat=(qI 8).toNat*(iH (n:Int)).toNat%18446744073709551616:=by unfold jV;rw[UInt64.toNat_mul]
 have h5:(qI 8).toNat=8:=by omega
 rw[h4,h5]
 omega
section
variable {P:Program} {T E:TypeId}
theorem yT (hBT:gW P T E) {w0:World} {ops:Array Oper} {rest:List Oper} {o:Oper} {act:Act} {Q:Exit→Act→World→Prop} (s x:Operand) (hgd:o.guard=none)
 (ho:o.op= .call {callee:= .builtin .append,args:= #[s,x],argTypes:= #[T,T]}) {base:Nat} {cs:Array Value}
 {a:Option Addr} {l:List UInt8} {cap:Nat} {b:UInt8} (hcs:cs= #[vb b]) (hown:Cit.Own E base w0 a l cap) (hlen:l.length≤1000000000) (hbase:base≤w0.heap.size)
 (hs:act.eval s= .slice a l.length cap) (hx:act.eval x= .slice (some ⟨w0.heap.size,0,none⟩) 1 1)
 (h:∀a' cap' w',Cit.Own E base w' a' (l++ [b]) cap'→w0.grownBy w' (Cit.blk a)→wpList P ops Q rest (act.put o.dst (.slice a' (l++ [b]).length cap')) w'):wpList P ops Q (o::rest) act (w0.alloc (.cells cs E)):=by
 subst hcs;exact iU hBT s x hgd ho hown hlen hbase hs hx h
end
theorem I4 (z:Nat):(List.replicate z (0:UInt8))++ [0]=List.replicate (z+1) 0:=by rw[List.replicate_succ']
theorem BZ (w:World) (n:Nat) (hn:n≤100000000):
 Calls Tryz.prog 120 #[.int .i64 n] w fun e w'=>∃a c,e= .returned (.slice a (jl n).length c)∧Cit.Own 5 w.heap.size w' a (jl n) c∧Below w.heap.size w w':=by
 obtain⟨z,hz⟩:=AU ((119-n%64)%64)
 have hz1:z≤63:=by rw[hz.o];omega
 have hz2:(n+z+9)%64=0:=by rw[hz.o];omega
 have hz3:∀j,j<z→(n+j+9)%64≠0:=fun j hj=>by rw[hz.o] at hj;omega
 have HZ:=AQ (And.intro hz2 hz3)
 clear hz2 hz3
 have B0:Below w.heap.size w (w.alloc (.cells #[vb 128] 5)):=(Below.refl _ _).alloc (Nat.le_refl _) _
 have O0:=kZ w #[vb 128] 5 [128] rfl AP
 have HB:=AQ (And.intro B0 O0)
 clear B0 O0
 go_enter Tryz.func120,Tryz.ntmps120
 go_wp2_with fail
 obtain⟨B0,O0⟩:=HB.o
 go_loopw [3] (fun v wr=>∃(j:Nat) (a:Option Addr) (c:Nat) (L:List UInt8),j≤z∧v= .slice a L.length c∧Hid (L=128::List.replicate j 0)∧Cit.Own 5 w.heap.size wr a L c∧Below w.heap.size w wr) (fun v _=>200-(match v with | .slice _ n _=>n |_=>0))
 case atStart=>exact⟨0,_,_,[128],Nat.zero_le _,rfl,rfl,O0,B0⟩
 case round=>
  clear O0 B0
  obtain⟨j,a,c,L,hj,rfl,HL,hO,B⟩:=hrel
  have HLL:Hid (L.length=j+1):=by rw[Hid,HL.o];simp
  have hL9:L.length≤64:=by rw[HLL.o];omega
  by_cases hlt:j<z
  ·have d1:(((n:Int)+(L.length:Int)+8)%64 !=0)=true:=by
    rw[bne_iff_ne];have:=HZ.o.2 j hlt;rw[HLL.o];omega
   have h9:L.length≤1000000000:=by omega
   have HLS:Hid (L++ [0]=128::List.replicate (j+1) 0):=by rw[Hid,HL.o,List.cons_append,I4]
   go_wp2_with (first
    | ((with_reducible refine yT (o:=⟨some 14, .call _,_,_,_,_⟩) bt (.tmp 12) (.tmp 13) AA AA (b:=0) AA hO h9 B.size AA AA ?_);intro a2 c2 w2 hO2 hg2;have HO2:=AQ hO2;have HB2:=AQ (B.trans (grown_below hg2 B.size (fun k hk=>(hO.aK hk).1)));clear hO2 hg2))
   go_roundw
   case rel=>exact⟨j+1,_,_,_,by omega,by simp,HLS,HO2.o,HB2.o⟩
   case measure=>simp;omega
  ·have hjz:j=z:=by omega
   have d1:(((n:Int)+(L.length:Int)+8)%64 !=0)=false:=by
    rw[bne_eq_false_iff_eq];have:=HZ.o.1;rw[HLL.o];omega
   have HT:Hid (L++rowB (jV (qI 8) (iH n)) 8=jl n):=by rw[Hid,HL.o,hjz,hz.o];rfl
   have HNU:=AQ (ND n)
   clear hjz
   go_wp2_with fail
   have hq:(8*(n:Int))=((jV (qI 8) (iH n)).toNat:Int):=by
    have:=lD (8*(n:Int));rw[HNU.o] at this;omega
   have hp:Calls Tryz.prog 200 #[.int .u64 ((jV (qI 8) (iH n)).toNat:Int), .int .i64 8] wr _:=lY wr (jV (qI 8) (iH n)) 8 AP
   rw[←hq] at hp
   refine hp.mono ?_
   rintro e w2 ⟨a2,c2,rfl,hO2,hb2⟩
   have hO1:=hO.isRow.stay hb2
   have hr2:=hO2.isRow
   have hlr:(rowB (jV (qI 8) (iH n)) 8).length=8:=aB _ _
   have B2:=B.trans (hb2.mono B.size)
   have hc:=mD w2 a a2 L (rowB (jV (qI 8) (iH n)) 8) c c2 hO1 hr2 AL AL
   rw[hlr,HT.o] at hc
   have HC:=AQ hc
   clear hq hp hc hlr hr2 hO1 hO2 hb2 hO
   go_wp2_with fail
   refine HC.o.mono ?_
   rintro e w3 ⟨a3,c3,rfl,hO3,hb3⟩
   have HO3:=AQ hO3
   have HB3:=AQ (B2.trans (hb3.mono B2.size))
   clear hO3 hb3
   go_wp2_with fail
   go_ret
   exact⟨a3,c3,rfl,⟨(HO3.o.low B2.size).row⟩,HB3.o⟩
open Go Go.RowKit Go.Cit
theorem MW (n:Nat):9≤(jl n).length∧(jl n).length≤72:=by
 unfold jl
 have:(119-n%64)%64<64:=Nat.mod_lt _ AP
 simp[aB];omega
theorem EP (w:World) (a:Option Addr) (b:List UInt8) (c:Nat) (hr:Row w a b c) (hb:b.length≤10000000):
 Calls Tryz.prog 53 #[.slice a b.length c] w fun e w'=>e= .returned (.agg ((jX b).map vb).toArray)∧Below w.heap.size w w':=by
 have HA:=AQ (fun ρ d ty ps af w=>jL ρ d ty ps (af:=af) w)
 obtain⟨X,hX⟩:=AU (((List.replicate 32 (0:UInt8)).map vb).toArray)
 rw[←hX.o] at HA
 have HX:Hid (X.size=32):=by rw[Hid,hX.o];simp
 have B0:Below w.heap.size w (w.alloc (.cells X 53)):=(Below.refl _ _).alloc (Nat.le_refl _) _
 have x0:(w.alloc (.cells X 53)).heap[w.heap.size]? =some (.cells X 53 (0,0)):=heap_alloc_new w _
 have HB:=AQ (And.intro x0 (And.intro B0 (hr.stay B0)))
 have HBL:=AQ hb
 clear B0 x0 hr
 go_enter Tryz.func53,Tryz.ntmps53
 go_wp2_with (first
  | ((with_reducible refine aj (o:=⟨some 2, .alloc _,_,_,_,_⟩) AA (HA.o _ _ _ _ _ _) ?_)))
 obtain⟨x0,B0,R0⟩:=HB.o
 refine(BZ _ b.length AL).mono ?_
 rintro e w5 ⟨a5,c5,rfl,hO5,hb5⟩
 have hr0:Row w5 a b c:=R0.stay hb5
 have hr5:=hO5.isRow
 have htl:=MW b.length
 have x5:=(hb5.block _ (Array.getElem?_eq_some_iff.1 x0).1).trans x0
 have B5:=B0.trans (hb5.mono B0.size)
 have hl5:w.heap.size<w5.heap.size:=(Array.getElem?_eq_some_iff.1 x5).1
 have HC6:=AQ (mD w5 a a5 b (jl b.length) c c5 hr0 hr5 AL AL)
 clear hO5 hb5 hr0 hr5 x0 B0 R0
 go_wp2_with fail
 refine HC6.o.mono ?_
 rintro e w6 ⟨a6,c6,rfl,hO6,hb6⟩
 have hW:=zV b.length
 obtain⟨M,hM⟩:=AU (b++jl b.length)
 rw[←hM.o] at hO6 ⊢
 obtain⟨n,hn⟩:∃n,M.length=64*n:=⟨M.length/64,by rw[hM.o,List.length_append];omega⟩
 have HN:Hid (n=(b.length+(jl b.length).length)/64):=by rw[Hid,←List.length_append,←hM.o,hn];omega
 have hML:M.length≤20000000:=by rw[hM.o,List.length_append];omega
 have x6:=(hb6.block _ hl5).trans x5
 have B6:=B5.trans (hb6.mono B5.size)
 have r6:=hO6.isRow
 have HMN:=AQ hn
 have hnb:n≤20000000:=by omega
 have hl6:w.heap.size<w6.heap.size:=(Array.getElem?_eq_some_iff.1 x6).1
 clear hO6 hb6 htl hW hn x5 B5
 go_wp2_with fail
 refine(zI w6).mono ?_
 rintro e w7 ⟨rfl,hO7,hb7,_⟩
 have x7:=(hb7.block _ hl6).trans x6
 have B7:=B6.trans (hb7.mono B6.size)
 have HR7:=AQ (r6.stay hb7)
 have hl7:w.heap.size<w7.heap.size:=(Array.getElem?_eq_some_iff.1 x7).1
 have hv7:=hO7.vec jD
 clear hO7 hb7 x6 B6 r6
 go_wp2_with fail
 go_loopw [4,5] (fun v i wr=>∃(k:Nat) (a':Option Addr) (c':Nat),k≤n∧i= .int .i64 ((64*k:Nat):Int)∧v= .slice a' 8 c'∧Vec cw 1 wr a' (gy jf k fK M).l c'∧Below w7.heap.size w7 wr) (fun _ i _=>64*n+64-(intOf i).toNat)
 case atStart=>exact⟨0,_,_,Nat.zero_le _,rfl,rfl,hv7,Below.refl _ _⟩
 case round=>
  clear hv7
  obtain⟨k,a',c',hk,rfl,rfl,hv,B⟩:=hrel
  obtain⟨q,hq⟩:∃q,64*k=q:=⟨_,rfl⟩
  have HQ:=AQ hq
  have hq9:q≤M.length:=by rw[HMN.o];omega
  by_cases hlt:k<n
  ·have d1:decide (q<M.length)=true:=by have:=HMN.o;simp;omega
   have hq64:q+64≤M.length:=by rw[HMN.o];omega
   obtain⟨am,m,cm,hm,hrun,rm⟩:=(HR7.o.stay B).part bt.slice bt.sz q (q+64) AL hq64
   have hm64:m.length=64:=by rw[hm,List.length_drop,List.length_take];omega
   have hmp:(M.drop (64*k)).take 64=m:=by
    rw[hm,List.drop_take,HQ.o]
    congr 1;omega
   have hrun':∀w,(Instr.sliceAt 40 (.slice a6 M.length c6) (some (.int .i64 (q:Int))) (some (.int .i64 ((q:Int)+64))) none).run Tryz.prog w= .ok (.slice am 64 cm) w:=by
    intro w
    have:=hrun w
    rw[hm64] at this
    exact this
   have hek:=D8 wr a' (gy jf k fK M) c' hv am m cm rm hm64
   rw[←hmp,←qU] at hek
   have HEK:=AQ hek
   clear hek hmp hm hm64 hrun rm hv
   rw[hq]
   clear hq
   go_wp2_with fail
   refine HEK.o.mono ?_
   rintro e wr' ⟨a2,rfl,hO2,hb2⟩
   have HV2:=AQ (hO2.vec jD)
   have HB2:=AQ (B.trans (hb2.mono B.size))
   clear hO2 hb2
   go_wp2_with fail
   go_roundw
   case rel=>exact⟨k+1,a2,8,by omega,by rw[←HQ.o];go_num,rfl,HV2.o,HB2.o⟩
   case measure=>have:=HMN.o;simp[intOf];omega
  ·obtain rfl:k=n:=by omega
   have d1:decide (q<M.length)=false:=by have:=HMN.o;simp;omega
   rw[hq]
   clear hq
   have HPC:=AQ (Az wr a' (gy jf k fK M) c' hv)
   have HXr:Hid (wr.heap[w.heap.size]? =some (.cells X 53 (0,0))):=(B.block _ hl7).trans x7
   have HBM:Hid (jX b=iy (gy jf k fK M)):=by rw[Hid,jX,HN.o,hM.o]
   clear hv
   go_wp2_with fail
   refine HPC.o.mono ?_
   rintro e wz ⟨rfl,hbz⟩
   have HX8:Hid (wz.heap[w.heap.size]? =some (.cells X 53 (0,0))):=(hbz.block _ (Array.getElem?_eq_some_iff.1 HXr.o).1).trans HXr.o
   have HBZ:=AQ hbz
   obtain⟨R,hR0⟩:=AU (((iy (gy jf k fK M)).map vb).toArray)
   rw[←hR0.o]
   have HRs:Hid (R.size=32):=by rw[Hid,hR0.o];simp[tK]
   have HRo:Hid (R.all (·.oneCell')=true):=by rw[Hid,hR0.o];exact nT _
   clear hbz
   go_wp2_with (first
    | ((with_reducible refine ay (o:=⟨none, .store _ (.tmp 2) (.tmp 26),_,_,_,_⟩) iL (.tmp 2) (.tmp 26) AA AA AA AA AA HX8.o HX.o HRs.o HRo.o ?_);intro wq hbq hsq;have HBQ:=AQ hbq;have HSQ:=AQ hsq;clear hbq hsq))
   refine bodyPost_ret (ig iL rfl rfl HBQ.o HRs.o) rfl ⟨?_, ?_⟩
   ·rw[HBM.o,hR0.o]
   ·have h8:Below w.heap.size w wr:=B7.trans (B.mono B7.size)
    exact h8.trans ((HBZ.o.mono h8.size).trans (HSQ.o.below (by have:=h8.size;have:=HBZ.o.size;omega) (fun j hj=>by omega)))
open Go Go.RowKit Go.Cit
theorem Qu (W:World) (g:Nat) {a1 a2:Option Addr} {l1 l2:List UInt8} {c1 c2:Nat} (h1:W.cell? ⟨g,0,none⟩=some (.slice a1 l1.length c1)) (h2:W.cell? ⟨g,1,none⟩=some (.slice a2 l2.length c2)) (r1:Row W a1 l1 c1) (r2:Row W a2 l2 c2) (hl:l1.length≤300000000) (hl2:l2.length≤300000000):
 Calls Tryz.prog 110 #[.slice (some ⟨g,0,none⟩) 2 2] W fun e w'=>∃a cp,e= .returned (.slice a (l1++l2).length cp)∧Mine W.heap.size w' a (l1++l2) cp∧Below W.heap.size W w':=by
 have hP:Lib.PartsAt W ⟨g,0,none⟩ [.slice a1 l1.length c1, .slice a2 l2.length c2] [l1,l2]:=by
  refine⟨rfl,fun i v hv=> ?_,fun i v l hv hl=> ?_⟩
  ·match i with
   | 0=>simp at hv;subst hv;simpa[Addr.add] using h1
   | 1=>simp at hv;subst hv;simpa[Addr.add] using h2
   | i+2=>simp at hv
  ·match i with
   | 0=>simp at hv hl;subst hv hl;exact dF r1
   | 1=>simp at hv hl;subst hv hl;exact dF r2
   | i+2=>simp at hv
 refine(kQ W g 0 2 _ _ hP AO (by simp;omega) AO).mono ?_
 rintro e w' ⟨a,cp,rfl,hm,hb⟩
 simp only[List.flatten_cons,List.flatten_nil,List.append_nil] at hm ⊢
 exact⟨a,cp,rfl,hm,hb⟩
end Go.Proofs.YtlholdllibghbaaGreat
