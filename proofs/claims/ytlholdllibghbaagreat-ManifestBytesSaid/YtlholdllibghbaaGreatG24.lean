/- Texts of the proof, one behind the other: ShaSched, BoxTwo, Repeat, ShaEat1. No condition but those that each names. -/
import Derived.Test.YtlholdllibghbaaGreatG22
import Derived.Test.YtlholdllibghbaaGreatG23
import Derived.Test.YtlholdllibghbaaGreatG05
import Derived.StillTailTactics
import Derived.Test.YtlholdllibghbaaGreatG07
import Derived.Test.YtlholdllibghbaaGreatG10
import Derived.Test.YtlholdllibghbaaGreatG04
import Derived.Lib.MakeNoZero
import Derived.Lib.SlBuf
import Derived.Laws.Externs
import Derived.Lib.SlFresh
import Derived.IntWalk
import Derived.Test.YtlholdllibghbaaGreatKit
set_option maxRecDepth 100000
set_option maxHeartbeats 8000000
namespace Go.Proofs.YtlholdllibghbaaGreat
open Go Go.RowKit Go.Cit
theorem sF {T:TypeId} {w:World} {b:Nat} {S R:List UInt32} (h:nO T w b (S++R)) (i:Nat) (hi:i<S.length):w.cell? ⟨b,i,none⟩=some (vw (S.getD i 0)):=by
 have:=h.cell i (by rw[List.length_append];omega)
 rw[this,List.getElem_append_left hi];simp[hi]
theorem Fe {T:TypeId} {w:World} {b n k:Nat} {S:List UInt32} (h:nO T w b (S++List.replicate (n-k) 0)) (hS:S.length=k) (hk:k<n) (x:UInt32):
 nO T (w.setCell ⟨b,k,none⟩ (vw x)) b ((S++ [x])++List.replicate (n-(k+1)) 0):=by
 have h1:=h.set k x
 obtain⟨m,hm⟩:∃m,n-k=m+1:=⟨n-k-1,by omega⟩
 rw[hm,List.set_append_right _ _ AL,hS,Nat.sub_self,List.replicate_succ,List.set_cons_zero] at h1
 rw[show n-(k+1)=m by omega,List.append_assoc]
 exact h1
theorem Dn {T:TypeId} {w:World} {b n k:Nat} {S:List UInt32} (h:nO T w b (S++List.replicate (n-k) 0)) (hS:S.length=k) (hk:k<n):∃v,w.cell? ⟨b,k,none⟩=some v:=
 ⟨_,h.cell k (by rw[List.length_append,List.length_replicate];omega)⟩
theorem NR (b:List UInt8) (hb:b.length=64):Jr 4 b=16:=by unfold Jr;rw[hb]
theorem Gj (b:List UInt8) (hb:b.length=64) (k:Nat) (hk:k<16):gX (kD 4 b k) 0 4=(dS ((b.drop (4*k)).take 4),true):=by
 have h1:(kD 4 b k).length=4:=by unfold kD;rw[List.length_take,List.length_drop,hb];omega
 unfold gX
 rw[if_pos (by rw[h1];omega),Int.toNat_zero,List.drop_zero,List.take_of_length_le AL]
 unfold kD
 rw[Nat.mul_comm]
theorem Gp (ρ:Operand→Value) (d:Option Tmp) (ty:TypeId) (ps:String) {af} (w:World):
 (execOp ρ {dst:=d,op:=Op.alloc 160,type:=ty,pos:=ps,after:=af,guard:=none}).run Tryz.prog w= .ok (.value (.pointer (some ⟨w.heap.size,0,none⟩))) (w.alloc (.cells ((List.replicate 64 (0:UInt32)).map vw).toArray 160)):=by
 kernel_rfl
theorem wJ:fO Tryz.prog 160 64:=⟨⟨_,Tryz.underlying160,rfl⟩,by kernel_rfl⟩
theorem yY (w:World) (a:Option Addr) (b:List UInt8) (c:Nat) (hr:Row w a b c) (hb:b.length=64):
 Calls Tryz.prog 198 #[.slice a 64 c] w fun e w'=>e= .returned (.agg ((sched b 64).map vw).toArray)∧Below w.heap.size w w':=by
 have HA:=AQ (fun ρ d ty ps af w=>Gp ρ d ty ps (af:=af) w)
 obtain⟨Z,hZ⟩:=AU (((List.replicate 64 (0:UInt32)).map vw).toArray)
 rw[←hZ.o] at HA
 have HZ:Hid (Z.size=64):=by rw[Hid,hZ.o];simp
 have b0:=heap_alloc_new w (.cells Z 160)
 have b1:=heap_alloc_new (w.alloc (.cells Z 160)) (.cells Z 160)
 rw[World.size_alloc] at b1
 have b0:=(Below.heap_alloc (w.alloc (.cells Z 160)) (.cells Z 160) w.heap.size AO).trans b0
 have gB:Below w.heap.size w ((w.alloc (.cells Z 160)).alloc (.cells Z 160)):=((Below.refl _ _).alloc (Nat.le_refl _) _).alloc AO _
 have hsz:((w.alloc (.cells Z 160)).alloc (.cells Z 160)).heap.size=w.heap.size+2:=by simp
 have hp:=Kz ((w.alloc (.cells Z 160)).alloc (.cells Z 160)) a b c 4 (hr.stay gB) AP AP AL
 rw[hb] at hp
 have HB:=AQ (And.intro b0 (And.intro b1 (And.intro gB hsz)))
 have HPP:=AQ hp
 have HBL:=AQ hb
 clear b0 b1 gB hsz hp hr hb
 go_enter Tryz.func198,Tryz.ntmps198
 go_wp2_with (first
  | ((with_reducible refine aj (o:=⟨some 2, .alloc _,_,_,_,_⟩) AA (HA.o _ _ _ _ _ _) ?_))
  | ((with_reducible refine aj (o:=⟨some 3, .alloc _,_,_,_,_⟩) AA (HA.o _ _ _ _ _ _) ?_)))
 refine Calls.mono HPP.o ?_
 rintro e w2 ⟨a2,ds,c2,rfl,hds,hR,hN,hb2⟩
 obtain⟨b0,b1,gB,hsz⟩:=HB.o
 rw[hsz] at hb2 hN
 have hs2:=hb2.size
 rw[hsz] at hs2
 have A0:w2.heap[w.heap.size]? =some (.cells Z 160):=(hb2.block _ AL).trans b0
 have A1:nO 160 w2 (w.heap.size+1) (sched b 0++List.replicate (64-0) 0):=by
  have:=(hb2.block (w.heap.size+1) AL).trans b1
  rw[hZ.o] at this;exact this
 have B2:Below w.heap.size w w2:=gB.trans (hb2.mono AL)
 have hdl:ds.length=16:=by
  have:=congrArg List.length hds
  rw[List.length_map] at this
  rw[this,Ei,List.length_map,List.length_range,NR b HBL.o]
 have HD:Hid (∀k (h:k<ds.length),ds[k].l=kD 4 b k):=by
  intro k h
  have h1:(ds.map (·.l))[k]? =some (kD 4 b k):=by
   rw[hds,Ei,NR b HBL.o,List.getElem?_map,List.getElem?_range AL];rfl
  rw[List.getElem?_map,List.getElem?_eq_getElem h] at h1
  exact Option.some.inj h1
 have HDL:=AQ hdl
 have HNW:=AQ hN
 clear b0 b1 gB hsz HB hb2 hds hN hdl
 go_wp2_with fail
 go_loopw [12] (fun i wr=>∃(k:Nat) (S:List UInt32),k≤16∧i= .int .i64 k∧Hid (S=sched b k)∧nO 160 wr (w.heap.size+1) (S++List.replicate (64-k) 0)∧wr.heap[w.heap.size]? =some (.cells Z 160)∧Rows wr a2 ds c2∧Below w.heap.size w wr) (fun i _=>16-(intOf i).toNat)
 case atStart=>exact⟨0,_,Nat.zero_le _,rfl,rfl,A1,A0,hR,B2⟩
 case round=>
  clear A0 A1 hR B2
  obtain⟨k,S,hk,rfl,HL,A1,A0,hR,B⟩:=hrel
  have HSL:Hid (S.length=k):=by rw[Hid,HL.o,fE]
  by_cases hlt:k<16
  ·have hkd:k<ds.length:=by rw[HDL.o];exact hlt
   have d1:decide ((k:Int)<(ds.length:Int))=true:=by simp;omega
   have d1':decide (k<ds.length)=true:=by simpa using hkd
   have i0:=hR.index k hkd
   have e0:=hR.cell k hkd
   have hrow:=hR.row ds[k] (List.getElem_mem hkd)
   have hpl:=HD.o k hkd
   have hnb:∀g,Go.Cit.blk ds[k].a=some g→w.heap.size+2≤g:=HNW.o.2 _ (List.getElem_mem hkd)
   generalize ds[k]=d at e0 hrow hpl hnb
   have hld:=vO wr d.a d.l d.c 0 hrow
   rw[hpl,Gj b HBL.o k hlt] at hld
   rw[hpl] at e0
   obtain⟨x,hx⟩:∃x,sK (dS ((b.drop (4*k)).take 4))=x:=⟨_,rfl⟩
   dsimp only at hld
   rw[hx] at hld
   have i1:=fun W=>jm (T:=160) (n:=64) Tryz.underlying160 (w.heap.size+1) k AL W
   obtain⟨v1,c1⟩:=Dn A1 HSL.o AL
   have f1:=A1.free k
   have HS:=AQ (Fe A1 HSL.o AL x)
   have HLS:Hid (S++ [x]=sched b (k+1)):=by rw[Hid,sched,if_pos hlt,hx,←HL.o]
   have hsv:Save (· ≠w.heap.size+1) wr (wr.setCell ⟨w.heap.size+1,k,none⟩ (vw x)):=Save.set
   have HN:Hid (wr.setCell ⟨w.heap.size+1,k,none⟩ (vw x) |>.heap[w.heap.size]? |>(· =some (.cells Z 160))):=(hsv.block _ (Array.getElem?_eq_some_iff.1 A0).1 AL).trans A0
   have HR2:=AQ (hR.save hsv (fun g hg=>by have:=HNW.o.1 g hg;omega) (fun d hd g hg=>by have:=HNW.o.2 d hd g hg;omega))
   have HB2:=AQ (B.setCell (p:=⟨w.heap.size+1,k,none⟩) (by show w.heap.size≤w.heap.size+1;omega) (vw x))
   clear hpl hrow hnb hsv hx
   go_wp2_with fail
   refine hld.mono ?_
   rintro e w' ⟨rfl,rfl⟩
   go_wp2_with fail
   go_roundw
   case rel=>exact⟨k+1,_,by omega,by go_num,HLS,HS.o,HN.o,HR2.o,HB2.o⟩
   case measure=>simp[intOf];omega
  ·have hk2:k=16:=by omega
   have d1:decide ((k:Int)<(ds.length:Int))=false:=by rw[HDL.o,hk2];rfl
   have d1':decide (k<ds.length)=false:=by rw[HDL.o,hk2];rfl
   have HS2:Hid (S=sched b 16):=by rw[Hid,HL.o,hk2]
   have A1':nO 160 wr (w.heap.size+1) (S++List.replicate (64-16) 0):=by rw[←hk2];exact A1
   clear hk2 HL HSL A1 hR HD HDL HNW
   go_wp2_with fail
   go_loopw [8] (fun i wr=>∃(k:Nat) (S:List UInt32),16≤k∧k≤64∧i= .int .i64 k∧Hid (S=sched b k)∧nO 160 wr (w.heap.size+1) (S++List.replicate (64-k) 0)∧wr.heap[w.heap.size]? =some (.cells Z 160)∧Below w.heap.size w wr) (fun i _=>64-(intOf i).toNat)
   case atStart=>exact⟨16,_,by omega,by omega,rfl,HS2,A1',A0,B⟩
   case round=>
    clear HS2 A1' A0 B
    obtain⟨k,S,hk1,hk,rfl,HL,A1,A0,B⟩:=hrel
    have HSL:Hid (S.length=k):=by rw[Hid,HL.o,fE]
    by_cases hlt:k<64
    ·have d2:decide ((k:Int)<64)=true:=by simp;omega
     obtain⟨m16,hm16⟩:∃m,k=m+16:=⟨k-16,by omega⟩
     have w16:IntKind.i64.wrap ((k:Int)-16)=((m16:Nat):Int):=by rw[show(k:Int)-16=((m16:Nat):Int) by omega];exact IntWalk.i64_in _ AL
     obtain⟨m7,hm7⟩:=AV (m16+9)
     obtain⟨m15,hm15⟩:=AV (m16+1)
     obtain⟨m2,hm2⟩:=AV (m16+14)
     have w7:IntKind.i64.wrap ((k:Int)-7)=(m7:Int):=by rw[show(k:Int)-7=(m7:Int) by omega];exact IntWalk.i64_in _ AL
     have w15:IntKind.i64.wrap ((k:Int)-15)=(m15:Int):=by rw[show(k:Int)-15=(m15:Int) by omega];exact IntWalk.i64_in _ AL
     have w2':IntKind.i64.wrap ((k:Int)-2)=(m2:Int):=by rw[show(k:Int)-2=(m2:Int) by omega];exact IntWalk.i64_in _ AL
     have HKS:=HSL.o
     have ix:=fun (i:Nat) (hi:i<64) (W:World)=>jm (T:=160) (n:=64) Tryz.underlying160 (w.heap.size+1) i hi W
     have i16:=ix m16 AL
     have i7:=ix m7 AL
     have i15:=ix m15 AL
     have i2:=ix m2 AL
     have ik:=ix k AL
     have c16:∀n,({wr with drawn:=n}:World).cell? ⟨w.heap.size+1,m16,none⟩=some (vw (S.getD m16 0)):=fun _=>sF A1 m16 AL
     have c7:∀n,({wr with drawn:=n}:World).cell? ⟨w.heap.size+1,m7,none⟩=some (vw (S.getD m7 0)):=fun _=>sF A1 m7 AL
     have c15:∀n,({wr with drawn:=n}:World).cell? ⟨w.heap.size+1,m15,none⟩=some (vw (S.getD m15 0)):=fun _=>sF A1 m15 AL
     have c2:∀n,({wr with drawn:=n}:World).cell? ⟨w.heap.size+1,m2,none⟩=some (vw (S.getD m2 0)):=fun _=>sF A1 m2 AL
     obtain⟨x,hx⟩:=AV (dH (dH (dH (S.getD m16 0) (S.getD m7 0)) (pY 7 18 3 (S.getD m15 0))) (pY 17 19 10 (S.getD m2 0)))
     have HLS:Hid (S++ [x]=sched b (k+1)):=by
      rw[Hid,sched,if_neg AL,←HL.o,hx,show k-16=m16 by omega,show k-7=m7 by omega,show k-15=m15 by omega,show k-2=m2 by omega]
     obtain⟨y16,hy16⟩:∃y,S.getD m16 0=y:=⟨_,rfl⟩
     obtain⟨y7,hy7⟩:∃y,S.getD m7 0=y:=⟨_,rfl⟩
     obtain⟨y15,hy15⟩:∃y,S.getD m15 0=y:=⟨_,rfl⟩
     obtain⟨y2,hy2⟩:∃y,S.getD m2 0=y:=⟨_,rfl⟩
     rw[hy16,hy7,hy15,hy2] at hx
     rw[hy16] at c16
     rw[hy7] at c7
     rw[hy15] at c15
     rw[hy2] at c2
     have A1d:nO 160 wr.drew (w.heap.size+1) (S++List.replicate (64-k) 0):=A1
     have A0d:wr.drew.heap[w.heap.size]? =some (.cells Z 160):=A0
     have Bd:Below w.heap.size w wr.drew:=B.trans (below_drewN _ _ 1)
     have HX:=AQ hx
     have wa:∀x y:UInt32,IntKind.u32.wrap ((x.toNat:Int)+y.toNat)=((dH x y).toNat:Int):=jI
     clear hm16 hm7 hm15 hm2 hy16 hy7 hy15 hy2 hx HKS ix
     go_wp2_with fail
     go_still_tail 23,AB
     still_call (xO _ y15 7 18 3 AP AP AP AP AP)
     repeat still_step
     still_call (xO _ y2 17 19 10 AP AP AP AP AP)
     repeat still_step
     refine wpStill_nil ?_
     change wpList _ _ _ _ _ wr.drew
     generalize wr.drew=wr at A1d A0d Bd ⊢
     obtain⟨v1,c1⟩:=Dn A1d HSL.o AL
     have f1:=A1d.free k
     have HS:=AQ (Fe A1d HSL.o AL x)
     have hsv:Save (· ≠w.heap.size+1) wr (wr.setCell ⟨w.heap.size+1,k,none⟩ (vw x)):=Save.set
     have HN:Hid (wr.setCell ⟨w.heap.size+1,k,none⟩ (vw x) |>.heap[w.heap.size]? |>(· =some (.cells Z 160))):=(hsv.block _ (Array.getElem?_eq_some_iff.1 A0d).1 AL).trans A0d
     have HB2:=AQ (Bd.setCell (p:=⟨w.heap.size+1,k,none⟩) (by show w.heap.size≤w.heap.size+1;omega) (vw x))
     rw[HX.o] at HS HN HB2 HLS
     clear hsv
     go_wp2_with fail
     go_roundw
     case rel=>exact⟨k+1,_,by omega,by omega,by go_num,HLS,HS.o,HN.o,HB2.o⟩
     case measure=>simp[intOf];omega
    ·have d2:decide ((k:Int)<64)=false:=by simp;omega
     have hk2:k=64:=by omega
     have HL1:Hid (((sched b 64).map vw).toArray.size=64):=by rw[Hid];simp[fE]
     have HO:=AQ (oV (sched b 64))
     have HA1:Hid (wr.heap[w.heap.size+1]? =some (.cells ((sched b 64).map vw).toArray 160 (0,0))):=by
      rw[HL.o,hk2,Nat.sub_self,List.replicate_zero,List.append_nil] at A1;exact A1
     have HA0:=AQ A0
     obtain⟨F,hF⟩:=AU (((sched b 64).map vw).toArray)
     rw[←hF.o] at HL1 HO HA1
     clear hk2 HL A1 A0
     go_wp2_with (first
      | ((with_reducible refine dD (o:=⟨some 53, .load _ _,_,_,_,_⟩) wJ (.tmp 3) AA AA AA HA1.o HL1.o ?_))
      | ((with_reducible refine ay (o:=⟨none, .store _ (.tmp 2) (.tmp 53),_,_,_,_⟩) wJ (.tmp 2) (.tmp 53) AA AA AA AA AA HA0.o HZ.o HL1.o HO.o ?_);intro w4 hb4 hS4))
     refine bodyPost_ret (ig wJ rfl rfl hb4 HL1.o) rfl ⟨by rw[hF.o], ?_⟩
     exact B.trans (hS4.below B.size (fun j hj=>by omega))
end Go.Proofs.YtlholdllibghbaaGreat
namespace Go.Cit
open Go Go.RowKit
section
variable {P:Program} {ops:Array Oper} {rest:List Oper} {o:Oper} {act:Act} {w w':World} {Q:Exit→Act→World→Prop} {ρ:Operand→Value} {post:Value→World→Prop}
theorem OZ {T:TypeId} {C:Array Value} (x:Operand) (ho:o.op= .box T x) (hx:ρ x= .agg C):(execOp ρ o).run P w= .ok (.value (.pointer (some ⟨w.heap.size,0,none⟩))) (w.alloc (.cells C T)):=by
 unfold execOp
 simp only[ho,Sem.run_bind,Instr.box,newVar,newRow,run_newObj_alloc,Sem.run_pure,Result.andThen_ok,hx]
 rfl
theorem lF {T:TypeId} {C:Array Value} (x:Operand) (hgd:o.guard=none) (ho:o.op= .box T x) (hx:act.eval x= .agg C)
 (h:wpList P ops Q rest (act.put o.dst (.pointer (some ⟨w.heap.size,0,none⟩))) (w.alloc (.cells C T))):wpList P ops Q (o::rest) act w:=
 aj hgd (OZ x ho hx) h
theorem Po {T E:TypeId} {n b:Nat} {C:Array Value} {fr:Nat×Nat} (hT:fO P T n) (x:Operand) (ho:o.op= .load T x) (hx:ρ x= .pointer (some ⟨b,0,none⟩)) (hb:w.heap[b]? =some (.cells C E fr)) (hn:C.size=n)
 (h:post (.agg C) w):bQ P post ((execOp ρ o).run P w):=by
 obtain⟨⟨d,hu,hd⟩,hi⟩:=hT
 have hr:=rQ (P:=P) hu hd (by rw[hi,hn]) hb
 refine fA (w':=w) (v:= .agg C) ?_ h
 unfold execOp
 simp only[ho,hx,Sem.run_bind,Instr.loadAt,Instr.sureAddr,Sem.run_pure,Result.andThen,hr]
theorem xB {T E:TypeId} {n b:Nat} {C C':Array Value} (hT:fO P T n) (x y:Operand) (ho:o.op= .store T x y) (hx:ρ x= .pointer (some ⟨b,0,none⟩)) (hy:ρ y= .agg C') (hb:w.heap[b]? =some (.cells C E (0,0)))
 (hn:C.size=n) (hn':C'.size=n) (h1:C'.all (·.oneCell')=true)
 (h:∀w',w'.heap[b]? =some (.cells C' E (0,0))→Save (· ≠b) w w'→post undef w'):bQ P post ((execOp ρ o).run P w):=by
 have hr:=run_storeVar_row (P:=P) w b E T C C' hb (by rw[hT.info,hn']) (by rw[hn,hn']) h1
 refine JJ (w':=w.setRow b C') ?_ (h _ (lC hb) (lG _ _ _))
 unfold execOp
 simp only[ho,hx,hy,Sem.run_bind,Instr.storeAt,Instr.sureAddr,Sem.run_pure,Result.andThen,hr]
theorem QH {t t':TypeId} {v u v':Value} {w':World} (d s:Operand) (ho:o.op= .call {callee:= .builtin .copy,args:= #[d,s],argTypes:= #[t,t']}) (hd:ρ d=v) (hs:ρ s=u)
 (hr:(Builtin.copy_ #[t,t'] o.type #[v,u]).run P w= .ok v' w') (h:post v' w'):bQ P post ((execOp ρ o).run P w):=by
 refine fA (w':=w') (v:=v') ?_ h
 unfold execOp
 simp only[ho,resolve,invoke,builtin,Sem.run_bind,Sem.run_pure,Result.andThen_ok,List.map_toArray,List.map_cons,List.map_nil,hd,hs,hr]
theorem Dv {ty:TypeId} {x:Operand} {lo hi mx:Option Operand} (h:o.op= .slice ty x lo hi mx) {vx v:Value} {vl vh vm:Option Value} (hx:ρ x=vx) (hl:lo.map ρ=vl) (hh:hi.map ρ=vh) (hm:mx.map ρ=vm)
 (hr:(Instr.sliceAt ty vx vl vh vm).run P w= .ok v w) (hp:post v w):bQ P post ((execOp ρ o).run P w):=by
 refine fA (w':=w) (v:=v) ?_ hp
 unfold execOp
 simp only[h,hx,hl,hh,hm,Sem.run_bind,hr,Result.andThen,Sem.run_pure]
end
end Go.Cit
namespace Go.Proofs.YtlholdllibghbaaGreat
open Go Go.RowKit Go.Cit
theorem Df {P:Program} (w0 wr:World) (h N bp ch C:Nat) (x:UInt8) (t ty e:TypeId) (hu:P.underlying t=some (.slice e)) (hs:(P.info? e).map (·.size)=some 1)
 (hb:Lib.Buf w0 wr h N (List.replicate bp x)) (hch:ch≤bp) (hlt:bp<N):
 ∃wr',(Builtin.copy_ #[t,t] ty #[Lib.tailV h N bp, .slice (some ⟨h,0,none⟩) ch C]).run P wr= .ok (.int .i64 ((min ch (N-bp):Nat):Int)) wr'∧Lib.Buf w0 wr' h N (List.replicate (bp+min ch (N-bp)) x):=by
 obtain⟨m,hm⟩:∃m,min ch (N-bp)=m:=⟨_,rfl⟩
 have hr:=run_copy_cells (P:=P) wr t t ty e h bp (N-bp) (N-bp) ⟨h,0,none⟩ ch C (List.replicate m (vb x)) hu hs (by rw[List.length_replicate,←hm])
  (fun j v hj=>by
   have hjm:j<m:=by have:=(List.getElem?_eq_some_iff.1 hj).1;simpa using this
   have hv:v=vb x:=by
    rw[List.getElem?_replicate,if_pos hjm] at hj;exact(Option.some.inj hj).symm
   have ea:(⟨h,0,none⟩:Addr).add j=⟨h,j,none⟩:=by unfold Addr.add;split<;>simp_all
   rw[ea,hv]
   exact hb.holds j x (by rw[List.getElem?_replicate,if_pos AL]))
  (fun j hj=>by rw[List.length_replicate] at hj;exact hb.there _ AL) (fun j hj=>by rw[List.length_replicate] at hj;exact hb.free _ AL)
  (fun u hu'=>by rw[List.eq_of_mem_replicate hu'];rfl)
 rw[List.length_replicate] at hr
 rw[hm]
 refine⟨_,by unfold Lib.tailV;rw[if_neg AL];exact hr, ?_⟩
 have hin:=World.cell?_setCells_in h (List.replicate m (vb x)) bp wr (fun j hj=>by rw[List.length_replicate] at hj;exact hb.there _ AL)
 have hout:=World.cell?_setCells_out h (List.replicate m (vb x)) bp wr
 refine⟨Lib.below_setCells h (Nat.le_refl _) _ _ hb.below,fun j hj=> ?_,fun j hj=>by rw[World.frozen?_setCells];exact hb.free j hj,fun j y hy=> ?_,by rw[List.length_replicate];omega⟩
 ·by_cases h1:bp≤j∧j<bp+m
  ·obtain⟨d,rfl⟩:∃d,j=bp+d:=⟨j-bp,by omega⟩
   rw[hin d (by rw[List.length_replicate];omega)]
   rfl
  ·rw[hout ⟨h,j,none⟩ (fun _ _=>by rw[List.length_replicate];show j<_∨_≤j;omega)]
   exact hb.there j hj
 ·have hjm:j<bp+m:=by have:=(List.getElem?_eq_some_iff.1 hy).1;simpa using this
  have hyx:y=x:=by rw[List.getElem?_replicate,if_pos hjm] at hy;exact(Option.some.inj hy).symm
  subst hyx
  by_cases h1:j<bp
  ·rw[hout ⟨h,j,none⟩ (fun _ _=>Or.inl h1)]
   exact hb.holds j y (by rw[List.getElem?_replicate,if_pos h1])
  ·obtain⟨d,rfl⟩:∃d,j=bp+d:=⟨j-bp,by omega⟩
   rw[hin d (by rw[List.length_replicate];omega)]
   simp
theorem FH {w0 wr:World} {h N:Nat} {acc:List UInt8} (hb:Lib.Buf w0 wr h N acc):Lib.Buf w0 wr.drew h N acc:=
 ⟨hb.below.trans (below_drewN _ _ 1),hb.there,hb.free,hb.holds,hb.fits⟩
theorem sV {P:Program} {w:World} {ops:Array Oper} {o:Oper} {act:Act} {K:Act→World→Prop} {Q:Exit→Act→World→Prop} {F:Prop} (hgd:o.guard=none) (d s:Operand) (t t':TypeId)
 (ho:o.op= .call {callee:= .builtin .copy,args:= #[d,s],argTypes:= #[t,t']}) (v u:Value) (hd:act.eval d=v) (hs:act.eval s=u) {v':Value} {w':World}
 (hr:(Builtin.copy_ #[t,t'] o.type #[v,u]).run P w= .ok v' w') (h:K (act.put o.dst v') w'):if Region.wanted o (yielded ops act.tmps)=true then Oper.wp P o act w K Q else F:=by
 rw[if_pos (by simp[Region.wanted,hgd])]
 exact Lib.wp_copy_run w d s t t' ho v u hd hs hr h
theorem Cj (w:World) (a:Option Addr) (n c:Nat):
 Calls Tryz.prog 256 #[.slice a n c, .int .i64 0] w fun e w'=>e= .returned (.slice (some ⟨w.heap.size,0,none⟩) 0 0)∧w'=w.alloc (.cells #[] 5):=by
 go_enter Tryz.func256,Tryz.ntmps256
 go_wp2
 go_ret
 exact⟨rfl,rfl⟩
theorem Eo (w:World) (g:Nat) (x:UInt8) (c:Nat) (h1:1≤c) (h9:c≤1000000) (hc:w.cell? ⟨g,0,none⟩=some (vb x)):
 Calls Tryz.prog 256 #[.slice (some ⟨g,0,none⟩) 1 1, .int .i64 c] w fun e w'=>∃a cp,e= .returned (.slice a c cp)∧Mine w.heap.size w' a (List.replicate c x) cp∧Below w.heap.size w w':=by
 have t1:((c:Int)==0)=false:=by simp;omega
 have t2:decide ((c:Int)<0)=false:=by simp
 have hm:Calls Tryz.prog 261 #[.int .u64 1, .int .u64 c] w fun e w'=>e= .returned (.tuple #[.int .u64 0, .int .u64 c])∧w=w':=by
  refine(Tryz.bits_Mul 1 c AP AL w).mono ?_
  rintro e w' ⟨rfl,rfl⟩
  refine⟨?_,rfl⟩
  have e1:1*c/18446744073709551616=0:=by omega
  have e2:1*c%18446744073709551616=c:=by omega
  rw[e1,e2];rfl
 obtain⟨cs,hrunM,hle,_⟩:=Lib.run_makeNoZero (P:=Tryz.prog) w #[3] 40 5 bt.slice c AL
 have hcall:(callFunc 232 #[.int .i64 (c:Int)]).run Tryz.prog w= .ok (.value (.slice (some ⟨w.heap.size,0,none⟩) c cs.size)) ((w.alloc (.cells cs 5)).drewN 2):=by
  rw[run_callFunc_extern Tryz.func232 AB AB AB (e:=Extern.BytealgMakeNoZero.makeNoZero #[3] #[40]) AB,hrunM]
  rfl
 have i1:(c:Int)≤(cs.size:Int):=by omega
 have B0:=Lib.Buf.start w cs 5 c 2 hle
 have hs5:(Tryz.prog.info? 5).map (·.size)=some 1:=by kernel_rfl
 obtain⟨w1,hr1,B1⟩:=Lib.copy_part (P:=Tryz.prog) w _ w.heap.size c [] [x] (.slice (some ⟨g,0,none⟩) 1 1) 40 3 5 bt.slice hs5 (Nat.le_refl _) B0 ⟨some ⟨g,0,none⟩,1,rfl,fun h=>by simp at h,fun a e i y hy=>by
  injection e with e
  subst e
  match i,hy with
  | 0,hy=>simp at hy;subst hy;simpa[Addr.add] using hc
  | i+1,hy=>simp at hy⟩ (by simpa using h1)
 rw[List.length_nil,Lib.tailV_zero] at hr1
 have HB1:Hid (Lib.Buf w w1 w.heap.size c (List.replicate 1 x)):=B1
 clear B0 B1 hrunM
 obtain⟨cm,hcm1,hcm2,hcm⟩:∃cm:Nat,1≤cm∧cm≤c∧((8192<c∧cm=8192)∨(¬8192<c∧cm=c)):=by
  by_cases h:8192<c
  ·exact⟨8192,by decide,by omega, .inl ⟨h,rfl⟩⟩
  ·exact⟨c,h1,Nat.le_refl _, .inr ⟨h,rfl⟩⟩
 have t4:decide (9223372036854775807<(c:Int))=false:=by simp;omega
 rcases hcm with⟨hbig,rfl⟩ |⟨hbig,hcm⟩
 ·have t3:decide (8192<(c:Int))=true:=by simp;omega
  go_enter Tryz.func256,Tryz.ntmps256
  go_wp2_with (first
   | ((with_reducible refine(hm).mono ?_);rintro e w' ⟨rfl,rfl⟩)
   | (at_builtin;refine Lib.wpList_copy_run _ rfl _ _ 40 40 rfl _ _ rfl rfl hr1 ?_))
  clear hr1 hcall hm hc
  go_loopw [10] (fun p wr=>∃bp:Nat,p= .int .i64 bp∧1≤bp∧bp≤c∧Hid (Lib.Buf w wr w.heap.size c (List.replicate bp x))) (fun p _=>c-(intOf p).toNat)
  case atStart=>exact⟨1,rfl,Nat.le_refl _,h1,HB1⟩
  case round=>
   clear HB1
   obtain⟨bp,rfl,hb1,hb2,HB⟩:=hrel
   by_cases hlt:bp<c
   ·obtain⟨ch,hch⟩:=AV (min bp 8192)
    have hmin:min (bp:Int) (8192:Int)=(ch:Int):=by omega
    have hch1:1≤ch:=by omega
    have hch2:ch≤bp:=by omega
    have hch3:(ch:Int)≤c:=by omega
    clear hch
    have hsl1:∀W,(Instr.sliceAt 40 (.slice (some ⟨w.heap.size,0,none⟩) c c) (some (.int .i64 (bp:Int))) none none).run Tryz.prog W= .ok (Lib.tailV w.heap.size c bp) W:=fun W=>by
     rw[run_sliceAt_slice _ _ _ _ _ _ (show Tryz.prog.underlying 40=some (.slice (Tryz.prog.elem 40)) by simp[Program.elem,bt.slice])]
     exact Lib.run_slice_tailV W _ _ bt.slice bt.sz _ c bp hb2
    obtain⟨w2,hr2,B2⟩:=Df (P:=Tryz.prog) w wr.drew w.heap.size c bp ch c x 40 3 5 bt.slice hs5 (FH HB.o) hch2 hlt
    generalize Lib.tailV w.heap.size c bp=tv at hsl1 hr2
    obtain⟨mm,hmm⟩:∃mm,min ch (c-bp)=mm:=⟨_,rfl⟩
    rw[hmm] at hr2 B2
    have HM:Hid (1≤mm∧bp+mm≤c):=by rw[Hid];omega
    have hm1:(bp:Int)+(mm:Int)≤9223372036854775807:=by omega
    have hwr:IntKind.i64.wrap ((bp:Int)+(mm:Int))=(bp:Int)+(mm:Int):=IntWalk.i64_in _ AL
    clear hmm
    have HB2:=AQ B2
    clear B2
    go_wp2
    go_region_law (refine sV rfl (.tmp 70) (.tmp 73) 40 40 rfl tv (.slice (some ⟨w.heap.size,0,none⟩) ch c) (by simp[Act.eval,Act.put]) (by simp[Act.eval,Act.put]) hr2 ?_)
    clear hwr
    simp[Act.put]
    go_wp2_with fail
    go_roundw
    case rel=>exact⟨bp+mm,by go_num,by omega,HM.o.2,HB2⟩
    case measure=>have:=HM.o;simp[intOf];omega
   ·obtain rfl:bp=c:=by omega
    go_wp2
    go_ret
    obtain⟨a,cp,hv,hM⟩:=kV (Lib.Buf.fresh HB.o AO (by unfold maxLen;omega))
    injection hv with e1 e2 e3
    subst e1 e3
    exact⟨_,_,rfl,hM,HB.o.below⟩
 ·have t3:decide (8192<(c:Int))=false:=by simp;omega
  go_enter Tryz.func256,Tryz.ntmps256
  go_wp2_with (first
   | ((with_reducible refine(hm).mono ?_);rintro e w' ⟨rfl,rfl⟩)
   | (at_builtin;refine Lib.wpList_copy_run _ rfl _ _ 40 40 rfl _ _ rfl rfl hr1 ?_))
  clear hr1 hcall hm hc
  go_loopw [10] (fun p wr=>∃bp:Nat,p= .int .i64 bp∧1≤bp∧bp≤c∧Hid (Lib.Buf w wr w.heap.size c (List.replicate bp x))) (fun p _=>c-(intOf p).toNat)
  case atStart=>exact⟨1,rfl,Nat.le_refl _,h1,HB1⟩
  case round=>
   clear HB1
   obtain⟨bp,rfl,hb1,hb2,HB⟩:=hrel
   by_cases hlt:bp<c
   ·obtain⟨ch,hch⟩:=AV (min bp c)
    have hmin:min (bp:Int) (c:Int)=(ch:Int):=by omega
    have hch1:1≤ch:=by omega
    have hch2:ch≤bp:=by omega
    have hch3:(ch:Int)≤c:=by omega
    clear hch
    have hsl1:∀W,(Instr.sliceAt 40 (.slice (some ⟨w.heap.size,0,none⟩) c c) (some (.int .i64 (bp:Int))) none none).run Tryz.prog W= .ok (Lib.tailV w.heap.size c bp) W:=fun W=>by
     rw[run_sliceAt_slice _ _ _ _ _ _ (show Tryz.prog.underlying 40=some (.slice (Tryz.prog.elem 40)) by simp[Program.elem,bt.slice])]
     exact Lib.run_slice_tailV W _ _ bt.slice bt.sz _ c bp hb2
    obtain⟨w2,hr2,B2⟩:=Df (P:=Tryz.prog) w wr.drew w.heap.size c bp ch c x 40 3 5 bt.slice hs5 (FH HB.o) hch2 hlt
    generalize Lib.tailV w.heap.size c bp=tv at hsl1 hr2
    obtain⟨mm,hmm⟩:∃mm,min ch (c-bp)=mm:=⟨_,rfl⟩
    rw[hmm] at hr2 B2
    have HM:Hid (1≤mm∧bp+mm≤c):=by rw[Hid];omega
    have hm1:(bp:Int)+(mm:Int)≤9223372036854775807:=by omega
    have hwr:IntKind.i64.wrap ((bp:Int)+(mm:Int))=(bp:Int)+(mm:Int):=IntWalk.i64_in _ AL
    clear hmm
    have HB2:=AQ B2
    clear B2
    go_wp2
    go_region_law (refine sV rfl (.tmp 70) (.tmp 73) 40 40 rfl tv (.slice (some ⟨w.heap.size,0,none⟩) ch c) (by simp[Act.eval,Act.put]) (by simp[Act.eval,Act.put]) hr2 ?_)
    clear hwr
    simp[Act.put]
    go_wp2_with fail
    go_roundw
    case rel=>exact⟨bp+mm,by go_num,by omega,HM.o.2,HB2⟩
    case measure=>have:=HM.o;simp[intOf];omega
   ·obtain rfl:bp=c:=by omega
    go_wp2
    go_ret
    obtain⟨a,cp,hv,hM⟩:=kV (Lib.Buf.fresh HB.o AO (by unfold maxLen;omega))
    injection hv with e1 e2 e3
    subst e1 e3
    exact⟨_,_,rfl,hM,HB.o.below⟩
def F8 (l:List UInt8) (n:Int):List UInt8:=l++List.replicate (max (min n 65536-l.length) 0).toNat 0
theorem EF (w:World) (a:Option Addr) (l:List UInt8) (c:Nat) (n:Int) (r:Row w a l c) (hl:l.length≤100000000) (hn: -9000000000000000000≤n∧n≤9223372036854775807):
 Calls Tryz.prog 243 #[.slice a l.length c, .int .i64 n] w fun e w'=>∃a' cp,e= .returned (.slice a' (F8 l n).length cp)∧Mine w.heap.size w' a' (F8 l n) cp∧Below w.heap.size w w':=by
 obtain⟨k,hk⟩:∃k:Nat,(k:Int)=max (min n 65536-l.length) 0:=⟨(max (min n 65536-l.length) 0).toNat,by omega⟩
 have hk9:k≤65536:=by omega
 have HP:Hid (F8 l n=l++List.replicate k 0):=by rw[Hid,F8,←hk];rfl
 obtain⟨mn,hmn⟩:∃mn,min n 65536=mn:=⟨_,rfl⟩
 have hmn9: -9000000000000000000≤mn∧mn≤65536:=by omega
 obtain⟨df,hdf⟩:∃df,mn-(l.length:Int)=df:=⟨_,rfl⟩
 have hmx:max df 0=(k:Int):=by rw[hk,hmn,hdf]
 have hw:IntKind.i64.wrap (mn-(l.length:Int))=df:=by rw[←hdf];exact IntWalk.i64_in _ AL
 have hb1:Below w.heap.size w (w.alloc (.cells #[.int .u8 0] 5)):=(Below.refl _ _).alloc (Nat.le_refl _) _
 have r1:=r.stay hb1
 have hrep:Calls Tryz.prog 256 #[.slice (some ⟨w.heap.size,0,none⟩) 1 1, .int .i64 k] (w.alloc (.cells #[.int .u8 0] 5)) fun e w'=>∃a X cp,Hid (X=List.replicate k 0)∧e= .returned (.slice a X.length cp)∧Row w' a X cp∧Below (w.alloc (.cells #[.int .u8 0] 5)).heap.size (w.alloc (.cells #[.int .u8 0] 5)) w':=by
  rcases Nat.eq_zero_or_pos k with rfl |h0
  ·refine(Cj _ _ _ _).mono ?_
   rintro e w' ⟨rfl,rfl⟩
   exact⟨_,[],0,rfl,rfl,⟨Nat.le_refl _,Nat.zero_le _,fun h=>by simp at h,fun h=>absurd rfl h,fun i h=>by simp at h⟩,(Below.refl _ _).alloc (Nat.le_refl _) _⟩
  ·refine(Eo _ w.heap.size 0 k h0 AL ?_).mono ?_
   ·rw[World.cell?,heap_alloc_new];rfl
   ·rintro e w' ⟨a,cp,rfl,hM,hb⟩
    exact⟨a,_,cp,rfl,by rw[List.length_replicate],hM.row,hb⟩
 have HDF:=AQ hdf
 have HK:=AQ hk
 clear hdf hk
 go_enter Tryz.func243,Tryz.ntmps243
 go_wp2_with fail
 refine hrep.mono ?_
 rintro e w1 ⟨a2,X,cp2,HX,rfl,r2,hb2⟩
 have hX:X.length≤100000:=by rw[HX.o,List.length_replicate];omega
 have r3:=r1.stay hb2
 go_wp2_with fail
 refine(tY w1 _ r3 r2 AL AL).mono ?_
 rintro e w2 ⟨a3,cp3,rfl,hM3,hb3⟩
 have HS:Hid (w.heap.size≤w1.heap.size):=by have:=hb2.size;simp at this;rw[Hid];omega
 have HX2:Hid (l++X=F8 l n):=by rw[Hid,HP.o,HX.o]
 clear hX HX
 go_wp2_with fail
 go_ret
 refine⟨a3,cp3,by rw[←HX2.o,List.length_append];rfl, ?_, ?_⟩
 ·rw[←HX2.o];exact hM3.low HS.o
 ·exact hb1.trans (((hb2.mono AO).trans (hb3.mono HS.o)))
open Go Go.RowKit Go.Cit
theorem Em:fO Tryz.prog 160 64:=⟨⟨_,Tryz.underlying160,rfl⟩,by kernel_rfl⟩
theorem iT:fO Tryz.prog 158 8:=⟨⟨_,Tryz.underlying158,rfl⟩,by kernel_rfl⟩
theorem CO (ρ:Operand→Value) (d:Option Tmp) (ty:TypeId) (ps:String) {af} (w:World):
 (execOp ρ {dst:=d,op:=Op.alloc 160,type:=ty,pos:=ps,after:=af,guard:=none}).run Tryz.prog w= .ok (.value (.pointer (some ⟨w.heap.size,0,none⟩))) (w.alloc (.cells ((List.replicate 64 (0:UInt32)).map vw).toArray 160)):=by
 kernel_rfl
theorem qH (ρ:Operand→Value) (d:Option Tmp) (ty:TypeId) (ps:String) {af} (w:World):
 (execOp ρ {dst:=d,op:=Op.alloc 158,type:=ty,pos:=ps,after:=af,guard:=none}).run Tryz.prog w= .ok (.value (.pointer (some ⟨w.heap.size,0,none⟩))) (w.alloc (.cells ((List.replicate 8 (0:UInt32)).map vw).toArray 158)):=by
 kernel_rfl
def zF (n0:Nat) (W:World) (F S Z Y:Array Value) (δ:Nat→Bool) (a:Act) (wx:World):Prop:=
 Below n0 W wx∧(δ 3=true→∃g,a.tmps.getD 7 undef= .pointer (some ⟨g,0,none⟩)∧n0≤g∧wx.heap[g]? =some (.cells (if δ 5 then F else Z) 160 (0,0)))∧
 (δ 4=true→∃g,a.tmps.getD 8 undef= .pointer (some ⟨g,0,none⟩)∧n0≤g∧wx.heap[g]? =some (.cells (if δ 6 then S else Y) 158 (0,0)))
def Qw (a:Option Addr) (c:Nat) (F S:Array Value):Nat→Value→World→Prop
 | 15,v,_=>v= .slice a 64 c
 | 16,v,_=>v= .agg F
 | 17,v,_=>v= .agg S
 | _,_,_=>True
theorem wP {n0:Nat} {W:World} {F S Z Y:Array Value} {δ:Nat→Bool} {a:Act} {wx w':World} (h:zF n0 W F S Z Y δ a wx) (hn:n0=W.heap.size) (hb:Below wx.heap.size wx w') {i d:Nat} {v:Value} (hi:i<3) (hd:9≤d):
 zF n0 W F S Z Y (upd δ i) (a.put (some d) v) w':=by
 obtain⟨h1,h2,h3⟩:=h
 have hs:=h1.size
 refine⟨h1.trans (hb.mono AL),fun h=> ?_,fun h=> ?_⟩
 ·rw[aA δ AL] at h
  obtain⟨g,e,hg,hc⟩:=h2 h
  refine⟨g,by rw[bH _ _ _ _ (fun h=>by have:d=7:=Option.some.inj h;omega)];exact e,hg, ?_⟩
  rw[aA δ AL,hb.block _ (Array.getElem?_eq_some_iff.1 hc).1];exact hc
 ·rw[aA δ AL] at h
  obtain⟨g,e,hg,hc⟩:=h3 h
  refine⟨g,by rw[bH _ _ _ _ (fun h=>by have:d=8:=Option.some.inj h;omega)];exact e,hg, ?_⟩
  rw[aA δ AL,hb.block _ (Array.getElem?_eq_some_iff.1 hc).1];exact hc
theorem QF {n0:Nat} {W:World} {F S Z Y:Array Value} {δ:Nat→Bool} {a:Act} {wx:World} (h:zF n0 W F S Z Y δ a wx) (hn:n0=W.heap.size) (h5:δ 5=false) (h7:7<a.tmps.size):
 zF n0 W F S Z Y (upd δ 3) (a.put (some 7) (.pointer (some ⟨wx.heap.size,0,none⟩))) (wx.alloc (.cells Z 160)):=by
 obtain⟨h1,h2,h3⟩:=h
 have hs:=h1.size
 refine⟨h1.alloc AL _,fun _=>⟨wx.heap.size,dM _ _ _ h7,by omega, ?_⟩,fun h=> ?_⟩
 ·rw[aA δ AL,h5];exact heap_alloc_new wx _
 ·rw[aA δ AL] at h
  obtain⟨g,e,hg,hc⟩:=h3 h
  refine⟨g,by rw[bH _ _ _ _ AO];exact e,hg, ?_⟩
  rw[aA δ AL,((Below.refl _ wx).alloc (Nat.le_refl _) _).block _ (Array.getElem?_eq_some_iff.1 hc).1];exact hc
theorem QA {n0:Nat} {W:World} {F S Z Y:Array Value} {δ:Nat→Bool} {a:Act} {wx:World} (h:zF n0 W F S Z Y δ a wx) (hn:n0=W.heap.size) (h6:δ 6=false) (h8:8<a.tmps.size):
 zF n0 W F S Z Y (upd δ 4) (a.put (some 8) (.pointer (some ⟨wx.heap.size,0,none⟩))) (wx.alloc (.cells Y 158)):=by
 obtain⟨h1,h2,h3⟩:=h
 have hs:=h1.size
 refine⟨h1.alloc AL _,fun h=> ?_,fun _=>⟨wx.heap.size,dM _ _ _ h8,by omega, ?_⟩⟩
 ·rw[aA δ AL] at h
  obtain⟨g,e,hg,hc⟩:=h2 h
  refine⟨g,by rw[bH _ _ _ _ AO];exact e,hg, ?_⟩
  rw[aA δ AL,((Below.refl _ wx).alloc (Nat.le_refl _) _).block _ (Array.getElem?_eq_some_iff.1 hc).1];exact hc
 ·rw[aA δ AL,h6];exact heap_alloc_new wx _
theorem QJ {n0:Nat} {W:World} {F S Z Y:Array Value} {δ:Nat→Bool} {a:Act} {wx w':World} (h:zF n0 W F S Z Y δ a wx) {v:Value} {g:Nat} (hg:a.tmps.getD 7 undef= .pointer (some ⟨g,0,none⟩)) (hge:n0≤g) (hg69:∃C,wx.heap[g]? =some (.cells C 160 (0,0)))
 (hb:w'.heap[g]? =some (.cells F 160 (0,0))) (hs:Save (· ≠g) wx w'):zF n0 W F S Z Y (upd δ 5) (a.put none v) w':=by
 obtain⟨h1,h2,h3⟩:=h
 refine⟨⟨hs.os.trans h1.os,hs.tape.trans h1.tape,hs.output.trans h1.output,Nat.le_trans h1.size hs.size,fun k hk=> ?_⟩,fun h=>⟨g,hg,hge, ?_⟩,fun h=> ?_⟩
 ·by_cases hkw:k<wx.heap.size
  ·exact(hs.block k hkw AL).trans (h1.block k hk)
  ·have:=(Array.getElem?_eq_some_iff.1 hg69.choose_spec).1
   omega
 ·rw[upd_same];exact hb
 ·rw[aA δ AL] at h
  obtain⟨k,e,hk,hc⟩:=h3 h
  refine⟨k,e,hk, ?_⟩
  obtain⟨C,hC⟩:=hg69
  have hne:k≠g:=by
   rintro rfl
   rw[hC] at hc
   injection hc with hc
   injection hc with _ hc
   exact absurd hc AP
  rw[aA δ AL,hs.block k (Array.getElem?_eq_some_iff.1 hc).1 hne];exact hc
theorem Qq {n0:Nat} {W:World} {F S Z Y:Array Value} {δ:Nat→Bool} {a:Act} {wx w':World} (h:zF n0 W F S Z Y δ a wx) {v:Value} {g:Nat} (hg:a.tmps.getD 8 undef= .pointer (some ⟨g,0,none⟩)) (hge:n0≤g) (hg24:∃C,wx.heap[g]? =some (.cells C 158 (0,0)))
 (hb:w'.heap[g]? =some (.cells S 158 (0,0))) (hs:Save (· ≠g) wx w'):zF n0 W F S Z Y (upd δ 6) (a.put none v) w':=by
 obtain⟨h1,h2,h3⟩:=h
 refine⟨⟨hs.os.trans h1.os,hs.tape.trans h1.tape,hs.output.trans h1.output,Nat.le_trans h1.size hs.size,fun k hk=> ?_⟩,fun h=> ?_,fun h=>⟨g,hg,hge, ?_⟩⟩
 ·by_cases hkw:k<wx.heap.size
  ·exact(hs.block k hkw AL).trans (h1.block k hk)
  ·have:=(Array.getElem?_eq_some_iff.1 hg24.choose_spec).1
   omega
 ·rw[aA δ AL] at h
  obtain⟨k,e,hk,hc⟩:=h2 h
  refine⟨k,e,hk, ?_⟩
  obtain⟨C,hC⟩:=hg24
  have hne:k≠g:=by
   rintro rfl
   rw[hC] at hc
   injection hc with hc
   injection hc with _ hc
   exact absurd hc AP
  rw[aA δ AL,hs.block k (Array.getElem?_eq_some_iff.1 hc).1 hne];exact hc
 ·rw[upd_same];exact hb
theorem OL {a:Option Addr} {c:Nat} {F S:Array Value} {d:Nat} {v:Value} {w w':World} (h:Qw a c F S d v w):Qw a c F S d v w':=by
 unfold Qw at *
 split at h<;>simp_all
theorem yH {T:TypeId} {w:World} {b:Nat} {S:List UInt32} (h:nO T w b S) (i:Nat) (hi:i<S.length):w.cell? ⟨b,i,none⟩=some (vw (S.getD i 0)):=by
 rw[h.cell i hi];simp[hi]
theorem pO {T:TypeId} {n:Nat} (hT:Tryz.prog.underlying T=some (.array n 38)) (b i:Nat) (hi:i<n) (w:World) (j:Int) (hj:j=(i:Int)):
 (Instr.indexAt T (.pointer (some ⟨b,0,none⟩)) (.int .i64 j)).run Tryz.prog w= .ok (.pointer (some ⟨b,i,none⟩)) w:=by
 subst hj;exact jm hT b i hi w
theorem wpList_copy_run {P:Program} {ops:Array Oper} {rest:List Oper} {o:Oper} {act:Act} {w:World} {Q:Exit→Act→World→Prop} (hgd:o.guard=none) (d s:Operand) (t t':TypeId)
 (ho:o.op= .call {callee:= .builtin .copy,args:= #[d,s],argTypes:= #[t,t']}) (v u:Value) (hd:act.eval d=v) (hs:act.eval s=u) {v':Value} {w':World}
 (hr:(Builtin.copy_ #[t,t'] o.type #[v,u]).run P w= .ok v' w') (h:wpList P ops Q rest (act.put o.dst v') w'):wpList P ops Q (o::rest) act w:=
 wpList_plain hgd fun _ hK=>Lib.wp_copy_run w d s t t' ho v u hd hs hr (hK _ _ h)
theorem E5 (g:Nat) (w:World):(Instr.sliceAt 158 (.pointer (some ⟨g,0,none⟩)) (some (.int .i64 1)) none none).run Tryz.prog w= .ok (.slice (some ⟨g,1,none⟩) 7 7) w:=by
 have hT:Tryz.prog.underlying 158=some (.array 8 38):=Tryz.underlying158
 have he:Tryz.prog.elem 158=38:=by simp[Program.elem,hT]
 have hl:Tryz.prog.arrayLen 158=8:=by simp[Program.arrayLen,hT]
 rw[run_sliceAt_array_l _ _ _ (by rw[he,hl];exact hT) _ _ AP (by rw[hl];decide),he,Ul,hl]
 rfl
theorem Gl (g:Nat) (w:World):(Instr.sliceAt 158 (.pointer (some ⟨g,0,none⟩)) none (some (.int .i64 7)) none).run Tryz.prog w= .ok (.slice (some ⟨g,0,none⟩) 7 8) w:=by
 have hT:Tryz.prog.underlying 158=some (.array 8 38):=Tryz.underlying158
 have he:Tryz.prog.elem 158=38:=by simp[Program.elem,hT]
 have hl:Tryz.prog.arrayLen 158=8:=by simp[Program.arrayLen,hT]
 rw[run_sliceAt_array_h _ _ _ (by rw[he,hl];exact hT) _ _ AP (by rw[hl];decide),he,Ul,hl]
 rfl
theorem Jc (w:World) (g:Nat) (x:S8) (h:nO 158 w g x.l) (ty:TypeId):
 ∃w',(Builtin.copy_ #[167,167] ty #[.slice (some ⟨g,1,none⟩) 7 7, .slice (some ⟨g,0,none⟩) 7 8]).run Tryz.prog w= .ok (.int .i64 7) w'∧nO 158 w' g [x.a,x.a,x.b,x.c,x.d,x.e,x.f,x.g]∧Save (· ≠g) w w':=by
 have hu:Tryz.prog.underlying 167=some (.slice 38):=Tryz.underlying167
 have hr:=run_copy_cells (P:=Tryz.prog) w 167 167 ty 38 g 1 7 7 ⟨g,0,none⟩ 7 8 ([x.a,x.b,x.c,x.d,x.e,x.f,x.g].map vw) hu AB rfl
  (fun j v hj=>by
   have hjl:j<7:=(List.getElem?_eq_some_iff.1 hj).1
   have e:(⟨g,0,none⟩:Addr).add j=⟨g,j,none⟩:=by unfold Addr.add;split<;>simp_all
   rw[e,h.cell j (by simp[S8.l];omega),←hj,List.getElem?_map]
   match j,hjl with
   | 0,_=>rfl
   | 1,_=>rfl
   | 2,_=>rfl
   | 3,_=>rfl
   | 4,_=>rfl
   | 5,_=>rfl
   | 6,_=>rfl)
  (fun j hj=>by
   have hjl:j<7:=hj
   rw[h.cell (1+j) (by simp[S8.l];omega)];rfl)
  (fun j _=>h.free _) (fun v hv=>by obtain⟨y,_,rfl⟩:=List.mem_map.1 hv;rfl)
 refine⟨_,hr, ?_, ?_⟩
 ·have:=((((((h.set 1 x.a).set 2 x.b).set 3 x.c).set 4 x.d).set 5 x.e).set 6 x.f).set 7 x.g
  exact this
 ·exact(((((Save.set.trans Save.set).trans Save.set).trans Save.set).trans Save.set).trans Save.set).trans Save.set
theorem MS (x s:S8):∀k,k<8→((x.plus s).l.take k++x.l.drop k).set k (dH (x.l.getD k 0) (s.l.getD k 0))=(x.plus s).l.take (k+1)++x.l.drop (k+1)
 | 0,_=>rfl
 | 1,_=>rfl
 | 2,_=>rfl
 | 3,_=>rfl
 | 4,_=>rfl
 | 5,_=>rfl
 | 6,_=>rfl
 | 7,_=>rfl
theorem Oy (x s:S8):∀k,k<8→((x.plus s).l.take k++x.l.drop k).getD k 0=x.l.getD k 0
 | 0,_=>rfl
 | 1,_=>rfl
 | 2,_=>rfl
 | 3,_=>rfl
 | 4,_=>rfl
 | 5,_=>rfl
 | 6,_=>rfl
 | 7,_=>rfl
end Go.Proofs.YtlholdllibghbaaGreat
