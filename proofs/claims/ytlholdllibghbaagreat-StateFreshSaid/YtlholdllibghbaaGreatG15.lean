/- Texts of the proof, one behind the other: Arm, EqF, StaA, StaB. No condition but those that each names. -/
import Derived.Test.YtlholdllibghbaaGreatG06
import Derived.Test.YtlholdllibghbaaGreatG01
import Derived.Test.YtlholdllibghbaaGreatG09
import Derived.Test.YtlholdllibghbaaGreatG14
import Derived.Test.YtlholdllibghbaaGreatG13
import Derived.Test.YtlholdllibghbaaGreatKit
set_option maxRecDepth 100000
set_option maxHeartbeats 8000000
namespace Go.Cit
open Go Go.RowKit
theorem lK (w:World) (Z X:Array Value) (T:TypeId):(w.alloc (.cells Z T)).setRow w.heap.size X=w.alloc (.cells X T):=by
 unfold World.setRow World.alloc
 congr 1
 apply Array.ext
 ·simp
 ·intro i h1 h2
  simp only[Array.getElem_modify,Array.getElem_push]
  by_cases hi:i<w.heap.size
  ·rw[if_neg AL,dif_pos hi,dif_pos hi]
  ·have:i=w.heap.size:=by simp at h2;omega
   subst this
   simp
def kZ (P:Program) (T:TypeId) (n:Nat) (Z:Array Value):Prop:=Z.size=n∧∀(ρ:Operand→Value) (d:Option Tmp) (ty:TypeId) (ps:String) (af) (w:World),(execOp ρ {dst:=d,op:=Op.alloc T,type:=ty,pos:=ps,after:=af,guard:=none}).run P w= .ok (.value (.pointer (some ⟨w.heap.size,0,none⟩))) (w.alloc (.cells Z T))
section
variable {P:Program} {ops:Array Oper} {rest:List Oper} {o:Oper} {act:Act} {w:World} {Q:Exit→Act→World→Prop}
theorem ku {T:TypeId} {x:Operand} {p v:Value} (hr:(Instr.loadAt T p).run P w= .ok v w) (h:wpList P ops Q rest (act.put o.dst v) w)
 (hgd:o.guard=none:=by with_unfolding_all rfl) (ho:o.op= .load T x:=by with_unfolding_all rfl) (hx:act.eval x=p:=by with_unfolding_all rfl):wpList P ops Q (o::rest) act w:=by
 refine wpList_plain hgd fun K hK=> ?_
 unfold Oper.wp execOp
 simp only[ho,hx,Sem.run_bind,hr]
 exact hK _ _ h
theorem oz {T:TypeId} {x:Operand} {p v:Value} (hr:(Instr.loadAt T p).run P w= .ok v w) (h:wpList P ops Q rest (act.put o.dst v) w)
 (hgd:Region.wanted o (yielded ops act.tmps)=true:=by with_unfolding_all rfl) (ho:o.op= .load T x:=by with_unfolding_all rfl) (hx:act.eval x=p:=by with_unfolding_all rfl):wpList P ops Q (o::rest) act w:=by
 refine wpList_step fun K hK=> ?_
 rw[if_pos hgd]
 unfold Oper.wp execOp
 simp only[ho,hx,Sem.run_bind,hr]
 exact hK _ _ h
theorem Fh {T E:TypeId} {n b:Nat} {C:Array Value} {fr:Nat×Nat} {x:Operand} (hT:dJ P T n) (hb:w.heap[b]? =some (.cells C E fr)) (hn:C.size=n) (h:wpList P ops Q rest (act.put o.dst (.agg C)) w)
 (hgd:o.guard=none:=by with_unfolding_all rfl) (ho:o.op= .load T x:=by with_unfolding_all rfl) (hx:act.eval x= .pointer (some ⟨b,0,none⟩):=by with_unfolding_all rfl):wpList P ops Q (o::rest) act w:=
 sU hT x hgd ho hx hb hn h
theorem yU {T:TypeId} {n d:Nat} {y:Operand} {Z X:Array Value} {ty1 ty3:TypeId} {ps1 ps3:String} {af1 af3} (hT:dJ P T n) (hA:kZ P T n Z) (hX:X.size=n) (h1:X.all (·.oneCell')=true)
 (h:wpList P ops Q rest (act.put (some d) (.pointer (some ⟨w.heap.size,0,none⟩))) (w.alloc (.cells X T)))
 (hd:d<act.tmps.size:=by simp[iy]) (hy:(act.put (some d) (.pointer (some ⟨w.heap.size,0,none⟩))).eval y= .agg X:=by with_unfolding_all rfl):
 wpList P ops Q (⟨some d, .alloc T,ty1,ps1,af1,none⟩::⟨none, .store T (.tmp d) y,ty3,ps3,af3,none⟩::rest) act w:=by
 refine aP (w':=w.alloc (.cells Z T)) rfl (hA.2 _ _ _ _ _ _) ?_
 have hr:=run_storeVar_row (P:=P) (w.alloc (.cells Z T)) w.heap.size T T Z X (heap_alloc_new w _) (by rw[hT.info,hX]) (by rw[hA.1,hX]) h1
 rw[lK] at hr
 refine wpList_skip (w':=w.alloc (.cells X T)) rfl ?_ h
 unfold execOp
 have hx:(act.put (some d) (.pointer (some ⟨w.heap.size,0,none⟩))).eval (.tmp d)= .pointer (some ⟨w.heap.size,0,none⟩):=by simp[Act.eval,Act.put,Array.getD,hd]
 simp only[hx,hy,Sem.run_bind,Instr.storeAt,Instr.sureAddr,Sem.run_pure,Result.andThen,hr]
theorem yD {T:TypeId} {n d e:Nat} {y z:Operand} {Z X:Array Value} {ty1 ty2 ty3:TypeId} {ps1 ps2 ps3:String} {af1 af2 af3} (hT:dJ P T n) (hA:kZ P T n Z) (hX:X.size=n) (h1:X.all (·.oneCell')=true)
 (h:wpList P ops Q rest ((act.put (some d) (.pointer (some ⟨w.heap.size,0,none⟩))).put (some e) ((act.put (some d) (.pointer (some ⟨w.heap.size,0,none⟩))).eval z)) (w.alloc (.cells X T)))
 (hd:d<act.tmps.size:=by simp[iy]) (hde:e≠d:=by decide) (hy:((act.put (some d) (.pointer (some ⟨w.heap.size,0,none⟩))).put (some e) ((act.put (some d) (.pointer (some ⟨w.heap.size,0,none⟩))).eval z)).eval y= .agg X:=by with_unfolding_all rfl):
 wpList P ops Q (⟨some d, .alloc T,ty1,ps1,af1,none⟩::⟨some e, .assign z,ty2,ps2,af2,none⟩::⟨none, .store T (.tmp d) y,ty3,ps3,af3,none⟩::rest) act w:=by
 refine aP (w':=w.alloc (.cells Z T)) rfl (hA.2 _ _ _ _ _ _) ?_
 refine aP (w':=w.alloc (.cells Z T)) (v:=(act.put (some d) (.pointer (some ⟨w.heap.size,0,none⟩))).eval z) rfl (by unfold execOp;rfl) ?_
 have hr:=run_storeVar_row (P:=P) (w.alloc (.cells Z T)) w.heap.size T T Z X (heap_alloc_new w _) (by rw[hT.info,hX]) (by rw[hA.1,hX]) h1
 rw[lK] at hr
 refine wpList_skip (w':=w.alloc (.cells X T)) rfl ?_ h
 unfold execOp
 have hx:((act.put (some d) (.pointer (some ⟨w.heap.size,0,none⟩))).put (some e) ((act.put (some d) (.pointer (some ⟨w.heap.size,0,none⟩))).eval z)).eval (.tmp d)= .pointer (some ⟨w.heap.size,0,none⟩):=by
  show Array.getD _ d undef=_
  rw[aN _ _ _ _ (by simpa using hde),bf _ _ _ hd]
 simp only[hx,hy,Sem.run_bind,Instr.storeAt,Instr.sureAddr,Sem.run_pure,Result.andThen,hr]
end
theorem Vec.gV {α:Type} {P:Program} {T E:TypeId} {n by_:Nat} {z:Value} {f:α→List Value} (hE:bC P T E n by_ z) (hA:∀w,(isAgg E).run P w= .ok true w) (hf:∀x,(f x).length=n) {w0 w:World} {a:Option Addr} {l:List α} {c:Nat} (h:Vec f n w0 a l c) (hb:Below w0.heap.size w0 w) (k:Nat) (hk:k<l.length):
 (Instr.loadAt E (.pointer (some (ad a (k*n))))).run P w= .ok (.agg (f l[k]).toArray) w:=by
 refine fE hA hE.sz (hf _) fun j v hv=> ?_
 obtain⟨b,off,rfl⟩:=h.spot (by intro h0;simp[h0] at hk)
 have hj:j<n:=by rw[←hf l[k]];exact(List.getElem?_eq_some_iff.1 hv).1
 have:=(h.stay hf hb).cell k hk j hj
 rw[hv] at this
 rw[show(ad (some (⟨b,off,none⟩:Addr)) (k*n)).add j=ad (some ⟨b,off,none⟩) (k*n+j) by unfold Addr.add ad;split<;>simp_all [Nat.add_assoc]]
 exact this
end Go.Cit
namespace Go.Proofs.YtlholdllibghbaaGreat
open Go Go.RowKit Go.Cit
def iP {α β:Type} (r:α→β→Bool):List α→List β→Bool
 | [],[]=>true
 | x::l,y::m=>r x y && iP r l m
 | _,_=>false
theorem nC {α β:Type} (r:α→β→Bool):∀(l:List α) (m:List β),¬l.length=m.length→iP r l m=false
 | [],[],h=>absurd rfl h
 | x::l,y::m,h=>by rw[iP,nC r l m (by simpa using h),Bool.and_false]
 | [],_::_,_=>rfl
 | _::_,[],_=>rfl
theorem qo {α β:Type} (r:α→β→Bool) (l:List α) (m:List β) (k:Nat) (h:k<l.length) (h':k<m.length):iP r (l.drop k) (m.drop k)=(r l[k] m[k] && iP r (l.drop (k+1)) (m.drop (k+1))):=by
 rw[List.drop_eq_getElem_cons h,List.drop_eq_getElem_cons h',iP]
theorem lF {α β:Type} (r:α→β→Bool) (l:List α) (m:List β) (k:Nat) (h:l.length≤k) (h':m.length≤k):iP r (l.drop k) (m.drop k)=true:=by
 rw[List.drop_eq_nil_of_le h,List.drop_eq_nil_of_le h',iP]
theorem mJ {α β γ:Type} [DecidableEq γ] (g:α→γ) (g':β→γ):∀(l:List α) (m:List β),iP (fun x y=>decide (g x=g' y)) l m=decide (l.map g=m.map g')
 | [],[]=>by simp[iP]
 | x::l,y::m=>by rw[iP,mJ g g' l m,List.map_cons,List.map_cons,←Bool.decide_and];simp only[List.cons.injEq]
 | [],_::_=>by simp[iP]
 | _::_,[]=>by simp[iP]
theorem dD:bC Tryz.prog 29 42 14 88 (.agg (cP ⟨iZ 0,iZ 0,false,r0,0,0,none,[],0⟩)):=⟨Tryz.underlying29,by kernel_rfl,fun w=>AB,rfl,by decide,by decide⟩
theorem fF:bC Tryz.prog 30 51 6 64 (.agg #[.int .i64 0, .int .i64 0, .int .i64 0, .int .i64 0, .int .i64 0, .slice none 0 0]):=⟨Tryz.underlying30,by kernel_rfl,fun w=>AB,rfl,by decide,by decide⟩
theorem dR:dJ Tryz.prog 42 14:=⟨⟨_,Tryz.underlying42,rfl⟩,by kernel_rfl⟩
theorem oh:kZ Tryz.prog 42 14 (cP ⟨iZ 0,iZ 0,false,r0,0,0,none,[],0⟩):=⟨by kernel_rfl,fun _ _ _ _ _ _=>AB⟩
theorem jo:∀w,(isAgg 42).run Tryz.prog w= .ok true w:=fun w=>by kernel_rfl
theorem iM:dJ Tryz.prog 51 6:=⟨⟨_,Tryz.underlying51,rfl⟩,by kernel_rfl⟩
theorem vG:kZ Tryz.prog 51 6 #[.int .i64 0, .int .i64 0, .int .i64 0, .int .i64 0, .int .i64 0, .slice none 0 0]:=⟨by kernel_rfl,fun _ _ _ _ _ _=>AB⟩
theorem pI:∀w,(isAgg 51).run Tryz.prog w= .ok true w:=fun w=>by kernel_rfl
theorem DJ:dJ Tryz.prog 46 5:=⟨⟨_,Tryz.underlying46,rfl⟩,by kernel_rfl⟩
theorem Gw:kZ Tryz.prog 46 5 #[.int .i64 0, .int .i64 0, .int .i64 0, .bool false, .slice none 0 0]:=⟨by kernel_rfl,fun _ _ _ _ _ _=>AB⟩
theorem G9:∀w,(isAgg 46).run Tryz.prog w= .ok true w:=fun w=>by kernel_rfl
theorem yA:dJ Tryz.prog 48 5:=⟨⟨_,Tryz.underlying48,rfl⟩,by kernel_rfl⟩
theorem Fp:kZ Tryz.prog 48 5 #[.int .i64 0, .int .i64 0, .int .i64 0, .int .i64 0, .int .i64 0]:=⟨by kernel_rfl,fun _ _ _ _ _ _=>AB⟩
theorem Ia:∀w,(isAgg 48).run Tryz.prog w= .ok true w:=fun w=>by kernel_rfl
theorem yw (w:World) (a b:Option Addr) (l:List aK) (m:List aK) (c d:Nat) (h:Vec bG 14 w a l c) (h':Vec bG 14 w b m d) (r:aK→aK→Bool) (hc:∀W,Below w.heap.size w W→∀x∈l,∀y∈m,Calls Tryz.prog 38 #[.agg (bG x).toArray, .agg (bG y).toArray] W fun e w'=>e= .returned (.bool (r x y))∧Below W.heap.size W w'):Calls Tryz.prog 37 #[.slice a l.length c, .slice b m.length d, .func (.func 38) #[] #[]] w fun e w'=>e= .returned (.bool (iP r l m))∧Below w.heap.size w w':=by
 obtain⟨R,HR⟩:=AU (iP r l m)
 rw[←HR.o]
 have hl1:=h.aI
 have hl2:=h'.aI
 have HV:=AQ h
 have HU:=AQ h'
 have HC:=AQ hc
 clear h h' hc
 by_cases hg:¬(l.length=m.length)
 ·have HF:Hid (R=false):=by rw[Hid,HR.o];exact nC r l m hg
  have t1:((l.length:Int) !=(m.length:Int))=true:=by simp;omega
  clear hg
  go_enter Tryz.func37,Tryz.ntmps37
  go_wp2_with fail
  go_ret
  exact⟨au HF.o.symm,Below.refl _ _⟩
 have hg:=Classical.not_not.1 hg
 have t1:((l.length:Int) !=(m.length:Int))=false:=by rw[hg];simp
 have HG:=AQ hg
 clear hg
 go_enter Tryz.func37,Tryz.ntmps37
 go_wp2_with fail
 go_loopw [17] (fun s wr=>∃k:Nat,s= .int .i64 k∧k≤l.length∧Hid (R=iP r (l.drop k) (m.drop k))∧Below w.heap.size w wr) (fun s _=>l.length-(intOf s).toNat)
 case atStart=>exact⟨0,rfl,Nat.zero_le _,HR.o,Below.refl _ _⟩
 case round=>
  obtain⟨k,rfl,hk,HE,B⟩:=hrel
  have HB:=AQ B
  by_cases hlt:k<l.length
  ·have hlt':k<m.length:=by have:=HG.o;omega
   have i0:=HV.o.index dD k hlt
   have i1:=HU.o.index dD k hlt'
   obtain⟨X,hX⟩:∃X,Hid (X=(bG l[k]).toArray):=⟨(bG l[k]).toArray,rfl⟩
   obtain⟨Y,hY⟩:∃Y,Hid (Y=(bG m[k]).toArray):=⟨(bG m[k]).toArray,rfl⟩
   have hXs:X.size=14:=by rw[hX.o,List.size_toArray,aH]
   have hYs:Y.size=14:=by rw[hY.o,List.size_toArray,aH]
   have HX:=AQ (And.intro hXs (show X.all (·.oneCell')=true by rw[hX.o];exact Array.all_eq_true_iff_forall_mem.2 fun v hv=>gu _ v (by simpa using hv)))
   have HY:=AQ (And.intro hYs (show Y.all (·.oneCell')=true by rw[hY.o];exact Array.all_eq_true_iff_forall_mem.2 fun v hv=>gu _ v (by simpa using hv)))
   have L1:=AQ (HV.o.gV dD jo aH B k hlt)
   have hbb:Below wr.heap.size wr (wr.alloc (.cells X 42)):=(Below.refl _ _).alloc (Nat.le_refl _) _
   have L2:=AQ (HU.o.gV dD jo aH (B.trans (hbb.mono B.size)) k hlt')
   rw[←hX.o] at L1
   rw[←hY.o] at L2
   obtain⟨wb,hwb⟩:=AV (wr.alloc (.cells X 42))
   obtain⟨wc,hwc⟩:=AV (wb.alloc (.cells Y 42))
   rw[←hwb] at hbb
   have hbc:Below wb.heap.size wb wc:=by rw[hwc];exact(Below.refl _ _).alloc (Nat.le_refl _) _
   have bX:wb.heap[wr.heap.size]? =some (.cells X 42 (0,0)):=by rw[hwb];exact heap_alloc_new _ _
   have bY:wc.heap[wb.heap.size]? =some (.cells Y 42 (0,0)):=by rw[hwc];exact heap_alloc_new _ _
   have HBX:=AQ (ay bX hbc)
   have HBY:=AQ bY
   have HB2:=AQ (B.trans ((hbb.trans (hbc.mono hbb.size)).mono B.size))
   obtain⟨e,he⟩:∃e,Hid (e=r l[k] m[k]):=⟨r l[k] m[k],rfl⟩
   have HK:=AQ (HC.o wc HB2.o l[k] (List.getElem_mem hlt) m[k] (List.getElem_mem hlt'))
   rw[←he.o,←hX.o,←hY.o] at HK
   have HN:Hid (R=(e && iP r (l.drop (k+1)) (m.drop (k+1)))):=by rw[Hid,he.o,HE.o,qo r l m k hlt hlt']
   clear B hbb hbc bX bY hXs hYs
   go_upto_region 7 with (first
    | (with_reducible refine ku (o:=⟨some 21, .load _ (.tmp 20),_,_,_,_⟩) L1.o ?_)
    | (with_reducible refine yD (d:=8) (X:=X) dR oh HX.o.1 HX.o.2 ?_)
    | (with_reducible refine ku (o:=⟨some 25, .load _ (.tmp 24),_,_,_,_⟩) L2.o ?_)
    | (with_reducible refine yU (d:=9) (X:=Y) dR oh HY.o.1 HY.o.2 ?_))
   rw[←hwb,←hwc]
   clear hwb hwc
   go_wp2_with (first
    | (with_reducible refine Fh (o:=⟨some 27, .load _ (.tmp 8),_,_,_,_⟩) dR HBX.o HX.o.1 ?_)
    | (with_reducible refine Fh (o:=⟨some 28, .load _ (.tmp 9),_,_,_,_⟩) dR HBY.o HY.o.1 ?_))
   refine(HK.o).mono ?_
   rintro e1 w5 ⟨rfl,hb5⟩
   have HB3:=AQ (HB2.o.trans (hb5.mono HB2.o.size))
   clear hb5 i0 i1 HK
   cases e with
   |
    true=>
    go_wp2_with fail
    go_roundw
    case rel=>exact⟨k+1,by go_num,by omega,HN.o.trans (Bool.true_and _),HB3.o⟩
    case measure=>simp[intOf];omega
   |
    false=>
    go_wp2_with fail
    go_ret
    exact⟨au (HN.o.trans (Bool.false_and _)).symm,HB3.o⟩
  ·have HF:Hid (R=true):=by rw[Hid,HE.o];exact lF r l m k AL (by have:=HG.o;omega)
   obtain rfl:k=l.length:=by omega
   clear B
   go_wp2_with fail
   go_ret
   exact⟨au HF.o.symm,HB.o⟩
theorem xJ (w:World) (a b:Option Addr) (l:List bF) (m:List bF) (c d:Nat) (h:Vec bZ 6 w a l c) (h':Vec bZ 6 w b m d) (r:bF→bF→Bool) (hc:∀W,Below w.heap.size w W→∀x∈l,∀y∈m,Calls Tryz.prog 40 #[.agg (bZ x).toArray, .agg (bZ y).toArray] W fun e w'=>e= .returned (.bool (r x y))∧Below W.heap.size W w'):Calls Tryz.prog 39 #[.slice a l.length c, .slice b m.length d, .func (.func 40) #[] #[]] w fun e w'=>e= .returned (.bool (iP r l m))∧Below w.heap.size w w':=by
 obtain⟨R,HR⟩:=AU (iP r l m)
 rw[←HR.o]
 have hl1:=h.aI
 have hl2:=h'.aI
 have HV:=AQ h
 have HU:=AQ h'
 have HC:=AQ hc
 clear h h' hc
 by_cases hg:¬(l.length=m.length)
 ·have HF:Hid (R=false):=by rw[Hid,HR.o];exact nC r l m hg
  have t1:((l.length:Int) !=(m.length:Int))=true:=by simp;omega
  clear hg
  go_enter Tryz.func39,Tryz.ntmps39
  go_wp2_with fail
  go_ret
  exact⟨au HF.o.symm,Below.refl _ _⟩
 have hg:=Classical.not_not.1 hg
 have t1:((l.length:Int) !=(m.length:Int))=false:=by rw[hg];simp
 have HG:=AQ hg
 clear hg
 go_enter Tryz.func39,Tryz.ntmps39
 go_wp2_with fail
 go_loopw [17] (fun s wr=>∃k:Nat,s= .int .i64 k∧k≤l.length∧Hid (R=iP r (l.drop k) (m.drop k))∧Below w.heap.size w wr) (fun s _=>l.length-(intOf s).toNat)
 case atStart=>exact⟨0,rfl,Nat.zero_le _,HR.o,Below.refl _ _⟩
 case round=>
  obtain⟨k,rfl,hk,HE,B⟩:=hrel
  have HB:=AQ B
  by_cases hlt:k<l.length
  ·have hlt':k<m.length:=by have:=HG.o;omega
   have i0:=HV.o.index fF k hlt
   have i1:=HU.o.index fF k hlt'
   obtain⟨X,hX⟩:∃X,Hid (X=(bZ l[k]).toArray):=⟨(bZ l[k]).toArray,rfl⟩
   obtain⟨Y,hY⟩:∃Y,Hid (Y=(bZ m[k]).toArray):=⟨(bZ m[k]).toArray,rfl⟩
   have hXs:X.size=6:=by rw[hX.o,List.size_toArray,aT]
   have hYs:Y.size=6:=by rw[hY.o,List.size_toArray,aT]
   have HX:=AQ (And.intro hXs (show X.all (·.oneCell')=true by rw[hX.o];exact Array.all_eq_true_iff_forall_mem.2 fun v hv=>fZ _ v (by simpa using hv)))
   have HY:=AQ (And.intro hYs (show Y.all (·.oneCell')=true by rw[hY.o];exact Array.all_eq_true_iff_forall_mem.2 fun v hv=>fZ _ v (by simpa using hv)))
   have L1:=AQ (HV.o.gV fF pI aT B k hlt)
   have hbb:Below wr.heap.size wr (wr.alloc (.cells X 51)):=(Below.refl _ _).alloc (Nat.le_refl _) _
   have L2:=AQ (HU.o.gV fF pI aT (B.trans (hbb.mono B.size)) k hlt')
   rw[←hX.o] at L1
   rw[←hY.o] at L2
   obtain⟨wb,hwb⟩:=AV (wr.alloc (.cells X 51))
   obtain⟨wc,hwc⟩:=AV (wb.alloc (.cells Y 51))
   rw[←hwb] at hbb
   have hbc:Below wb.heap.size wb wc:=by rw[hwc];exact(Below.refl _ _).alloc (Nat.le_refl _) _
   have bX:wb.heap[wr.heap.size]? =some (.cells X 51 (0,0)):=by rw[hwb];exact heap_alloc_new _ _
   have bY:wc.heap[wb.heap.size]? =some (.cells Y 51 (0,0)):=by rw[hwc];exact heap_alloc_new _ _
   have HBX:=AQ (ay bX hbc)
   have HBY:=AQ bY
   have HB2:=AQ (B.trans ((hbb.trans (hbc.mono hbb.size)).mono B.size))
   obtain⟨e,he⟩:∃e,Hid (e=r l[k] m[k]):=⟨r l[k] m[k],rfl⟩
   have HK:=AQ (HC.o wc HB2.o l[k] (List.getElem_mem hlt) m[k] (List.getElem_mem hlt'))
   rw[←he.o,←hX.o,←hY.o] at HK
   have HN:Hid (R=(e && iP r (l.drop (k+1)) (m.drop (k+1)))):=by rw[Hid,he.o,HE.o,qo r l m k hlt hlt']
   clear B hbb hbc bX bY hXs hYs
   go_upto_region 7 with (first
    | (with_reducible refine ku (o:=⟨some 21, .load _ (.tmp 20),_,_,_,_⟩) L1.o ?_)
    | (with_reducible refine yD (d:=8) (X:=X) iM vG HX.o.1 HX.o.2 ?_)
    | (with_reducible refine ku (o:=⟨some 25, .load _ (.tmp 24),_,_,_,_⟩) L2.o ?_)
    | (with_reducible refine yU (d:=9) (X:=Y) iM vG HY.o.1 HY.o.2 ?_))
   rw[←hwb,←hwc]
   clear hwb hwc
   go_wp2_with (first
    | (with_reducible refine Fh (o:=⟨some 27, .load _ (.tmp 8),_,_,_,_⟩) iM HBX.o HX.o.1 ?_)
    | (with_reducible refine Fh (o:=⟨some 28, .load _ (.tmp 9),_,_,_,_⟩) iM HBY.o HY.o.1 ?_))
   refine(HK.o).mono ?_
   rintro e1 w5 ⟨rfl,hb5⟩
   have HB3:=AQ (HB2.o.trans (hb5.mono HB2.o.size))
   clear hb5 i0 i1 HK
   cases e with
   |
    true=>
    go_wp2_with fail
    go_roundw
    case rel=>exact⟨k+1,by go_num,by omega,HN.o.trans (Bool.true_and _),HB3.o⟩
    case measure=>simp[intOf];omega
   |
    false=>
    go_wp2_with fail
    go_ret
    exact⟨au (HN.o.trans (Bool.false_and _)).symm,HB3.o⟩
  ·have HF:Hid (R=true):=by rw[Hid,HE.o];exact lF r l m k AL (by have:=HG.o;omega)
   obtain rfl:k=l.length:=by omega
   clear B
   go_wp2_with fail
   go_ret
   exact⟨au HF.o.symm,HB.o⟩
theorem xC (w:World) (a b:Option Addr) (l:List aK) (m:List fV) (c d:Nat) (h:Vec bG 14 w a l c) (h':Vec xg 5 w b m d) (r:aK→fV→Bool) (hc:∀W,Below w.heap.size w W→∀x∈l,∀y∈m,Calls Tryz.prog 42 #[.agg (bG x).toArray, .agg (xg y).toArray] W fun e w'=>e= .returned (.bool (r x y))∧Below W.heap.size W w'):Calls Tryz.prog 41 #[.slice a l.length c, .slice b m.length d, .func (.func 42) #[] #[]] w fun e w'=>e= .returned (.bool (iP r l m))∧Below w.heap.size w w':=by
 obtain⟨R,HR⟩:=AU (iP r l m)
 rw[←HR.o]
 have hl1:=h.aI
 have hl2:=h'.aI
 have HV:=AQ h
 have HU:=AQ h'
 have HC:=AQ hc
 clear h h' hc
 by_cases hg:¬(l.length=m.length)
 ·have HF:Hid (R=false):=by rw[Hid,HR.o];exact nC r l m hg
  have t1:((l.length:Int) !=(m.length:Int))=true:=by simp;omega
  clear hg
  go_enter Tryz.func41,Tryz.ntmps41
  go_wp2_with fail
  go_ret
  exact⟨au HF.o.symm,Below.refl _ _⟩
 have hg:=Classical.not_not.1 hg
 have t1:((l.length:Int) !=(m.length:Int))=false:=by rw[hg];simp
 have HG:=AQ hg
 clear hg
 go_enter Tryz.func41,Tryz.ntmps41
 go_wp2_with fail
 go_loopw [17] (fun s wr=>∃k:Nat,s= .int .i64 k∧k≤l.length∧Hid (R=iP r (l.drop k) (m.drop k))∧Below w.heap.size w wr) (fun s _=>l.length-(intOf s).toNat)
 case atStart=>exact⟨0,rfl,Nat.zero_le _,HR.o,Below.refl _ _⟩
 case round=>
  obtain⟨k,rfl,hk,HE,B⟩:=hrel
  have HB:=AQ B
  by_cases hlt:k<l.length
  ·have hlt':k<m.length:=by have:=HG.o;omega
   have i0:=HV.o.index dD k hlt
   have i1:=HU.o.index Eh k hlt'
   obtain⟨X,hX⟩:∃X,Hid (X=(bG l[k]).toArray):=⟨(bG l[k]).toArray,rfl⟩
   obtain⟨Y,hY⟩:∃Y,Hid (Y=(xg m[k]).toArray):=⟨(xg m[k]).toArray,rfl⟩
   have hXs:X.size=14:=by rw[hX.o,List.size_toArray,aH]
   have hYs:Y.size=5:=by rw[hY.o,List.size_toArray,jZ]
   have HX:=AQ (And.intro hXs (show X.all (·.oneCell')=true by rw[hX.o];exact Array.all_eq_true_iff_forall_mem.2 fun v hv=>gu _ v (by simpa using hv)))
   have HY:=AQ (And.intro hYs (show Y.all (·.oneCell')=true by rw[hY.o];exact Array.all_eq_true_iff_forall_mem.2 fun v hv=>EZ _ v (by simpa using hv)))
   have L1:=AQ (HV.o.gV dD jo aH B k hlt)
   have hbb:Below wr.heap.size wr (wr.alloc (.cells X 42)):=(Below.refl _ _).alloc (Nat.le_refl _) _
   have L2:=AQ (HU.o.gV Eh G9 jZ (B.trans (hbb.mono B.size)) k hlt')
   rw[←hX.o] at L1
   rw[←hY.o] at L2
   obtain⟨wb,hwb⟩:=AV (wr.alloc (.cells X 42))
   obtain⟨wc,hwc⟩:=AV (wb.alloc (.cells Y 46))
   rw[←hwb] at hbb
   have hbc:Below wb.heap.size wb wc:=by rw[hwc];exact(Below.refl _ _).alloc (Nat.le_refl _) _
   have bX:wb.heap[wr.heap.size]? =some (.cells X 42 (0,0)):=by rw[hwb];exact heap_alloc_new _ _
   have bY:wc.heap[wb.heap.size]? =some (.cells Y 46 (0,0)):=by rw[hwc];exact heap_alloc_new _ _
   have HBX:=AQ (ay bX hbc)
   have HBY:=AQ bY
   have HB2:=AQ (B.trans ((hbb.trans (hbc.mono hbb.size)).mono B.size))
   obtain⟨e,he⟩:∃e,Hid (e=r l[k] m[k]):=⟨r l[k] m[k],rfl⟩
   have HK:=AQ (HC.o wc HB2.o l[k] (List.getElem_mem hlt) m[k] (List.getElem_mem hlt'))
   rw[←he.o,←hX.o,←hY.o] at HK
   have HN:Hid (R=(e && iP r (l.drop (k+1)) (m.drop (k+1)))):=by rw[Hid,he.o,HE.o,qo r l m k hlt hlt']
   clear B hbb hbc bX bY hXs hYs
   go_upto_region 7 with (first
    | (with_reducible refine ku (o:=⟨some 21, .load _ (.tmp 20),_,_,_,_⟩) L1.o ?_)
    | (with_reducible refine yD (d:=8) (X:=X) dR oh HX.o.1 HX.o.2 ?_)
    | (with_reducible refine ku (o:=⟨some 25, .load _ (.tmp 24),_,_,_,_⟩) L2.o ?_)
    | (with_reducible refine yU (d:=9) (X:=Y) DJ Gw HY.o.1 HY.o.2 ?_))
   rw[←hwb,←hwc]
   clear hwb hwc
   go_wp2_with (first
    | (with_reducible refine Fh (o:=⟨some 27, .load _ (.tmp 8),_,_,_,_⟩) dR HBX.o HX.o.1 ?_)
    | (with_reducible refine Fh (o:=⟨some 28, .load _ (.tmp 9),_,_,_,_⟩) DJ HBY.o HY.o.1 ?_))
   refine(HK.o).mono ?_
   rintro e1 w5 ⟨rfl,hb5⟩
   have HB3:=AQ (HB2.o.trans (hb5.mono HB2.o.size))
   clear hb5 i0 i1 HK
   cases e with
   |
    true=>
    go_wp2_with fail
    go_roundw
    case rel=>exact⟨k+1,by go_num,by omega,HN.o.trans (Bool.true_and _),HB3.o⟩
    case measure=>simp[intOf];omega
   |
    false=>
    go_wp2_with fail
    go_ret
    exact⟨au (HN.o.trans (Bool.false_and _)).symm,HB3.o⟩
  ·have HF:Hid (R=true):=by rw[Hid,HE.o];exact lF r l m k AL (by have:=HG.o;omega)
   obtain rfl:k=l.length:=by omega
   clear B
   go_wp2_with fail
   go_ret
   exact⟨au HF.o.symm,HB.o⟩
theorem xQ (w:World) (a b:Option Addr) (l:List bF) (m:List Ch) (c d:Nat) (h:Vec bZ 6 w a l c) (h':Vec xk 5 w b m d) (r:bF→Ch→Bool) (hc:∀W,Below w.heap.size w W→∀x∈l,∀y∈m,Calls Tryz.prog 44 #[.agg (bZ x).toArray, .agg (xk y).toArray] W fun e w'=>e= .returned (.bool (r x y))∧Below W.heap.size W w'):Calls Tryz.prog 43 #[.slice a l.length c, .slice b m.length d, .func (.func 44) #[] #[]] w fun e w'=>e= .returned (.bool (iP r l m))∧Below w.heap.size w w':=by
 obtain⟨R,HR⟩:=AU (iP r l m)
 rw[←HR.o]
 have hl1:=h.aI
 have hl2:=h'.aI
 have HV:=AQ h
 have HU:=AQ h'
 have HC:=AQ hc
 clear h h' hc
 by_cases hg:¬(l.length=m.length)
 ·have HF:Hid (R=false):=by rw[Hid,HR.o];exact nC r l m hg
  have t1:((l.length:Int) !=(m.length:Int))=true:=by simp;omega
  clear hg
  go_enter Tryz.func43,Tryz.ntmps43
  go_wp2_with fail
  go_ret
  exact⟨au HF.o.symm,Below.refl _ _⟩
 have hg:=Classical.not_not.1 hg
 have t1:((l.length:Int) !=(m.length:Int))=false:=by rw[hg];simp
 have HG:=AQ hg
 clear hg
 go_enter Tryz.func43,Tryz.ntmps43
 go_wp2_with fail
 go_loopw [17] (fun s wr=>∃k:Nat,s= .int .i64 k∧k≤l.length∧Hid (R=iP r (l.drop k) (m.drop k))∧Below w.heap.size w wr) (fun s _=>l.length-(intOf s).toNat)
 case atStart=>exact⟨0,rfl,Nat.zero_le _,HR.o,Below.refl _ _⟩
 case round=>
  obtain⟨k,rfl,hk,HE,B⟩:=hrel
  have HB:=AQ B
  by_cases hlt:k<l.length
  ·have hlt':k<m.length:=by have:=HG.o;omega
   have i0:=HV.o.index fF k hlt
   have i1:=HU.o.index Gq k hlt'
   obtain⟨X,hX⟩:∃X,Hid (X=(bZ l[k]).toArray):=⟨(bZ l[k]).toArray,rfl⟩
   obtain⟨Y,hY⟩:∃Y,Hid (Y=(xk m[k]).toArray):=⟨(xk m[k]).toArray,rfl⟩
   have hXs:X.size=6:=by rw[hX.o,List.size_toArray,aT]
   have hYs:Y.size=5:=by rw[hY.o,List.size_toArray,oK]
   have HX:=AQ (And.intro hXs (show X.all (·.oneCell')=true by rw[hX.o];exact Array.all_eq_true_iff_forall_mem.2 fun v hv=>fZ _ v (by simpa using hv)))
   have HY:=AQ (And.intro hYs (show Y.all (·.oneCell')=true by rw[hY.o];exact Array.all_eq_true_iff_forall_mem.2 fun v hv=>Ej _ v (by simpa using hv)))
   have L1:=AQ (HV.o.gV fF pI aT B k hlt)
   have hbb:Below wr.heap.size wr (wr.alloc (.cells X 51)):=(Below.refl _ _).alloc (Nat.le_refl _) _
   have L2:=AQ (HU.o.gV Gq Ia oK (B.trans (hbb.mono B.size)) k hlt')
   rw[←hX.o] at L1
   rw[←hY.o] at L2
   obtain⟨wb,hwb⟩:=AV (wr.alloc (.cells X 51))
   obtain⟨wc,hwc⟩:=AV (wb.alloc (.cells Y 48))
   rw[←hwb] at hbb
   have hbc:Below wb.heap.size wb wc:=by rw[hwc];exact(Below.refl _ _).alloc (Nat.le_refl _) _
   have bX:wb.heap[wr.heap.size]? =some (.cells X 51 (0,0)):=by rw[hwb];exact heap_alloc_new _ _
   have bY:wc.heap[wb.heap.size]? =some (.cells Y 48 (0,0)):=by rw[hwc];exact heap_alloc_new _ _
   have HBX:=AQ (ay bX hbc)
   have HBY:=AQ bY
   have HB2:=AQ (B.trans ((hbb.trans (hbc.mono hbb.size)).mono B.size))
   obtain⟨e,he⟩:∃e,Hid (e=r l[k] m[k]):=⟨r l[k] m[k],rfl⟩
   have HK:=AQ (HC.o wc HB2.o l[k] (List.getElem_mem hlt) m[k] (List.getElem_mem hlt'))
   rw[←he.o,←hX.o,←hY.o] at HK
   have HN:Hid (R=(e && iP r (l.drop (k+1)) (m.drop (k+1)))):=by rw[Hid,he.o,HE.o,qo r l m k hlt hlt']
   clear B hbb hbc bX bY hXs hYs
   go_upto_region 7 with (first
    | (with_reducible refine ku (o:=⟨some 21, .load _ (.tmp 20),_,_,_,_⟩) L1.o ?_)
    | (with_reducible refine yD (d:=8) (X:=X) iM vG HX.o.1 HX.o.2 ?_)
    | (with_reducible refine ku (o:=⟨some 25, .load _ (.tmp 24),_,_,_,_⟩) L2.o ?_)
    | (with_reducible refine yU (d:=9) (X:=Y) yA Fp HY.o.1 HY.o.2 ?_))
   rw[←hwb,←hwc]
   clear hwb hwc
   go_wp2_with (first
    | (with_reducible refine Fh (o:=⟨some 27, .load _ (.tmp 8),_,_,_,_⟩) iM HBX.o HX.o.1 ?_)
    | (with_reducible refine Fh (o:=⟨some 28, .load _ (.tmp 9),_,_,_,_⟩) yA HBY.o HY.o.1 ?_))
   refine(HK.o).mono ?_
   rintro e1 w5 ⟨rfl,hb5⟩
   have HB3:=AQ (HB2.o.trans (hb5.mono HB2.o.size))
   clear hb5 i0 i1 HK
   cases e with
   |
    true=>
    go_wp2_with fail
    go_roundw
    case rel=>exact⟨k+1,by go_num,by omega,HN.o.trans (Bool.true_and _),HB3.o⟩
    case measure=>simp[intOf];omega
   |
    false=>
    go_wp2_with fail
    go_ret
    exact⟨au (HN.o.trans (Bool.false_and _)).symm,HB3.o⟩
  ·have HF:Hid (R=true):=by rw[Hid,HE.o];exact lF r l m k AL (by have:=HG.o;omega)
   obtain rfl:k=l.length:=by omega
   clear B
   go_wp2_with fail
   go_ret
   exact⟨au HF.o.symm,HB.o⟩
open Go Go.RowKit Go.Cit
theorem zi (w:World) (x:aK) (k:Nat) {v:Value} (h:(bG x)[k]? =some v):(w.alloc (.cells (cP x) 42)).cell? ⟨w.heap.size,k,none⟩=some v:=by
 rw[World.cell?,heap_alloc_new]
 exact(by simpa[cP] using h:(cP x)[k]? =some v)
theorem iF (x:aK) {k:Nat} {v:Value} (h: [vw x.pc,vb x.st, .slice x.a x.mem.length x.c][k]? =some v):(bG x)[11+k]? =some v:=by
 rw[bG,List.getElem?_append_right (by simp;omega),List.getElem?_append_right (by simp[x.r.2];omega)]
 simp only[List.length_map,x.r.2,List.length_cons,List.length_nil]
 rw[show 11+k-(0+1+1+1)-8=k by omega];exact h
theorem vH (w:World) (x:aK):Calls Tryz.prog 105 #[.agg (cP x)] w fun e w'=>e= .returned (.bool (mF x.prt))∧Below w.heap.size w w':=by
 obtain⟨R,HR⟩:=AU ((decide (1≤x.id.1∧x.id.1≤6) && (dY ⟨iZ 0,x.size⟩ && (decide ((x.mem.length:Int)=x.size.1) && decide (x.st.toNat≤4)))))
 rw[show mF x.prt=R from HR.o.symm]
 obtain⟨w0,hw0⟩:=AV (w.alloc (.cells (cP x) 42))
 have B0:Below w.heap.size w w0:=by rw[hw0];exact(Below.refl _ w).alloc (Nat.le_refl _) _
 have c0:w0.cell? ⟨w.heap.size,0,none⟩=some (.int .i64 x.id.1):=by rw[hw0];exact zi w x 0 rfl
 have c1:w0.cell? ⟨w.heap.size,1,none⟩=some (.int .i64 x.size.1):=by rw[hw0];exact zi w x 1 rfl
 have c12:w0.cell? ⟨w.heap.size,12,none⟩=some (vb x.st):=by rw[hw0];exact zi w x 12 (iF x (k:=1) rfl)
 have c13:w0.cell? ⟨w.heap.size,13,none⟩=some (.slice x.a x.mem.length x.c):=by rw[hw0];exact zi w x 13 (iF x (k:=2) rfl)
 have HB0:=AQ B0
 clear B0
 go_enter Tryz.func105,Tryz.ntmps105
 go_upto_region 1 with fail
 rw[←hw0]
 clear hw0
 go_wp2_with fail
 ·refine(eu w0 ⟨iZ 0,x.size⟩).mono ?_
  rintro e w1 ⟨rfl,hb1⟩
  have B1:=AQ (HB0.o.trans (hb1.mono HB0.o.size))
  have c1:=keep hb1 c1
  have c12:=keep hb1 c12
  have c13:=keep hb1 c13
  generalize hm:dY ⟨iZ 0,x.size⟩=m
  have HM:=AQ hm
  clear hm
  cases m<;>go_wp2_with fail
  all_goals (go_ret;refine⟨au ?_,B1.o⟩;rw[HR.o,HM.o];simp[*]<;>omega)
 all_goals (go_ret;refine⟨au ?_,HB0.o⟩;rw[HR.o,decide_eq_false AL];rfl)
theorem lQ (w:World) {a b:Option Addr} {l m:List UInt8} {c d:Nat} (h:Row w a l c) (h':Row w b m d):Calls Tryz.prog 103 #[.slice a l.length c, .slice b m.length d] w fun e w'=>e= .returned (.bool (decide (l=m)))∧w'=w:=by
 have:=Tryz.bytes_Equal_strs (.slice a l.length c) (.slice b m.length d) ⟨l.toArray⟩ ⟨m.toArray⟩ w (zN h) (zN h')
 rw[ByteArray.toList_eq,ByteArray.toList_eq] at this
 refine this.mono ?_
 rintro e w' ⟨rfl,rfl⟩
 exact⟨au (by rw[Bool.eq_iff_iff,beq_iff_eq,decide_eq_true_iff]),rfl⟩
theorem DT (w:World) (b:Nat) (x:aK) (h:∀(k:Nat) (v:Value),(bG x)[k]? =some v→w.cell? ⟨b,k,none⟩=some v):(Instr.loadAt 39 (.pointer (some ⟨b,3,none⟩))).run Tryz.prog w= .ok (.agg (x.r.1.map vw).toArray) w:=by
 refine fE (n:=8) (fun w=>AB) (fun w=>AB) (by simp[x.r.2]) fun j v hv=> ?_
 have hj:j<8:=by have:=(List.getElem?_eq_some_iff.1 hv).1;simpa[x.r.2] using this
 rw[show(⟨b,3,none⟩:Addr).add j=⟨b,3+j,none⟩ by unfold Addr.add;split<;>simp_all]
 refine h _ _ ?_
 rw[bG,List.getElem?_append_right AO,List.getElem?_append_left (by simp[x.r.2];omega)]
 simpa using hv
theorem Jc:lU Tryz.prog 39 38 8 .u32:=⟨Tryz.underlying39,Tryz.underlying38,by kernel_rfl,by kernel_rfl,by kernel_rfl,by kernel_rfl⟩
theorem F6 (x y:aK):x.prt=y.prt↔x.id.1=y.id.1∧x.size.1=y.size.1∧x.keep=y.keep∧x.r.1=y.r.1∧x.pc=y.pc∧x.st=y.st∧x.mem=y.mem:=by
 unfold aK.prt
 rw[qg.mk.injEq,Subtype.ext_iff,Subtype.ext_iff,Subtype.ext_iff]
theorem wR (w:World) (x y:aK) (hx:Row w x.a x.mem x.c) (hy:Row w y.a y.mem y.c):Calls Tryz.prog 38 #[.agg (cP x), .agg (cP y)] w fun e w'=>e= .returned (.bool (decide (x.prt=y.prt)))∧Below w.heap.size w w':=by
 obtain⟨R,HR⟩:=AU (decide (x.prt=y.prt))
 rw[←HR.o]
 obtain⟨w0,hw0⟩:=AV ((w.alloc (.cells (cP x) 42)).alloc (.cells (cP y) 42))
 have B0:Below w.heap.size w w0:=by rw[hw0];exact((Below.refl _ w).alloc (Nat.le_refl _) _).alloc AO _
 have cx:∀(k:Nat) (v:Value),(bG x)[k]? =some v→w0.cell? ⟨w.heap.size,k,none⟩=some v:=fun k v h=>by rw[hw0];exact keepA _ (zi w x k h)
 have cy:∀(k:Nat) (v:Value),(bG y)[k]? =some v→w0.cell? ⟨w.heap.size+1,k,none⟩=some v:=fun k v h=>by
  have:=zi (w.alloc (.cells (cP x) 42)) y k h
  rw[World.size_alloc] at this
  rw[hw0];exact this
 have L1:=AQ (DT w0 _ x cx)
 have L2:=AQ (DT w0 _ y cy)
 have c0:=cx 0 _ rfl
 have c1:=cx 1 _ rfl
 have c2:=cx 2 _ rfl
 have c11:=cx 11 _ (iF x (k:=0) rfl)
 have c12:=cx 12 _ (iF x (k:=1) rfl)
 have c13:=cx 13 _ (iF x (k:=2) rfl)
 have d0:=cy 0 _ rfl
 have d1:=cy 1 _ rfl
 have d2:=cy 2 _ rfl
 have d11:=cy 11 _ (iF y (k:=0) rfl)
 have d12:=cy 12 _ (iF y (k:=1) rfl)
 have d13:=cy 13 _ (iF y (k:=2) rfl)
 have HK:=AQ (lQ w0 (hx.stay B0) (hy.stay B0))
 have hq:=um Jc x.r.1 y.r.1 x.r.2 y.r.2
 obtain⟨C,hC⟩:=AV ((x.r.1.map vw).toArray)
 obtain⟨D,hD⟩:=AV ((y.r.1.map vw).toArray)
 rw[←hC] at L1 hq
 rw[←hD] at L2 hq
 obtain⟨e,he⟩:=AU (decide (x.r.1=y.r.1))
 rw[←he.o] at hq
 have HP:=AQ (F6 x y)
 have HB0:=AQ B0
 clear B0 hx hy cx cy hC hD
 go_enter Tryz.func38,Tryz.ntmps38
 go_upto_region 1 with fail
 rw[←hw0]
 clear hw0
 go_wp2_with (first
  | (with_reducible refine oz (o:=⟨some 26, .load _ (.tmp 25),_,_,_,_⟩) L1.o ?_)
  | (with_reducible refine oz (o:=⟨some 28, .load _ (.tmp 27),_,_,_,_⟩) L2.o ?_))
 all_goals first
  | (go_ret;refine⟨au ?_,HB0.o⟩;rw[HR.o,decide_eq_false];intro h;have:=HP.o.1 h;have:=he.o;simp_all;done)
  | skip
 refine HK.o.mono ?_
 rintro e1 w1 ⟨rfl,rfl⟩
 go_wp2_with fail
 go_ret
 refine⟨au ?_,HB0.o⟩
 rw[HR.o]
 have:=he.o
 exact decide_eq_decide.2 (by rw[HP.o];simp_all)
theorem Gj (x y:bF):x.kC=y.kC↔x.ch=y.ch∧x.ms.map Sl.l=y.ms.map Sl.l:=by unfold bF.kC;rw[yP.mk.injEq]
open Go Go.RowKit Go.Cit
theorem yu (w:World) (a b:Option Addr) (l m:List (Sl UInt8)) (c d:Nat) (h:Rows w a l c) (h':Rows w b m d):Calls Tryz.prog 104 #[.slice a l.length c, .slice b m.length d, .func (.func 103) #[] #[]] w fun e w'=>e= .returned (.bool (iP (fun x y=>decide (x.l=y.l)) l m))∧Below w.heap.size w w':=by
 obtain⟨r,hr⟩:=AU (fun (x y:Sl UInt8)=>decide (x.l=y.l))
 rw[←hr.o]
 obtain⟨R,HR⟩:=AU (iP r l m)
 rw[←HR.o]
 have hl1:=h.aI
 have hl2:=h'.aI
 have HV:=AQ h
 have HU:=AQ h'
 clear h h'
 by_cases hg:¬(l.length=m.length)
 ·have HF:Hid (R=false):=by rw[Hid,HR.o];exact nC r l m hg
  have t1:((l.length:Int) !=(m.length:Int))=true:=by simp;omega
  clear hg
  go_enter Tryz.func104,Tryz.ntmps104
  go_wp2_with fail
  go_ret
  exact⟨au HF.o.symm,Below.refl _ _⟩
 have hg:=Classical.not_not.1 hg
 have t1:((l.length:Int) !=(m.length:Int))=false:=by rw[hg];simp
 have HG:=AQ hg
 clear hg
 go_enter Tryz.func104,Tryz.ntmps104
 go_wp2_with fail
 go_loopw [17] (fun s wr=>∃k:Nat,s= .int .i64 k∧k≤l.length∧Hid (R=iP r (l.drop k) (m.drop k))∧Below w.heap.size w wr) (fun s _=>l.length-(intOf s).toNat)
 case atStart=>exact⟨0,rfl,Nat.zero_le _,HR.o,Below.refl _ _⟩
 case round=>
  obtain⟨k,rfl,hk,HE,B⟩:=hrel
  have HB:=AQ B
  by_cases hlt:k<l.length
  ·have hlt':k<m.length:=by have:=HG.o;omega
   have i0:=HV.o.vec.index rZ k hlt
   have i1:=HU.o.vec.index rZ k hlt'
   rw[Nat.mul_one] at i0 i1
   obtain⟨x,hx⟩:∃x:Sl UInt8,Hid (x=l[k]):=⟨l[k],rfl⟩
   obtain⟨y,hy⟩:∃y:Sl UInt8,Hid (y=m[k]):=⟨m[k],rfl⟩
   have e0:=(gJ (HV.o.vec.stay jh B) fun d hd=>(HV.o.row d hd).stay B).cell k hlt
   have e1:=(gJ (HU.o.vec.stay jh B) fun d hd=>(HU.o.row d hd).stay B).cell k hlt'
   rw[←hx.o] at e0
   rw[←hy.o] at e1
   obtain⟨e,he⟩:=AU (r x y)
   have HK:=AQ (lQ wr ((HV.o.row l[k] (List.getElem_mem hlt)).stay B) ((HU.o.row m[k] (List.getElem_mem hlt')).stay B))
   rw[←hx.o,←hy.o,show decide (x.l=y.l)=e by rw[he.o,hr.o]] at HK
   have HN:Hid (R=(e && iP r (l.drop (k+1)) (m.drop (k+1)))):=by rw[Hid,he.o,HE.o,qo r l m k hlt hlt',hx.o,hy.o]
   clear B
   go_wp2_with fail
   refine(HK.o).mono ?_
   rintro e1 w5 ⟨rfl,rfl⟩
   have HB3:=HB
   clear i0 i1 HK e0 e1
   cases e with
   |
    true=>
    go_wp2_with fail
    go_roundw
    case rel=>exact⟨k+1,by go_num,by omega,HN.o.trans (Bool.true_and _),HB3.o⟩
    case measure=>simp[intOf];omega
   |
    false=>
    go_wp2_with fail
    go_ret
    exact⟨au (HN.o.trans (Bool.false_and _)).symm,HB3.o⟩
  ·have HF:Hid (R=true):=by rw[Hid,HE.o];exact lF r l m k AL (by have:=HG.o;omega)
   obtain rfl:k=l.length:=by omega
   clear B
   go_wp2_with fail
   go_ret
   exact⟨au HF.o.symm,HB.o⟩
theorem oq (w:World) (C:List Value) (T:TypeId) (k:Nat) {v:Value} (h:C[k]? =some v):(w.alloc (.cells C.toArray T)).cell? ⟨w.heap.size,k,none⟩=some v:=by
 rw[World.cell?,heap_alloc_new]
 exact(by simpa using h:C.toArray[k]? =some v)
theorem wH (w:World) (x y:bF) (hx:x.At w) (hy:y.At w):Calls Tryz.prog 40 #[.agg (bZ x).toArray, .agg (bZ y).toArray] w fun e w'=>e= .returned (.bool (decide (x.kC=y.kC)))∧Below w.heap.size w w':=by
 obtain⟨R,HR⟩:=AU (decide (x.kC=y.kC))
 rw[←HR.o]
 obtain⟨w0,hw0⟩:=AV ((w.alloc (.cells (bZ x).toArray 51)).alloc (.cells (bZ y).toArray 51))
 have B0:Below w.heap.size w w0:=by rw[hw0];exact((Below.refl _ w).alloc (Nat.le_refl _) _).alloc AO _
 have cx:∀(k:Nat) (v:Value),(bZ x)[k]? =some v→w0.cell? ⟨w.heap.size,k,none⟩=some v:=fun k v h=>by rw[hw0];exact keepA _ (oq w _ _ k h)
 have cy:∀(k:Nat) (v:Value),(bZ y)[k]? =some v→w0.cell? ⟨w.heap.size+1,k,none⟩=some v:=fun k v h=>by
  have:=oq (w.alloc (.cells (bZ x).toArray 51)) (bZ y) 51 k h
  rw[World.size_alloc] at this
  rw[hw0];exact this
 have c0:=cx 0 _ rfl
 have c1:=cx 1 _ rfl
 have c2:=cx 2 _ rfl
 have c3:=cx 3 _ rfl
 have c4:=cx 4 _ rfl
 have c5:=cx 5 _ rfl
 have d0:=cy 0 _ rfl
 have d1:=cy 1 _ rfl
 have d2:=cy 2 _ rfl
 have d3:=cy 3 _ rfl
 have d4:=cy 4 _ rfl
 have d5:=cy 5 _ rfl
 have HK:=AQ (yu w0 x.a y.a x.ms y.ms x.c y.c (hx.stay B0).rows (hy.stay B0).rows)
 rw[mJ] at HK
 have hq:=zK x.ch.id.1 x.ch.src.1 x.ch.dst.1 x.ch.cap.1 x.ch.size.1 y.ch.id.1 y.ch.src.1 y.ch.dst.1 y.ch.cap.1 y.ch.size.1
 obtain⟨e,he⟩:=AU (decide (x.ch=y.ch))
 simp only[←rV,←he.o] at hq
 have HP:=AQ (Gj x y)
 have HB0:=AQ B0
 clear B0 hx hy cx cy
 go_enter Tryz.func40,Tryz.ntmps40
 go_upto_region 1 with fail
 rw[←hw0]
 clear hw0
 cases e with
 |
  false=>
  go_wp2_with fail
  go_ret
  refine⟨au ?_,HB0.o⟩
  rw[HR.o,decide_eq_false]
  intro h
  have:=(HP.o.1 h).1
  have:=he.o
  simp_all
 |
  true=>
  go_wp2_with fail
  refine HK.o.mono ?_
  rintro e1 w1 ⟨rfl,hb1⟩
  have HB1:=AQ (HB0.o.trans (hb1.mono HB0.o.size))
  clear hb1
  go_wp2_with fail
  go_ret
  refine⟨au ?_,HB1.o⟩
  rw[HR.o]
  have:=he.o
  exact decide_eq_decide.2 (by rw[HP.o];simp_all)
theorem yc (w:World) (x:bF) (y:Ch):Calls Tryz.prog 44 #[.agg (bZ x).toArray, .agg (xk y).toArray] w fun e w'=>e= .returned (.bool (decide (x.ch=y)))∧Below w.heap.size w w':=by
 obtain⟨R,HR⟩:=AU (decide (x.ch=y))
 rw[←HR.o]
 obtain⟨w0,hw0⟩:=AV ((w.alloc (.cells (bZ x).toArray 51)).alloc (.cells (xk y).toArray 48))
 have B0:Below w.heap.size w w0:=by rw[hw0];exact((Below.refl _ w).alloc (Nat.le_refl _) _).alloc AO _
 have cx:∀(k:Nat) (v:Value),(bZ x)[k]? =some v→w0.cell? ⟨w.heap.size,k,none⟩=some v:=fun k v h=>by rw[hw0];exact keepA _ (oq w _ _ k h)
 have cy:∀(k:Nat) (v:Value),(xk y)[k]? =some v→w0.cell? ⟨w.heap.size+1,k,none⟩=some v:=fun k v h=>by
  have:=oq (w.alloc (.cells (bZ x).toArray 51)) (xk y) 48 k h
  rw[World.size_alloc] at this
  rw[hw0];exact this
 have c0:=cx 0 _ rfl
 have c1:=cx 1 _ rfl
 have c2:=cx 2 _ rfl
 have c3:=cx 3 _ rfl
 have c4:=cx 4 _ rfl
 have d0:=cy 0 _ rfl
 have d1:=cy 1 _ rfl
 have d2:=cy 2 _ rfl
 have d3:=cy 3 _ rfl
 have d4:=cy 4 _ rfl
 have hq:=zK x.ch.id.1 x.ch.src.1 x.ch.dst.1 x.ch.cap.1 x.ch.size.1 y.id.1 y.src.1 y.dst.1 y.cap.1 y.size.1
 simp only[←rV,←HR.o] at hq
 have HB0:=AQ B0
 clear B0 cx cy
 go_enter Tryz.func44,Tryz.ntmps44
 go_upto_region 1 with fail
 rw[←hw0]
 clear hw0
 go_wp2_with fail
 go_ret
 exact⟨rfl,HB0.o⟩
def yh (x:aK) (y:fV):Bool:=decide (x.id.1=y.id.1∧x.size.1=y.reg.size.1∧x.keep=y.keep)
theorem xX (w:World) (x:aK) (y:fV):Calls Tryz.prog 42 #[.agg (bG x).toArray, .agg (xg y).toArray] w fun e w'=>e= .returned (.bool (yh x y))∧Below w.heap.size w w':=by
 obtain⟨R,HR⟩:=AU (yh x y)
 rw[←HR.o]
 obtain⟨w0,hw0⟩:=AV ((w.alloc (.cells (bG x).toArray 42)).alloc (.cells (xg y).toArray 46))
 have B0:Below w.heap.size w w0:=by rw[hw0];exact((Below.refl _ w).alloc (Nat.le_refl _) _).alloc AO _
 have cx:∀(k:Nat) (v:Value),(bG x)[k]? =some v→w0.cell? ⟨w.heap.size,k,none⟩=some v:=fun k v h=>by rw[hw0];exact keepA _ (oq w _ _ k h)
 have cy:∀(k:Nat) (v:Value),(xg y)[k]? =some v→w0.cell? ⟨w.heap.size+1,k,none⟩=some v:=fun k v h=>by
  have:=oq (w.alloc (.cells (bG x).toArray 42)) (xg y) 46 k h
  rw[World.size_alloc] at this
  rw[hw0];exact this
 have c0:=cx 0 _ rfl
 have c1:=cx 1 _ rfl
 have c2:=cx 2 _ rfl
 have d0:=cy 0 _ rfl
 have d1:=cy 1 _ rfl
 have d2:=cy 2 _ rfl
 have d3:=cy 3 _ rfl
 have HB0:=AQ B0
 obtain⟨X,hX⟩:=AV ((bG x).toArray)
 obtain⟨Y,hY⟩:=AV ((xg y).toArray)
 rw[←hX,←hY] at hw0 ⊢
 clear B0 cx cy hX hY
 go_enter Tryz.func42,Tryz.ntmps42
 go_upto_region 1 with fail
 rw[←hw0]
 clear hw0
 go_wp2_with fail
 all_goals (go_ret;refine⟨au ?_,HB0.o⟩;rw[HR.o];unfold yh;simp[*]<;>(cases x.keep<;>cases y.keep<;>rfl))
theorem uU (w:World) (g:Nat) (n:I64) (hg:w.cell? ⟨g,4,none⟩=some (.int .i64 n.1)) (d:Sl UInt8):Calls Tryz.prog 181 (#[.slice d.a d.l.length d.c]++ #[.pointer (some ⟨g,0,none⟩)]) w fun e w'=>e= .returned (.bool (zA n.1 d.l))∧w'=w:=by
 show Calls Tryz.prog 181 #[.slice d.a d.l.length d.c, .pointer (some ⟨g,0,none⟩)] w _
 go_enter Tryz.func181,Tryz.ntmps181
 go_wp2_with fail
 go_ret
 exact⟨rfl,rfl⟩
end Go.Proofs.YtlholdllibghbaaGreat
