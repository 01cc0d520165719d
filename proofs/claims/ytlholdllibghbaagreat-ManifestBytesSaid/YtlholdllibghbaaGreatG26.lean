/- Texts of the proof, one behind the other: ArrB, ShaPrint, ShaTail, ShaSum. No condition but those that each names. -/
import Derived.Test.YtlholdllibghbaaGreatG24
import Derived.Test.YtlholdllibghbaaGreatG23
import Derived.Test.YtlholdllibghbaaGreatG22
import Derived.Test.YtlholdllibghbaaGreatG05
import Derived.IntWalk
import Derived.Test.YtlholdllibghbaaGreatG04
import Derived.Test.YtlholdllibghbaaGreatG25
import Derived.Test.YtlholdllibghbaaGreatKit
set_option maxRecDepth 100000
set_option maxHeartbeats 8000000
namespace Go.Proofs.YtlholdllibghbaaGreat
open Go Go.RowKit Go.Cit
def iV (T:TypeId) (w:World) (b:Nat) (l:List UInt8):Prop:=w.heap[b]? =some (.cells (l.map vb).toArray T (0,0))
theorem iV.lt {T w b l} (h:iV T w b l):b<w.heap.size:=(Array.getElem?_eq_some_iff.1 h).1
theorem iV.cell {T w b l} (h:iV T w b l) (i:Nat) (hi:i<l.length):w.cell? ⟨b,i,none⟩=some (vb l[i]):=by
 rw[World.cell?,h];simp[hi]
theorem iV.free {T w b l} (h:iV T w b l) (i:Nat):w.frozen? ⟨b,i,none⟩=false:=by simp[World.frozen?,show w.heap[b]? =_ from h]
theorem iV.set {T w b l} (h:iV T w b l) (i:Nat) (x:UInt8):iV T (w.setCell ⟨b,i,none⟩ (vb x)) b (l.set i x):=by
 unfold iV at *
 simp[World.setCell,Array.getElem?_modify,h,List.map_set]
theorem iV.save {S:Nat→Prop} {T w w' b l} (h:iV T w b l) (hs:Save S w w') (hb:S b):iV T w' b l:=(hs.block b h.lt hb).trans h
theorem nT (l:List UInt8):(l.map vb).toArray.all (·.oneCell')=true:=by simp[Value.oneCell']
theorem iV.row {T w b l} (h:iV T w b l) (hl:l.length≤1000000000):Row w (some ⟨b,0,none⟩) l l.length:=sG l h rfl hl
theorem Dh {T:TypeId} {b:Nat}:∀(m A R:List UInt8) (w:World),iV T w b (A++R)→m.length≤R.length→iV T (w.setCells b A.length (m.map vb)) b (A++m++R.drop m.length)∧Save (· ≠b) w (w.setCells b A.length (m.map vb))
 |
  [],A,R,w,h,_=>by
  rw[List.append_nil];exact⟨h,Save.refl _ _⟩
 | x::m,A,[],w,h,hl=>absurd hl AO
 |
  x::m,A,y::R,w,h,hl=>by
  have h1:=h.set A.length x
  rw[List.set_append_right _ _ (Nat.le_refl _),Nat.sub_self,List.set_cons_zero,show A++x::R=(A++ [x])++R by simp] at h1
  have h2:=Dh m (A++ [x]) R _ h1 (by simpa using hl)
  rw[List.length_append,List.length_singleton] at h2
  refine⟨?_,Save.set.trans h2.2⟩
  have:=h2.1
  simpa[World.setCells] using this
theorem BA {P:Program} {T E:TypeId} {n k:Nat} {C:Array Value} (w:World) (hT:P.underlying T=some (.array n E)) (hs:(sizeOf E).run P w= .ok 1 w) (hA:(isAgg E).run P w= .ok false w) (hC:C.size=n) (hk:k<n):
 (Instr.index T (.agg C) (.int .i64 (k:Int))).run P w= .ok C[k] w:=by
 have hk':(0:Int)≤(k:Int)∧(k:Int)<(n:Int):=by omega
 have hkC:k<C.size:=by omega
 simp[Instr.index,run_underlying hT,asIntOf,hs,hA,part,go_sem,hkC,hk]
theorem U5:∀w,(isAgg 38).run Tryz.prog w= .ok false w:=by intro w;kernel_rfl
theorem szB:∀w,(sizeOf 5).run Tryz.prog w= .ok 1 w:=by intro w;kernel_rfl
open Go Go.RowKit Go.Cit
theorem iL:fO Tryz.prog 53 32:=⟨⟨_,Tryz.underlying53,rfl⟩,by kernel_rfl⟩
theorem jL (ρ:Operand→Value) (d:Option Tmp) (ty:TypeId) (ps:String) {af} (w:World):
 (execOp ρ {dst:=d,op:=Op.alloc 53,type:=ty,pos:=ps,after:=af,guard:=none}).run Tryz.prog w= .ok (.value (.pointer (some ⟨w.heap.size,0,none⟩))) (w.alloc (.cells ((List.replicate 32 (0:UInt8)).map vb).toArray 53)):=by
 kernel_rfl
theorem Oo (g k:Nat) (hk:k<8) (w:World):(Instr.sliceAt 53 (.pointer (some ⟨g,0,none⟩)) (some (.int .i64 ((4*k:Nat):Int))) none none).run Tryz.prog w= .ok (.slice (some ⟨g,4*k,none⟩) (32-4*k) (32-4*k)) w:=by
 have hT:Tryz.prog.underlying 53=some (.array 32 5):=Tryz.underlying53
 have he:Tryz.prog.elem 53=5:=by simp[Program.elem,hT]
 have hl:Tryz.prog.arrayLen 53=32:=by simp[Program.arrayLen,hT]
 rw[run_sliceAt_array_l _ _ _ (by rw[he,hl];exact hT) _ _ AL (by rw[hl];omega),he,szB,hl]
 have e:((4*k:Nat):Int).toNat=4*k:=by omega
 simp only[Result.andThen,slicedAt,e,if_neg (show ¬32=4*k by omega),Addr.add]
 by_cases h0:k=0
 ·subst h0;simp
 ·simp;omega
def PO (l:List UInt32) (k:Nat):List UInt8:=(l.take k).flatMap fun x=>rowB (lN x) 4
theorem Ap (l:List UInt32) (k:Nat) (hk:k≤l.length):(PO l k).length=4*k:=by
 induction k with
 | zero=>rfl
 |
  succ k ih=>
  have:=ih AL
  unfold PO at *
  rw[List.take_succ_eq_append_getElem AL,List.flatMap_append,List.length_append,this]
  simp[aB];omega
theorem Nw (l:List UInt32) (k:Nat) (hk:k<l.length):PO l k++rowB (lN l[k]) 4=PO l (k+1):=by
 unfold PO
 rw[List.take_succ_eq_append_getElem hk,List.flatMap_append]
 simp
def IC (g:Nat) (W:World) (l l':List UInt8) (δ:Nat→Bool) (_:Act) (wx:World):Prop:=
 (δ 5=false→Below W.heap.size W wx)∧Save (· ≠g) W wx∧iV 53 wx g (if δ 5 then l' else l)
def Ed (n0 g k:Nat) (x:UInt32):Nat→Value→World→Prop
 | 11,v,_=>v= .int .i64 (k:Int)
 | 12,v,_=>v= .int .i64 ((4*k:Nat):Int)
 | 13,v,_=>v= .slice (some ⟨g,4*k,none⟩) (32-4*k) (32-4*k)
 | 14,v,_=>v=vw x
 | 15,v,w=>∃a c,v= .slice a 4 c∧Go.Cit.Own 5 n0 w a (rowB (lN x) 4) c
 | 16,v,_=>v= .int .i64 4
 | _,_,_=>True
theorem Gh {n0 g k:Nat} {x:UInt32} {d:Nat} {v:Value} {w w':World} (hs:Save (· ≠g) w w') (hg:g<n0) (h:Ed n0 g k x d v w):Ed n0 g k x d v w':=by
 unfold Ed at *
 split at h<;>try (simp_all;done)
 obtain⟨a,c,e,ho⟩:=h
 exact⟨a,c,e,ho.save hs (fun b hb=>by have:=(ho.aK hb).1;omega)⟩
theorem lu {g:Nat} {W:World} {l l':List UInt8} {δ:Nat→Bool} {a a':Act} {wx w':World} (h:IC g W l l' δ a wx) (hb:Below wx.heap.size wx w') {i:Nat} (hi:i≠5):IC g W l l' (upd δ i) a' w':=by
 obtain⟨h1,h2,h3⟩:=h
 refine⟨fun h=> ?_,h2.trans (Save.of hb), ?_⟩
 ·rw[aA δ hi] at h
  exact(h1 h).trans (hb.mono (h1 h).size)
 ·rw[aA δ hi]
  exact h3.save (S:=fun _=>True) (Save.of hb) trivial
theorem EM (w:World) (s:S8):
 Calls Tryz.prog 118 #[.agg (s.l.map vw).toArray] w fun e w'=>e= .returned (.agg ((iy s).map vb).toArray)∧Below w.heap.size w w':=by
 have HA:=AQ (fun ρ d ty ps af w=>jL ρ d ty ps (af:=af) w)
 obtain⟨Y,hY⟩:=AU (((List.replicate 32 (0:UInt8)).map vb).toArray)
 obtain⟨S,hS⟩:=AU ((s.l.map vw).toArray)
 rw[←hY.o] at HA
 rw[←hS.o]
 have HY:Hid (Y.size=32):=by rw[Hid,hY.o];simp
 have HSs:Hid (S.size=8):=by rw[Hid,hS.o];simp[S8.l]
 have hsl:s.l.length=8:=rfl
 have HSL:=AQ hsl
 clear hsl
 go_enter Tryz.func118,Tryz.ntmps118
 have hsz:(((w.alloc (.cells S 158)).alloc (.cells Y 53)).alloc (.cells Y 53)).heap.size=w.heap.size+3:=by simp
 have B0:Below w.heap.size w (((w.alloc (.cells S 158)).alloc (.cells Y 53)).alloc (.cells Y 53)):=(((Below.refl _ w).alloc (Nat.le_refl _) _).alloc AO _).alloc (by simp;omega) _
 have b0:(((w.alloc (.cells S 158)).alloc (.cells Y 53)).alloc (.cells Y 53)).heap[w.heap.size]? =some (.cells S 158 (0,0)):=
  (Below.heap_alloc _ _ _ (by simp;omega)).trans ((Below.heap_alloc _ _ _ AO).trans (heap_alloc_new w _))
 have b1:(((w.alloc (.cells S 158)).alloc (.cells Y 53)).alloc (.cells Y 53)).heap[w.heap.size+1]? =some (.cells Y 53 (0,0)):=by
  refine(Below.heap_alloc _ _ _ AO).trans ?_
  have:=heap_alloc_new (w.alloc (.cells S 158)) (.cells Y 53)
  rwa[World.size_alloc] at this
 have b2:(((w.alloc (.cells S 158)).alloc (.cells Y 53)).alloc (.cells Y 53)).heap[w.heap.size+2]? =some (.cells Y 53 (0,0)):=by
  have:=heap_alloc_new ((w.alloc (.cells S 158)).alloc (.cells Y 53)) (.cells Y 53)
  rwa[World.size_alloc,World.size_alloc] at this
 have HLB:=AQ (And.intro hsz (And.intro B0 (And.intro b0 (And.intro b1 b2))))
 clear hsz B0 b0 b1 b2
 go_wp2_with (first
  | ((with_reducible refine lF (o:=⟨some 1, .box _ (.tmp 0),_,_,_,_⟩) (.tmp 0) AA AA AA ?_))
  | ((with_reducible refine aj (o:=⟨some 2, .alloc _,_,_,_,_⟩) AA (HA.o _ _ _ _ _ _) ?_))
  | ((with_reducible refine aj (o:=⟨some 3, .alloc _,_,_,_,_⟩) AA (HA.o _ _ _ _ _ _) ?_))
  | ((with_reducible refine dD (o:=⟨some 6, .load _ _,_,_,_,_⟩) iT (.tmp 1) AA AA AA HLB.o.2.2.1 HSs.o ?_)))
 obtain⟨hsz,B0,b0,b1,b2⟩:=HLB.o
 clear HLB
 generalize (((w.alloc (.cells S 158)).alloc (.cells Y 53)).alloc (.cells Y 53))=W at hsz B0 b0 b1 b2 ⊢
 have A2:iV 53 W (w.heap.size+2) (PO s.l 0++List.replicate (32-4*0) 0):=by rw[hY.o] at b2;exact b2
 have HB1:=AQ b1
 clear b0 b1 b2
 go_loopw [7] (fun i wr=>∃(k:Nat),k≤8∧i= .int .i64 k∧iV 53 wr (w.heap.size+2) (PO s.l k++List.replicate (32-4*k) 0)∧Save (· ≠w.heap.size+2) W wr) (fun i _=>8-(intOf i).toNat)
 case atStart=>exact⟨0,Nat.zero_le _,rfl,A2,Save.refl _ _⟩
 case round=>
  clear A2
  obtain⟨k,hk,rfl,AX,hsv⟩:=hrel
  by_cases hlt:k<8
  ·have d1:decide ((k:Int)<8)=true:=by simp;omega
   have hks:k<s.l.length:=by rw[HSL.o];exact hlt
   have ia:∀W,(Instr.index 158 (.agg S) (.int .i64 (k:Int))).run Tryz.prog W= .ok (vw s.l[k]) W:=by
    intro W
    have:=BA (T:=158) (C:=S) W Tryz.underlying158 (Ul W) (U5 W) HSs.o hlt
    rw[this]
    congr 1
    have e:=hS.o
    subst e
    simp
   have HNX:=AQ (Nw s.l k hks)
   generalize s.l[k]=x at ia HNX
   have hwr:=hsv.size
   go_wp2_with fail
   have hPL:=Ap s.l k (by rw[HSL.o];omega)
   refine mJ (IC (w.heap.size+2) wr (PO s.l k++List.replicate (32-4*k) 0) (PO s.l (k+1)++List.replicate (32-4*(k+1)) 0)) (fun _ wx w'=>Save (· ≠w.heap.size+2) wx w') (Ed wr.heap.size (w.heap.size+2) k x) AB AB ?_ ?_ ?_ ?_
   ·intro w' hb hh
    exact⟨fun _=>hb,Save.of hb,AX.save (S:=fun _=>True) (Save.of hb) trivial⟩
   ·intro δ i j o v a w1 w2 _ _ _ _ _ _ hG h
    rcases hd:o.dst with _ |d
    ·exact eU hd _ _
    ·rw[fZ hd] at h ⊢
     exact Gh hG AL h
   ·repeat' (first |exact aU |refine aI ?_ ?_)
    all_goals intro δ wa wx hk
    ·exact⟨ah rfl,eH (.tmp 4) rfl ⟨Save.refl _ _,lu hk.inv (Below.refl _ _) AP,hk.o 4⟩⟩
    ·exact⟨ah rfl,wS rfl (hk.lit _) (hk.s 11) (v:= .int .i64 ((4*k:Nat):Int)) (fun w=>by
      have e:IntKind.i64.wrap (4*(k:Int))=((4*k:Nat):Int):=by rw[show(4:Int)*(k:Int)=((4*k:Nat):Int) by omega];exact IntWalk.i64_in _ AL
      go_simp
      try rw[e]) ⟨Save.refl _ _,lu hk.inv (Below.refl _ _) AP,rfl⟩⟩
    ·exact⟨ah rfl,Dv rfl (hk.o 3) (congrArg some (hk.s 12)) rfl rfl (Oo (w.heap.size+2) k hlt wx) ⟨Save.refl _ _,lu hk.inv (Below.refl _ _) AP,rfl⟩⟩
    ·exact⟨ah rfl,eH (.tmp 5) rfl ⟨Save.refl _ _,lu hk.inv (Below.refl _ _) AP,hk.o 5⟩⟩
    ·refine⟨ah rfl,bJ rfl (hk.fn _) #[vw x] (fun w=>AB) (by simp[show wa.eval (.tmp 14)=_ from hk.s 14]) ((xW wx x).mono ?_)⟩
     rintro e w' ⟨a,c,rfl,ho,hb⟩
     have:=(hk.inv.1 (hk.closed.yet 8 5 4 AB hk.yet)).size
     exact⟨_,rfl,Save.of hb,lu hk.inv hb AP,a,c,rfl,ho.low this⟩
    ·obtain⟨h1,h2,h3⟩:=hk.inv
     rw[hk.yet] at h3
     obtain⟨a,c,e15,ho⟩:=hk.s 15
     have hrow:=ho.isRow
     obtain⟨ab,ao,rfl⟩:=hrow.spot (by intro h0;have:=congrArg List.length h0;rw[aB] at this;simp at this)
     have hm4:(rowB (lN x) 4).length=4:=aB _ _
     have hcp:=Dh (rowB (lN x) 4) (PO s.l k) (List.replicate (32-4*k) 0) wx h3 (by rw[hm4,List.length_replicate];omega)
     rw[hPL,HNX.o,hm4,List.drop_replicate,show 32-4*k-4=32-4*(k+1) by omega] at hcp
     have hrun:=run_copy_cells (P:=Tryz.prog) wx 40 40 3 5 (w.heap.size+2) (4*k) (32-4*k) (32-4*k) ⟨ab,ao,none⟩ 4 c ((rowB (lN x) 4).map vb) Tryz.underlying40 AB (by rw[List.length_map,hm4];show 4=min 4 (32-4*k);omega)
      (Bf hrow) (fun j hj=>by
       rw[List.length_map,hm4] at hj
       rw[h3.cell (4*k+j) (by simp[hPL];omega)];rfl)
      (fun j _=>h3.free _) (fun v hv=>by obtain⟨y,_,rfl⟩:=List.mem_map.1 hv;rfl)
     rw[List.length_map,hm4] at hrun
     refine⟨ah rfl,QH (.tmp 13) (.tmp 15) rfl (hk.s 13) e15 hrun ⟨hcp.2,⟨fun h=>absurd h (by rw[upd_same];decide),h2.trans hcp.2,by rw[upd_same];exact hcp.1⟩,rfl⟩⟩
   intro δ wa wx hall hC hsame hT
   obtain⟨_,hSv,hcE⟩:=hC
   rw[hall 5 AP,if_pos rfl] at hcE
   obtain⟨a15,c15,e15,_⟩:=hT 15 AB
   have he:=dn hsame [11,12,13,14,15,16] AB
   simp only[List.foldl_cons,List.foldl_nil] at he
   rw[show wa.eval (.tmp 11)=_ from hT 11 AB,show wa.eval (.tmp 12)=_ from hT 12 AB,show wa.eval (.tmp 13)=_ from hT 13 AB,show wa.eval (.tmp 14)=_ from hT 14 AB,e15,show wa.eval (.tmp 16)=_ from hT 16 AB] at he
   subst he
   have HCE:=AQ hcE
   have HSV:=AQ (hsv.trans hSv)
   clear hT hsame hall hcE hSv hsv AX hPL e15
   go_wp2_with fail
   go_roundw
   case rel=>exact⟨k+1,by omega,by go_num,HCE.o,HSV.o⟩
   case measure=>simp[intOf];omega
  ·have hk2:k=8:=by omega
   have d1:decide ((k:Int)<8)=false:=by simp;omega
   obtain⟨E,hE⟩:=AU (((iy s).map vb).toArray)
   have hpl:(iy s).length=32:=Ap s.l 8 (Nat.le_refl 8)
   have HE1:Hid (E.size=32):=by rw[Hid,hE.o];simp[hpl]
   have HEO:Hid (E.all (·.oneCell')=true):=by rw[Hid,hE.o];exact nT _
   have HA1:Hid (wr.heap[w.heap.size+2]? =some (.cells E 53 (0,0))):=by
    rw[Hid,hE.o];rw[hk2] at AX
    have e:PO s.l 8=iy s:=rfl
    rw[e,show 32-4*8=0 from rfl,List.replicate_zero,List.append_nil] at AX
    exact AX
   have HA6:Hid (wr.heap[w.heap.size+1]? =some (.cells Y 53 (0,0))):=(hsv.block _ AL AL).trans HB1.o
   clear hk2 AX
   go_wp2_with (first
    | ((with_reducible refine dD (o:=⟨some 18, .load _ _,_,_,_,_⟩) iL (.tmp 3) AA AA AA HA1.o HE1.o ?_))
    | ((with_reducible refine ay (o:=⟨none, .store _ (.tmp 2) (.tmp 18),_,_,_,_⟩) iL (.tmp 2) (.tmp 18) AA AA AA AA AA HA6.o HY.o HE1.o HEO.o ?_);intro w4 hb4 hS4))
   refine bodyPost_ret (ig iL rfl rfl hb4 HE1.o) rfl ⟨by rw[hE.o], ?_⟩
   have h1:=B0.size
   have h2:=hsv.size
   exact B0.trans (((hsv.below (B:=w.heap.size) AL (fun j hj=>by omega))).trans (hS4.below AL (fun j hj=>by omega)))
open Go Go.RowKit Go.Cit
theorem Jz {w w':World} {v:Value} {l:List UInt8} (h:Lib.HoldsBytes w v l) (hb:Below w.heap.size w w'):Lib.HoldsBytes w' v l:=by
 obtain⟨p,cap,e,h1,h2⟩:=h
 refine⟨p,cap,e,h1,fun a ha j x hx=> ?_⟩
 have hc:=h2 a ha j x hx
 exact(hb.cell (World.block_lt_of_cell? w _ hc)).trans hc
theorem IW {w w':World} {p:Addr} {vs:List Value} {ls:List (List UInt8)} (h:Lib.PartsAt w p vs ls) (hb:Below w.heap.size w w'):Lib.PartsAt w' p vs ls:=by
 obtain⟨x,y,z⟩:=h
 exact⟨x,fun i v hv=>(hb.cell (World.block_lt_of_cell? w _ (y i v hv))).trans (y i v hv),fun i v l hv hl=>Jz (z i v l hv hl) hb⟩
theorem OW {P:Program} {T E:TypeId} (hBT:gW P T E) {w:World} {o:Oper} {ρ:Operand→Value} {post:Value→World→Prop} (x y:Operand)
 (ho:o.op= .makeSlice T x y) (n:Nat) {k1 k2:IntKind} (hx:ρ x= .int k1 (n:Int)) (hy:ρ y= .int k2 (n:Int)) (hn:n≤1000000000)
 (h:∀w',Go.Cit.Own E w.heap.size w' (some ⟨w.heap.size,0,none⟩) (List.replicate n 0) n→w.grownBy w' none→post (.slice (some ⟨w.heap.size,0,none⟩) n n) w'):bQ P post ((execOp ρ o).run P w):=by
 obtain⟨i,hi,hz0,hz1,hz2⟩:=info_parts hBT.info
 obtain⟨w',hr,hown,hgr⟩:=run_make_full (P:=P) w w.heap.size T E i (.int .u8 0) 1 hBT.slice hi hz0 hz1 k1 k2 n (by rw[hz2];omega) (by unfold maxLen;omega) (Nat.le_refl _)
 have e1:(madeCells (Value.int .u8 0).cells (n*1)).toList=(List.replicate n (0:UInt8)).map vb:=by
  rw[show(Value.int .u8 0).cells= #[.int .u8 0] from rfl,toList_madeCells_one,Nat.mul_one,List.map_replicate];rfl
 rw[e1] at hown
 refine fA (w':=w') (v:= .slice (some ⟨w.heap.size,0,none⟩) n n) ?_ (h w' ⟨by simpa using hown⟩ hgr)
 unfold execOp
 rw[ho]
 dsimp only
 rw[hx,hy,Sem.run_bind,hr]
 rfl
def J6 (n z:Nat):Nat→Value→World→Prop
 | 10,v,w=>∃a c,v= .slice a 1 c∧Row w a [128] c
 | 11,v,_=>v= .int .i64 (z:Int)
 | 12,v,w=>∃a c,v= .slice a z c∧Row w a (List.replicate z 0) c
 | 13,v,_=>v= .int .i64 (n:Int)
 | 14,v,_=>v=vq (iH n)
 | 15,v,_=>v=vq (jV (qI 8) (iH n))
 | 16,v,w=>∃a c,v= .slice a 8 c∧Row w a (rowB (jV (qI 8) (iH n)) 8) c
 | 17,v,w=>∃g vs,v= .slice (some ⟨g,0,none⟩) 3 3∧Lib.PartsAt w ⟨g,0,none⟩ vs [[128],List.replicate z 0,rowB (jV (qI 8) (iH n)) 8]
 | 18,v,w=>∃a c,v= .slice a (z+9) c∧Row w a (128::(List.replicate z 0++rowB (jV (qI 8) (iH n)) 8)) c
 | 2,v,w=>∃a c,v= .slice a (z+9) c∧Row w a (128::(List.replicate z 0++rowB (jV (qI 8) (iH n)) 8)) c
 | _,_,_=>True
theorem Jg {n z d:Nat} {v:Value} {w w':World} (hb:Below w.heap.size w w') (h:J6 n z d v w):J6 n z d v w':=by
 unfold J6 at *
 split at h<;>first
  | exact h
  | (obtain⟨a,c,e,hr⟩:=h;exact⟨a,c,e,hr.stay hb⟩)
  | (obtain⟨a,c,e,hr⟩:=h;exact⟨a,c,e,IW hr hb⟩)
  | simp_all
theorem EZ {ρ:Operand→Value} {o:Oper} (x y z:Operand) (h:o.op= .buildSlice 49 3 #[(0,x),(1,y),(2,z)]) {a b c:Option Addr} {l m n p q r:Nat} (hx:ρ x= .slice a l p) (hy:ρ y= .slice b m q) (hz:ρ z= .slice c n r) (wx:World):
 (execOp ρ o).run Tryz.prog wx= .ok (.value (.slice (some ⟨wx.heap.size,0,none⟩) 3 3)) (wx.alloc (.cells #[.slice a l p, .slice b m q, .slice c n r] 40)):=by
 unfold execOp
 rw[h]
 dsimp only
 go_simp
theorem Iy {ρ:Operand→Value} {o:Oper} (x:Operand) (h:o.op= .buildSlice 40 1 #[(0,x)]) {y:UInt8} (hx:ρ x=vb y) (wx:World):
 (execOp ρ o).run Tryz.prog wx= .ok (.value (.slice (some ⟨wx.heap.size,0,none⟩) 1 1)) (wx.alloc (.cells #[vb y] 5)):=by
 unfold execOp
 rw[h]
 dsimp only
 go_simp
theorem JA (w:World) (n:Nat) (hn:n≤1000000000):
 Calls Tryz.prog 116 #[.int .i64 (n:Int)] w fun e w'=>∃a c,e= .returned (.slice a (jl n).length c)∧Row w' a (jl n) c∧Below w.heap.size w w':=by
 obtain⟨z,hz⟩:=AU ((119-n%64)%64)
 have hz9:z<64:=by rw[hz.o];omega
 have t1:decide ((n:Int)<0)=false:=by simp
 have e1:(n:Int).tmod 64=((n%64:Nat):Int):=by rw[Int.tmod_eq_emod_of_nonneg AL];omega
 have e2:IntKind.i64.wrap (119-((n%64:Nat):Int))=((119-n%64:Nat):Int):=by rw[show(119:Int)-((n%64:Nat):Int)=((119-n%64:Nat):Int) by omega];exact IntWalk.i64_in _ AL
 go_enter Tryz.func116,Tryz.ntmps116
 go_wp2_with fail
 have hz3:(119-(n:Int)%64)%64=(z:Int):=by rw[hz.o];omega
 rw[hz3]
 have hlen:(jl n).length=z+9:=by unfold jl;rw[←hz.o];simp[aB]
 have HL:=AQ hlen
 have HTB:Hid (128::(List.replicate z 0++rowB (jV (qI 8) (iH n)) 8)=jl n):=by unfold jl;rw[←hz.o];rfl
 clear e1 e2 hz3 hlen
 refine jv (fun _ wx=>Below w.heap.size w wx) (fun _ wx w'=>Below wx.heap.size wx w') (J6 n z) AB AB ?_ ?_ ?_ ?_
 ·intro w' hb hh
  exact hb
 ·intro δ i j o v w1 w2 _ _ _ _ _ _ hG h
  rcases hd:o.dst with _ |d
  ·exact eU hd _ _
  ·rw[fZ hd] at h ⊢
   exact Jg hG h
 ·repeat' (first |exact aU |refine aI ?_ ?_)
  all_goals intro δ wa wx hk
  ·refine⟨ah rfl,fA (Iy (.const (.int .u8 128)) rfl (y:=128) (hk.lit _) wx) ?_⟩
   have hb:Below wx.heap.size wx (wx.alloc (.cells #[vb 128] 5)):=(Below.refl _ wx).alloc (Nat.le_refl _) _
   exact⟨hb,hk.inv.trans (hb.mono hk.inv.size),_,_,rfl,wo wx _ _ _ [128] rfl AP⟩
  ·exact⟨ah rfl,eH (.tmp 3) rfl ⟨Below.refl _ _,hk.inv,hk.o 3⟩⟩
  ·refine⟨ah rfl,OW bt (.tmp 11) (.tmp 11) rfl z (hk.s 11) (hk.s 11) AL ?_⟩
   intro w' ho hg
   have hb:Below wx.heap.size wx w':=⟨hg.os,hg.tape,hg.output,hg.size,fun k hk=>hg.block k hk AO⟩
   have hr:=ho.isRow
   exact⟨hb,hk.inv.trans (hb.mono hk.inv.size),_,_,rfl,hr⟩
  ·exact⟨ah rfl,eH (.tmp 0) rfl ⟨Below.refl _ _,hk.inv,hk.o 0⟩⟩
  ·refine⟨ah rfl, ?_⟩
   have e13:wa.eval (.tmp 13)=_:=hk.s 13
   refine fA (v:=vq (iH n)) (w':=wx) ?_ ⟨Below.refl _ _,hk.inv,rfl⟩
   unfold execOp
   dsimp only
   rw[e13]
   go_simp
   rw[dI,lD]
  ·refine⟨ah rfl,wS rfl (hk.lit _) (hk.s 14) (v:=vq (jV (qI 8) (iH n))) (fun w=> ?_) ⟨Below.refl _ _,hk.inv,rfl⟩⟩
   go_simp
  ·refine⟨ah rfl,bJ rfl (hk.fn _) #[vq (jV (qI 8) (iH n))] (fun w=>AB) (by simp[show wa.eval (.tmp 15)=_ from hk.s 15]) ((qN wx _).mono ?_)⟩
   rintro e w' ⟨a,c,rfl,ho,hb⟩
   exact⟨_,rfl,hb,hk.inv.trans (hb.mono hk.inv.size),a,c,rfl,ho.isRow⟩
  ·obtain⟨a1,c1,e1,r1⟩:=hk.s 10
   obtain⟨a2,c2,e2,r2⟩:=hk.s 12
   obtain⟨a3,c3,e3,r3⟩:=hk.s 16
   refine⟨ah rfl,fA (EZ (.tmp 10) (.tmp 12) (.tmp 16) rfl e1 e2 e3 wx) ?_⟩
   have hb:Below wx.heap.size wx (wx.alloc (.cells #[.slice a1 1 c1, .slice a2 z c2, .slice a3 8 c3] 40)):=(Below.refl _ wx).alloc (Nat.le_refl _) _
   refine⟨hb,hk.inv.trans (hb.mono hk.inv.size),wx.heap.size,[.slice a1 1 c1, .slice a2 z c2, .slice a3 8 c3],rfl, ?_⟩
   refine oN wx _ _ _ rfl (fun i v l hv hl=> ?_)
   match i with
   | 0=>simp at hv hl;subst hv hl;exact dF (l:=[128]) r1
   | 1=>simp at hv hl;subst hv hl;have:=dF r2;rwa[List.length_replicate] at this
   | 2=>simp at hv hl;subst hv hl;have:=dF r3;rwa[aB] at this
   | i+3=>simp at hv
  ·obtain⟨g,vs,e17,hp⟩:=hk.s 17
   have hc:=kQ wx g 0 3 vs _ hp AO (by simp[aB];omega) AO
   have hfl:([[128],List.replicate z 0,rowB (jV (qI 8) (iH n)) 8]:List (List UInt8)).flatten=128::(List.replicate z 0++rowB (jV (qI 8) (iH n)) 8):=by simp
   rw[hfl] at hc
   have hl9:(128::(List.replicate z 0++rowB (jV (qI 8) (iH n)) 8):List UInt8).length=z+9:=by simp[aB]
   rw[hl9] at hc
   refine⟨ah rfl,bJ rfl (hk.fn _) #[.slice (some ⟨g,0,none⟩) 3 3] (fun w=>AB) (by simp[e17]) (hc.mono ?_)⟩
   rintro e w' ⟨a,c,rfl,hm,hb⟩
   exact⟨_,rfl,hb,hk.inv.trans (hb.mono hk.inv.size),a,c,rfl,hm.row⟩
  ·exact⟨ah rfl,mQ (.tmp 18) rfl ⟨Below.refl _ _,hk.inv,hk.s 18⟩⟩
 intro δ wa wx hall hC hsame hT
 obtain⟨a,c,e2,hr⟩:=hT 2 AB
 have hd:=hsame.1
 rename_i hK
 refine hK wa wx ?_
 apply wp_ret
 refine bodyPost_ret (results_tmp rfl _ _ _) hd ⟨a,c, ?_,by rw[←HTB.o];exact hr,hC⟩
 show Ending.returned (wa.eval (.tmp 2))=_
 rw[e2,HL.o]
open Go Go.RowKit Go.Cit
theorem qU (K:List UInt32):∀(k:Nat) (s:S8) (b:List UInt8),gy K (k+1) s b=(gy K k s b).Ru K ((b.drop (64*k)).take 64)
 | 0,s,b=>rfl
 |
  k+1,s,b=>by
  rw[gy,qU K k,gy,List.drop_drop]
  congr 3
  omega
theorem zV (n:Nat):(n+(jl n).length)%64=0:=by
 unfold jl
 simp[aB]
 omega
theorem IK {M:List UInt8} {n:Nat} (hn:M.length=64*n) {ds:List (Sl UInt8)} (hds:ds.map (·.l)=Ei 64 M):ds.length=n∧Hid (∀k (h:k<ds.length),ds[k].l=(M.drop (64*k)).take 64):=by
 have hdl:ds.length=n:=by
  have:=congrArg List.length hds
  rw[List.length_map,Ei,List.length_map,List.length_range,Jr,hn] at this
  omega
 refine⟨hdl,fun k h=> ?_⟩
 have h1:(ds.map (·.l))[k]? =some (kD 64 M k):=by
  rw[hds,Ei,List.getElem?_map,List.getElem?_range (by unfold Jr;omega)];rfl
 rw[List.getElem?_map,List.getElem?_eq_getElem h] at h1
 have h2:ds[k].l=kD 64 M k:=Option.some.inj h1
 rw[h2,kD,Nat.mul_comm]
theorem rO (w:World) (a:Option Addr) (b:List UInt8) (c:Nat) (hr:Row w a b c) (hb:b.length≤10000000):
 Calls Tryz.prog 52 #[.slice a b.length c] w fun e w'=>e= .returned (.agg ((jX b).map vb).toArray)∧Below w.heap.size w w':=by
 have HA1:=AQ (fun ρ d ty ps af w=>qH ρ d ty ps (af:=af) w)
 have HA2:=AQ (fun ρ d ty ps af w=>CO ρ d ty ps (af:=af) w)
 have HA3:=AQ (fun ρ d ty ps af w=>jL ρ d ty ps (af:=af) w)
 obtain⟨Y,hY⟩:=AU (((List.replicate 8 (0:UInt32)).map vw).toArray)
 obtain⟨Z,hZ⟩:=AU (((List.replicate 64 (0:UInt32)).map vw).toArray)
 obtain⟨X,hX⟩:=AU (((List.replicate 32 (0:UInt8)).map vb).toArray)
 obtain⟨S,hS⟩:=AU ((fK.l.map vw).toArray)
 obtain⟨K,hK⟩:=AU ((jf.map vw).toArray)
 rw[←hY.o] at HA1
 rw[←hZ.o] at HA2
 rw[←hX.o] at HA3
 have HY:Hid (Y.size=8):=by rw[Hid,hY.o];simp
 have HZ:Hid (Z.size=64):=by rw[Hid,hZ.o];simp
 have HX:Hid (X.size=32):=by rw[Hid,hX.o];simp
 have HSs:Hid (S.size=8):=by rw[Hid,hS.o];simp[S8.l]
 have HKs:Hid (K.size=64):=by rw[Hid,hK.o];simp[jf]
 have HSo:Hid (S.all (·.oneCell')=true):=by rw[Hid,hS.o];exact oV _
 have HKo:Hid (K.all (·.oneCell')=true):=by rw[Hid,hK.o];exact oV _
 have HFC:=AQ (Hq)
 have HCC:=AQ (yA)
 rw[←hS.o] at HFC
 rw[←hK.o] at HCC
 go_enter Tryz.func52,Tryz.ntmps52
 go_wp2_with (first
  | ((with_reducible refine aj (o:=⟨some 2, .alloc _,_,_,_,_⟩) AA (HA3.o _ _ _ _ _ _) ?_)))
 refine(HFC.o _).mono ?_
 rintro e w1 ⟨rfl,hb1⟩
 go_wp2_with fail
 refine(HCC.o _).mono ?_
 rintro e w2 ⟨rfl,hb2⟩
 have hX2:w2.heap[w.heap.size]? =some (.cells X 53 (0,0)):=
  (hb2.block _ (by have:=hb1.size;simp at this;omega)).trans ((hb1.block _ AO).trans (heap_alloc_new w _))
 have B2:Below w.heap.size w w2:=((Below.refl _ w).alloc (Nat.le_refl _) _).trans ((hb1.mono AO).trans (hb2.mono (by have:=hb1.size;simp at this;omega)))
 have hlt2:w.heap.size<w2.heap.size:=by have:=hb1.size;have:=hb2.size;simp at *;omega
 clear hb1 hb2
 have c3:((w2.alloc (.cells Y 158)).alloc (.cells Z 160)).heap[w2.heap.size]? =some (.cells Y 158 (0,0)):=(Below.heap_alloc _ _ _ AO).trans (heap_alloc_new w2 _)
 have c4:((w2.alloc (.cells Y 158)).alloc (.cells Z 160)).heap[w2.heap.size+1]? =some (.cells Z 160 (0,0)):=by
  have:=heap_alloc_new (w2.alloc (.cells Y 158)) (.cells Z 160)
  rwa[World.size_alloc] at this
 have hs2:Save (fun _=>True) w2 ((w2.alloc (.cells Y 158)).alloc (.cells Z 160)):=(Save.alloc _ _).trans (Save.of (((Below.refl _ _).alloc (Nat.le_refl _) _)))
 have C3:=AQ c3
 have C4:=AQ c4
 have CS:=AQ hs2
 clear c3 c4 hs2
 have hsz4:(w2.alloc (.cells Y 158)).heap.size=w2.heap.size+1:=by simp
 have hsz5:((w2.alloc (.cells Y 158)).alloc (.cells Z 160)).heap.size=w2.heap.size+2:=by simp
 have HS4:=AQ hsz4
 have HS5:=AQ hsz5
 clear hsz4 hsz5
 go_wp2_with (first
  | ((with_reducible refine aj (o:=⟨some 3, .alloc _,_,_,_,_⟩) AA (HA1.o _ _ _ _ _ _) ?_))
  | ((with_reducible refine aj (o:=⟨some 4, .alloc _,_,_,_,_⟩) AA (HA2.o _ _ _ _ _ _) ?_))
  | ((with_reducible refine ay (o:=⟨none, .store _ (.tmp 3) (.tmp 7),_,_,_,_⟩) iT (.tmp 3) (.tmp 7) AA AA AA AA AA C3.o HY.o HSs.o HSo.o ?_);intro w3 hb3 hS3;have c4':Hid (w3.heap[(w2.alloc (.cells Y 158)).heap.size]? =some (.cells Z 160 (0,0))):=HS4.o▸((hS3.block (w2.heap.size+1) (by have h5:=HS5.o;omega) (by show w2.heap.size+1≠w2.heap.size;omega)).trans C4.o))
  | ((with_reducible refine ay (o:=⟨none, .store _ (.tmp 4) (.tmp 8),_,_,_,_⟩) Em (.tmp 4) (.tmp 8) AA AA AA AA AA c4'.o HZ.o HKs.o HKo.o ?_);intro w4 hb4 hS4))
 rw[HS4.o] at hb4 hS4
 have hlt4:w2.heap.size+2≤w4.heap.size:=by have:=hS3.size;have:=hS4.size;have:=HS5.o;omega
 have hb3':=(hS4.block w2.heap.size (by have:=hS3.size;have:=HS5.o;omega) AL).trans hb3
 have B4:Below w.heap.size w w4:=by
  refine B2.trans (((CS.o.below (B:=w.heap.size) AL (fun _ _=>trivial)).trans (hS3.below (by have:=HS5.o;omega) (fun j hj=>by omega))).trans (hS4.below (by have:=hS3.size;have:=HS5.o;omega) (fun j hj=>by omega)))
 have hX4:Hid (w4.heap[w.heap.size]? =some (.cells X 53 (0,0))):=
  (hS4.block _ (by have:=hS3.size;have:=HS5.o;omega) AL).trans ((hS3.block _ (by have:=HS5.o;omega) AL).trans ((CS.o.block _ AL trivial).trans hX2))
 have A3:Hid (nO 158 w4 w2.heap.size fK.l):=by have:=hb3';rw[hS.o] at this;exact this
 have A4:Hid (nO 160 w4 (w2.heap.size+1) jf):=by have:=hb4;rw[hK.o] at this;exact this
 have HR4:=AQ (hr.stay B4)
 have HBL:=AQ hb
 clear hb3 hb3' hb4 hS3 hS4 c4' C3 C4 CS HS4 HS5 hX2 B2 hr
 obtain⟨n2,hn2⟩:=AV (w2.heap.size)
 rw[←hn2] at A3 A4 hlt4 hlt2 ⊢
 clear hn2
 refine(JA w4 b.length AL).mono ?_
 rintro e w5 ⟨a5,c5,rfl,hr5,hb5⟩
 go_wp2_with fail
 have hr0:Row w5 a b c:=HR4.o.stay hb5
 have htl:(jl b.length).length≤100:=by unfold jl;simp[aB];omega
 refine(tY w5 _ hr0 hr5 AL AL).mono ?_
 rintro e w6 ⟨a6,c6,rfl,hm6,hb6⟩
 have hW:=zV b.length
 obtain⟨M,hM⟩:=AU (b++jl b.length)
 rw[←hM.o] at hm6 ⊢
 obtain⟨n,hn⟩:∃n,M.length=64*n:=⟨M.length/64,by rw[hM.o,List.length_append];omega⟩
 have HN:Hid (n=(b.length+(jl b.length).length)/64):=by rw[Hid,←List.length_append,←hM.o,hn];omega
 have hML:M.length≤20000000:=by rw[hM.o,List.length_append];omega
 have h46:Below w4.heap.size w4 w6:=hb5.trans (hb6.mono hb5.size)
 have HMN:=AQ hn
 clear hr0 hr5 hb5 hb6 htl hW hn
 go_wp2_with fail
 refine(Kz w6 a6 M c6 64 hm6.row AP AP AL).mono ?_
 rintro e w7 ⟨a7,ds,c7,rfl,hds,hR,hNw,hb7⟩
 have h47:Below w4.heap.size w4 w7:=h46.trans (hb7.mono h46.size)
 obtain⟨hdl,HD⟩:=IK HMN.o hds
 have HNW:Hid ((∀g,Go.Cit.blk a7=some g→w4.heap.size≤g)∧∀d∈ds,∀g,Go.Cit.blk d.a=some g→w4.heap.size≤g):=⟨fun g h=>Nat.le_trans h46.size (hNw.1 g h),fun d hd g h=>Nat.le_trans h46.size (hNw.2 d hd g h)⟩
 have HDL:=AQ hdl
 have A7:=A3.o.stay h47
 clear hds hNw hb7 h46 hm6 hdl
 go_wp2_with fail
 have hnb:n≤20000000:=by have:=HMN.o;omega
 go_loopw [17] (fun i wr=>∃(k:Nat),k≤n∧i= .int .i64 k∧nO 158 wr n2 (gy jf k fK M).l∧Save (· ≠n2) w7 wr) (fun i _=>n-(intOf i).toNat)
 case atStart=>exact⟨0,Nat.zero_le _,rfl,A7,Save.refl _ _⟩
 case round=>
  clear A7
  obtain⟨k,hk,rfl,AX,hsv⟩:=hrel
  have hRr:=hR.save hsv (fun g hg=>by have:=HNW.o.1 g hg;omega) (fun d hd g hg=>by have:=HNW.o.2 d hd g hg;omega)
  by_cases hlt:k<n
  ·have hkd:k<ds.length:=by rw[HDL.o];exact hlt
   have d1:decide (k<ds.length)=true:=by simp;omega
   have i0:=hRr.index k hkd
   have e0:=hRr.cell k hkd
   have hrow:=hRr.row ds[k] (List.getElem_mem hkd)
   have hpl:=HD.o k hkd
   generalize ds[k]=d at e0 hrow hpl
   have hp64:d.l.length=64:=by rw[hpl,List.length_take,List.length_drop,HMN.o];omega
   rw[hp64] at e0
   have A4w:Hid (wr.heap[n2+1]? =some (.cells (jf.map vw).toArray 160 (0,0))):=(A4.o.stay h47).save hsv AL
   have hek:=Le wr (gy jf k fK M) d.a d.l d.c jf hrow hp64 AP
   rw[hpl,←qU] at hek
   have hSz:Hid (((gy jf k fK M).l.map vw).toArray.size=8):=by simp[Hid,S8.l]
   have hSz':Hid (((gy jf (k+1) fK M).l.map vw).toArray.size=8):=by simp[Hid,S8.l]
   have hKz:Hid ((jf.map vw).toArray.size=64):=by simp[Hid,jf]
   have hSo:Hid (((gy jf (k+1) fK M).l.map vw).toArray.all (·.oneCell')=true):=by rw[Hid];exact oV _
   have HEK:=AQ hek
   have HAX:Hid (wr.heap[n2]? =some (.cells ((gy jf k fK M).l.map vw).toArray 158 (0,0))):=AX
   have HSV:=AQ hsv
   clear hek AX hsv hp64 hpl hRr hrow
   go_wp2_with (first
    | ((with_reducible refine dD (o:=⟨some 21, .load _ _,_,_,_,_⟩) iT (.tmp 3) AA AA AA HAX.o hSz.o ?_))
    | ((with_reducible refine dD (o:=⟨some 23, .load _ _,_,_,_,_⟩) Em (.tmp 4) AA AA AA A4w.o hKz.o ?_)))
   refine HEK.o.mono ?_
   rintro e wr' ⟨rfl,hbr⟩
   have HBX:=AQ hbr
   have HAX':Hid (wr'.heap[n2]? =some (.cells ((gy jf k fK M).l.map vw).toArray 158 (0,0))):=(hbr.block n2 (Array.getElem?_eq_some_iff.1 HAX.o).1).trans HAX.o
   clear hbr
   go_wp2_with (first
    | ((with_reducible refine ay (o:=⟨none, .store _ (.tmp 3) (.tmp 24),_,_,_,_⟩) iT (.tmp 3) (.tmp 24) AA AA AA AA AA HAX'.o hSz.o hSz'.o hSo.o ?_);intro wq hbq hsq;have HBQ:=AQ hbq;have HSQ:=AQ hsq;clear hbq hsq))
   go_roundw
   case rel=>exact⟨k+1,by omega,by go_num,HBQ.o,HSV.o.trans ((Save.of HBX.o).trans HSQ.o)⟩
   case measure=>simp[intOf];omega
  ·have d1:decide (k<ds.length)=false:=by have:=HDL.o;simp;omega
   obtain rfl:k=n:=by omega
   have HAX:Hid (wr.heap[n2]? =some (.cells ((gy jf k fK M).l.map vw).toArray 158 (0,0))):=AX
   have hSz:Hid (((gy jf k fK M).l.map vw).toArray.size=8):=by simp[Hid,S8.l]
   have HSV:=AQ hsv
   have HX7:Hid (wr.heap[w.heap.size]? =some (.cells X 53 (0,0))):=(hsv.block _ (by have:=h47.size;omega) AL).trans ((h47.block _ AL).trans hX4.o)
   have hbm:jX b=iy (gy jf k fK M):=by unfold jX;rw[HN.o,hM.o]
   have HBM:=AQ hbm
   have HPC:=AQ (EM wr (gy jf k fK M))
   clear hbm AX hsv hRr
   go_wp2_with (first
    | ((with_reducible refine dD (o:=⟨some 26, .load _ _,_,_,_,_⟩) iT (.tmp 3) AA AA AA HAX.o hSz.o ?_)))
   refine HPC.o.mono ?_
   rintro e wz ⟨rfl,hbz⟩
   have HX8:Hid (wz.heap[w.heap.size]? =some (.cells X 53 (0,0))):=(hbz.block _ (Array.getElem?_eq_some_iff.1 HX7.o).1).trans HX7.o
   have HBZ:=AQ hbz
   obtain⟨R,hR0⟩:=AU (((iy (gy jf k fK M)).map vb).toArray)
   rw[←hR0.o]
   have HRs:Hid (R.size=32):=by rw[Hid,hR0.o];simp[iy,S8.l,aB]
   have HRo:Hid (R.all (·.oneCell')=true):=by rw[Hid,hR0.o];exact nT _
   clear hbz
   go_wp2_with (first
    | ((with_reducible refine ay (o:=⟨none, .store _ (.tmp 2) (.tmp 27),_,_,_,_⟩) iL (.tmp 2) (.tmp 27) AA AA AA AA AA HX8.o HX.o HRs.o HRo.o ?_);intro wq hbq hsq;have HBQ:=AQ hbq;have HSQ:=AQ hsq;clear hbq hsq))
   refine bodyPost_ret (ig iL rfl rfl HBQ.o HRs.o) rfl ⟨?_, ?_⟩
   ·rw[HBM.o,hR0.o]
   ·have h7:=(h47.mono (Nat.le_of_lt (Nat.lt_of_lt_of_le (Nat.lt_succ_of_lt hlt2) (Nat.le_of_succ_le hlt4)))).trans (HSV.o.below (by have:=h47.size;omega) (fun j hj=>by omega))
    have h8:Below w.heap.size w wr:=B4.trans (h7.mono AL)
    exact h8.trans ((HBZ.o.mono h8.size).trans (HSQ.o.below (by have:=h8.size;have:=HBZ.o.size;omega) (fun j hj=>by omega)))
end Go.Proofs.YtlholdllibghbaaGreat
