/- Texts of the proof, one behind the other: RefSha, RefShaP, ShaChain, Hmac. No condition but those that each names. -/
import Derived.Test.YtlholdllibghbaaGreatG01
import Derived.Test.YtlholdllibghbaaGreatG22
import Derived.Test.YtlholdllibghbaaGreatProg
import Derived.Test.YtlholdllibghbaaGreatG00
import Derived.IntWalk
import Derived.Test.YtlholdllibghbaaGreatG26
import Derived.Test.YtlholdllibghbaaGreatG24
import Derived.WalkSpells
import Derived.Lib.SliceRun
import Derived.Test.YtlholdllibghbaaGreatKit
set_option maxRecDepth 100000
set_option maxHeartbeats 8000000
namespace Go.Proofs.YtlholdllibghbaaGreat
open Go Go.RowKit Go.Cit
theorem jJ:bT Tryz.prog 167 38 1 4 (.int .u32 0):=
 ⟨Tryz.underlying167,by kernel_rfl,by intro w;kernel_rfl,rfl,by decide,by decide⟩
@[reducible] def cw (x:UInt32):List Value:=[vw x]
theorem jD:∀x,(cw x).length=1:=fun _=>rfl
theorem NJ:∀x,∀u∈cw x,u.oneCell'=true:=by
 intro x u hu;obtain rfl:u=vw x:=by simpa using hu
 rfl
theorem yP (l:List UInt32):l.flatMap cw=l.map vw:=by
 induction l with
 | nil=>rfl
 | cons x l ih=>rw[List.flatMap_cons,ih];rfl
def Qg (l:List UInt32):List Operand:=l.map fun x=> .const (vw x)
theorem IB (l:List UInt32):∀i,(((Qg l).zipIdx i).map fun x=>(x.2,x.1))=(l.zipIdx i).map fun x=>(x.2, .const (vw x.1)):=by
 induction l with
 | nil=>intro i;rfl
 |
  cons x l ih=>
  intro i
  have:=ih (i+1)
  simp only[Qg,List.map_cons,List.zipIdx_cons] at this ⊢
  rw[this]
theorem yg (l:List UInt32) (k:Nat) (hk:l.length=k) (h0:0<k) (h9:k≤1000) {a:Act} {o:Oper} (ho:o.op= .buildSlice 167 k ((l.zipIdx 0).map fun x=>(x.2, .const (vw x.1))).toArray) (w:World):
 (execOp a.eval o).run Tryz.prog w= .ok (.value (.slice (some ⟨w.heap.size,0,none⟩) k k)) (w.alloc (.cells (l.map vw).toArray 38)):=by
 have:=tZ jJ (ρ:=a.eval) (o:=o) (Qg l) (l.map vw) k (by rw[ho,IB]) (by simp[Qg];intro x _;rfl) (by simpa using hk) h0 (by intro v hv;obtain⟨x,_,rfl⟩:=List.mem_map.1 hv;rfl) AL w
 rw[this]
 congr 3
 rw[List.flatMap_map]
 have e:l.flatMap (fun a=>(vw a).cells.toList)=l.map vw:=yP l
 rw[e]
theorem zk (w:World):
 Calls Tryz.prog 202 #[] w fun e w'=>e= .returned (.slice (some ⟨w.heap.size,0,none⟩) 64 64)∧aS cw 1 38 w.heap.size w' (some ⟨w.heap.size,0,none⟩) jf 64∧Below w.heap.size w w'∧w.heap.size<w'.heap.size:=by
 go_enter Tryz.func202,Tryz.ntmps202
 go_wp2_with ((with_reducible refine aj (o:=⟨some 1, .buildSlice _ _ _,_,_,_,_⟩) AA (yg jf 64 rfl AP AP AA _) ?_))
 go_ret
 exact⟨rfl,jh w _ 38 1 jf jD (by rw[yP]<;>kernel_rfl) AP,(Below.refl _ _).alloc (Nat.le_refl _) _,by simp⟩
theorem zI (w:World):
 Calls Tryz.prog 121 #[] w fun e w'=>e= .returned (.slice (some ⟨w.heap.size,0,none⟩) 8 8)∧aS cw 1 38 w.heap.size w' (some ⟨w.heap.size,0,none⟩) fK.l 8∧Below w.heap.size w w'∧w.heap.size<w'.heap.size:=by
 go_enter Tryz.func121,Tryz.ntmps121
 go_wp2_with ((with_reducible refine aj (o:=⟨some 1, .buildSlice _ _ _,_,_,_,_⟩) AA (yg fK.l 8 rfl AP AP AA _) ?_))
 go_ret
 exact⟨rfl,jh w _ 38 1 fK.l jD (by rw[yP]<;>kernel_rfl) AP,(Below.refl _ _).alloc (Nat.le_refl _) _,by simp⟩
theorem nG (w:World) (x:UInt32) (n:Nat) (h1:1≤n) (h31:n≤31):
 Calls Tryz.prog 203 #[vw x, .int .u64 n] w fun e w'=>e= .returned (vw (qA n x))∧w=w':=by
 have p1:(2:Int)^n%4294967296=((2^n:Nat):Int):=by
  have:2^n≤2^31:=Nat.pow_le_pow_right AP h31
  have e:((2^n:Nat):Int)=(2:Int)^n:=by rw[Int.natCast_pow];rfl
  rw[←e];generalize (2:Nat)^n=q at this ⊢;omega
 have p2:(2:Int)^(32-n)%4294967296=((2^(32-n):Nat):Int):=by
  have:2^(32-n)≤2^31:=Nat.pow_le_pow_right AP AL
  have e:((2^(32-n):Nat):Int)=(2:Int)^(32-n):=by rw[Int.natCast_pow];rfl
  rw[←e];generalize (2:Nat)^(32-n)=q at this ⊢;omega
 have hp:0<2^n:=Nat.pow_pos AP
 have hne:¬((2:Int)^n%4294967296=0):=by rw[p1];generalize (2:Nat)^n=q at hp ⊢;omega
 have HR:Hid (((x.toNat:Int)/(2^n%4294967296)%4294967296+(x.toNat:Int)*(2^(32-n)%4294967296)%4294967296)%4294967296=((qA n x).toNat:Int)):=by
  rw[Hid,p1,p2,←Ql n x h1 h31]
  have h3:x.toNat/2^n<4294967296:=Nat.lt_of_le_of_lt (Nat.div_le_self _ _) (rH x)
  have e1:(x.toNat:Int)/((2^n:Nat):Int)=((x.toNat/2^n:Nat):Int):=(Int.natCast_ediv _ _).symm
  have e2:(x.toNat:Int)*((2^(32-n):Nat):Int)=((x.toNat*2^(32-n):Nat):Int):=(Int.natCast_mul _ _).symm
  rw[e1,e2]
  generalize x.toNat/2^n=u at h3 ⊢
  generalize x.toNat*2^(32-n)=v
  omega
 clear p1 p2 hp
 go_enter Tryz.func203,Tryz.ntmps203
 go_wp2
 go_ret
 exact⟨dX HR.o,rfl⟩
open Go Go.RowKit Go.Cit
theorem iV.stay {T w w' b l} (h:iV T w b l) (hs:Below w.heap.size w w'):iV T w' b l:=(hs.block b h.lt).trans h
theorem Dy:∀x:UInt32,(rowB (lN x) 4).length=4:=fun _=>aB _ _
theorem tK (s:S8):(iy s).length=32:=by unfold iy;rw[jr Dy];rfl
theorem I7 (s:S8) (k j:Nat) (hk:k<8) (hj:j<4):(iy s)[4*k+j]? =(rowB (lN (s.l[k]'(by simpa[S8.l] using hk))) 4)[j]? :=by
 unfold iy
 rw[Nat.mul_comm]
 exact vk Dy s.l k j (by simpa[S8.l] using hk) hj
theorem uF {T:TypeId} {n:Nat} (hT:Tryz.prog.underlying T=some (.array n 5)) (b i:Nat) (hi:i<n) (w:World):
 (Instr.indexAt T (.pointer (some ⟨b,0,none⟩)) (.int .i64 (i:Int))).run Tryz.prog w= .ok (.pointer (some ⟨b,i,none⟩)) w:=by
 have he:Tryz.prog.elem T=5:=by simp[Program.elem,hT]
 have hl:Tryz.prog.arrayLen T=n:=by simp[Program.arrayLen,hT]
 rw[run_indexAt_array _ _ _ _ _ (by rw[he,hl];exact hT),hl,he,szB]
 rw[if_pos AL]
 simp only[Result.andThen,Addr.add]
 by_cases h0:i=0
 ·subst h0;simp
 ·simp[h0]
def upto (L:List UInt8) (n m:Nat):List UInt8:=L.take m++List.replicate (n-m) 0
theorem PD (L:List UInt8) (n m:Nat) (hL:L.length=n) (hm:m<n):(upto L n m).set m (L[m]'AL)=upto L n (m+1):=by
 unfold upto
 have hl:(L.take m).length=m:=by rw[List.length_take];omega
 rw[List.set_append_right _ _ AL,hl,Nat.sub_self]
 obtain⟨d,hd⟩:∃d,n-m=d+1:=⟨n-m-1,by omega⟩
 rw[hd,List.replicate_succ,List.set_cons_zero,List.take_succ_eq_append_getElem AL,show n-(m+1)=d by omega,List.append_assoc]
 rfl
theorem NP (L:List UInt8) (n m:Nat) (hL:L.length=n) (hm:m≤n):(upto L n m).length=n:=by
 unfold upto;rw[List.length_append,List.length_take,List.length_replicate];omega
theorem LZ (L:List UInt8) (n:Nat) (hL:L.length=n):upto L n n=L:=by
 unfold upto;rw[Nat.sub_self,List.replicate_zero,List.append_nil,List.take_of_length_le AL]
theorem Az (w:World) (a0:Option Addr) (s:S8) (c0:Nat) (hs:Vec cw 1 w a0 s.l c0):
 Calls Tryz.prog 123 #[.slice a0 8 c0] w fun e w'=>e= .returned (.agg ((iy s).map vb).toArray)∧Below w.heap.size w w':=by
 have HA:=AQ (fun ρ d ty ps af w=>jL ρ d ty ps (af:=af) w)
 obtain⟨Z,hZ⟩:=AU (((List.replicate 32 (0:UInt8)).map vb).toArray)
 rw[←hZ.o] at HA
 have HZ:Hid (Z.size=32):=by rw[Hid,hZ.o];simp
 obtain⟨L,hL⟩:=AU (iy s)
 have HLL:Hid (L.length=32):=by rw[Hid,hL.o,tK]
 have b0:=heap_alloc_new w (.cells Z 53)
 have b1:=heap_alloc_new (w.alloc (.cells Z 53)) (.cells Z 53)
 rw[World.size_alloc] at b1
 have b0:=(Below.heap_alloc (w.alloc (.cells Z 53)) (.cells Z 53) w.heap.size AO).trans b0
 have gB:Below w.heap.size w ((w.alloc (.cells Z 53)).alloc (.cells Z 53)):=((Below.refl _ _).alloc (Nat.le_refl _) _).alloc AO _
 have A1:iV 53 ((w.alloc (.cells Z 53)).alloc (.cells Z 53)) (w.heap.size+1) (upto L 32 0):=by
  rw[hZ.o] at b1;rw[hZ.o];exact b1
 have HB:=AQ (And.intro b0 (And.intro A1 gB))
 clear b0 b1 gB A1
 go_enter Tryz.func123,Tryz.ntmps123
 go_wp2_with (first
  | ((with_reducible refine aj (o:=⟨some 2, .alloc _,_,_,_,_⟩) AA (HA.o _ _ _ _ _ _) ?_))
  | ((with_reducible refine aj (o:=⟨some 3, .alloc _,_,_,_,_⟩) AA (HA.o _ _ _ _ _ _) ?_)))
 obtain⟨b0,A1,gB⟩:=HB.o
 go_loopw [4] (fun i wr=>∃(k:Nat),k≤8∧i= .int .i64 k∧iV 53 wr (w.heap.size+1) (upto L 32 (4*k))∧wr.heap[w.heap.size]? =some (.cells Z 53 (0,0))∧Below w.heap.size w wr) (fun i _=>8-(intOf i).toNat)
 case atStart=>exact⟨0,by omega,rfl,A1,b0,gB⟩
 case round=>
  clear b0 A1 gB
  obtain⟨k,hk,rfl,A1,b0,B⟩:=hrel
  by_cases hlt:k<8
  ·have d1:decide ((k:Int)<8)=true:=by simp;omega
   have hsr:=hs.stay jD B
   have ik:=hsr.lS jJ k (by simpa[S8.l] using hlt)
   have ek:=hsr.cell1 k (by simpa[S8.l] using hlt)
   have HG:Hid (∀j (hj:j<4),(rowB (lN (s.l[k]'(by simpa[S8.l] using hlt))) 4)[j]? =L[4*k+j]?):=fun j hj=>by rw[hL.o,I7 s k j hlt hj]
   obtain⟨x,hx⟩:∃x,s.l[k]'(by simpa[S8.l] using hlt)=x:=⟨_,rfl⟩
   rw[hx] at ek HG
   change ∀w,(Instr.indexAt 167 (.slice a0 8 c0) (.int .i64 (k:Int))).run Tryz.prog w=_ at ik
   have HP:=AQ (lY wr (lN x) 4 AP)
   clear hx hsr
   go_wp2_with fail
   refine HP.o.mono ?_
   rintro e w3 ⟨ar,cr,rfl,hO,hb3⟩
   have A3:=A1.stay hb3
   have b3:=(hb3.block _ (Array.getElem?_eq_some_iff.1 b0).1).trans b0
   have B3:=B.trans (hb3.mono B.size)
   have hz3:w.heap.size+2≤w3.heap.size:=A3.lt
   have hbz:w.heap.size+2≤wr.heap.size:=A1.lt
   have HR:=AQ hO.isRow
   have HRB:Hid (∀g,Go.Cit.blk ar=some g→w.heap.size+2≤g):=fun g hg=>by have:=(hO.aK hg).1;omega
   clear hO hb3 A1 b0 B
   go_wp2_with fail
   go_loopw [6] (fun i wr=>∃(j:Nat),j≤4∧i= .int .i64 j∧iV 53 wr (w.heap.size+1) (upto L 32 (4*k+j))∧wr.heap[w.heap.size]? =some (.cells Z 53 (0,0))∧Below w.heap.size w wr∧Row wr ar (rowB (lN x) 4) cr) (fun i _=>4-(intOf i).toNat)
   case atStart=>exact⟨0,by omega,rfl,A3,b3,B3,HR.o⟩
   case round=>
    clear A3 b3 B3
    obtain⟨j,hj,rfl,A1,b0,B,R⟩:=hrel
    by_cases hj4:j<4
    ·have d2:decide ((j:Int)<4)=true:=by simp;omega
     have iA:∀W,(Instr.indexAt 53 (.pointer (some ⟨w.heap.size+1,0,none⟩)) (.int .i64 (4*(k:Int)+(j:Int)))).run Tryz.prog W= .ok (.pointer (some ⟨w.heap.size+1,4*k+j,none⟩)) W:=fun W=>by
      have:=uF (T:=53) (n:=32) Tryz.underlying53 (w.heap.size+1) (4*k+j) AL W
      rwa[show((4*k+j:Nat):Int)=4*(k:Int)+(j:Int) by omega] at this
     have ir:=R.index bt.slice bt.sz j (by rw[aB];exact hj4)
     have er:=R.cell j (by rw[aB];exact hj4)
     rw[aB] at ir
     have hgj:=HG.o j hj4
     have hm:4*k+j<L.length:=by rw[HLL.o];omega
     rw[List.getElem?_eq_getElem (by rw[aB];exact hj4),List.getElem?_eq_getElem hm] at hgj
     injection hgj with hgj
     rw[hgj] at er
     obtain⟨y,hy⟩:∃y,L[4*k+j]=y:=⟨_,rfl⟩
     rw[hy] at er
     have HUL:=NP L 32 (4*k+j) HLL.o AL
     have c1:=A1.cell (4*k+j) (by rw[HUL];omega)
     obtain⟨v1,hv1⟩:∃v,(upto L 32 (4*k+j))[4*k+j]'(by rw[HUL];omega)=v:=⟨_,rfl⟩
     rw[hv1] at c1
     have f1:=A1.free (4*k+j)
     have HS:Hid (iV 53 (wr.setCell ⟨w.heap.size+1,4*k+j,none⟩ (vb y)) (w.heap.size+1) (upto L 32 (4*k+(j+1)))):=by
      have:=A1.set (4*k+j) y
      rwa[←hy,PD L 32 (4*k+j) HLL.o AL,hy] at this
     have hsv:Save (· ≠w.heap.size+1) wr (wr.setCell ⟨w.heap.size+1,4*k+j,none⟩ (vb y)):=Save.set
     have HN:Hid ((wr.setCell ⟨w.heap.size+1,4*k+j,none⟩ (vb y)).heap[w.heap.size]? =some (.cells Z 53 (0,0))):=(hsv.block _ (Array.getElem?_eq_some_iff.1 b0).1 AL).trans b0
     have HB2:=AQ (B.setCell (p:=⟨w.heap.size+1,4*k+j,none⟩) (by show w.heap.size≤w.heap.size+1;omega) (vb y))
     have HR2:=AQ (R.save hsv (fun g hg=>by have:=HRB.o g hg;omega))
     clear hgj hy HUL hv1 hsv hm
     go_wp2_with fail
     go_roundw
     case rel=>exact⟨j+1,by omega,by go_num,HS.o,HN.o,HB2.o,HR2.o⟩
     case measure=>simp[intOf];omega
    ·obtain rfl:j=4:=by omega
     go_wp2_with fail
     go_roundw
     case rel=>exact⟨k+1,by omega,by go_num,by rw[show 4*(k+1)=4*k+4 by omega];exact A1,b0,B⟩
     case measure=>simp[intOf];omega
  ·have hk2:k=8:=by omega
   have d1:decide ((k:Int)<8)=false:=by simp;omega
   have HL1:Hid ((L.map vb).toArray.size=32):=by rw[Hid];simpa using HLL.o
   have HO:=AQ (nT L)
   have HA1:Hid (wr.heap[w.heap.size+1]? =some (.cells (L.map vb).toArray 53 (0,0))):=by
    rw[hk2,show 4*8=32 by rfl,LZ L 32 HLL.o] at A1;exact A1
   have HA0:=AQ b0
   obtain⟨F,hF⟩:=AU ((L.map vb).toArray)
   rw[←hF.o] at HL1 HO HA1
   clear hk2 A1 b0
   go_wp2_with (first
    | ((with_reducible refine dD (o:=⟨some 30, .load _ _,_,_,_,_⟩) iL (.tmp 3) AA AA AA HA1.o HL1.o ?_))
    | ((with_reducible refine ay (o:=⟨none, .store _ (.tmp 2) (.tmp 30),_,_,_,_⟩) iL (.tmp 2) (.tmp 30) AA AA AA AA AA HA0.o HZ.o HL1.o HO.o ?_);intro w4 hb4 hS4))
   refine bodyPost_ret (ig iL rfl rfl hb4 HL1.o) rfl ⟨by rw[hF.o,hL.o], ?_⟩
   exact B.trans (hS4.below B.size (fun j hj=>by omega))
open Go Go.RowKit Go.Cit
theorem gZ (b:List UInt8):(jX b).length=32:=by unfold jX;exact tK _
theorem Eb (g:Nat) (w:World):(Instr.sliceAt 53 (.pointer (some ⟨g,0,none⟩)) none none none).run Tryz.prog w= .ok (.slice (some ⟨g,0,none⟩) 32 32) w:=by
 have hT:Tryz.prog.underlying 53=some (.array 32 5):=Tryz.underlying53
 have he:Tryz.prog.elem 53=5:=by simp[Program.elem,hT]
 have hl:Tryz.prog.arrayLen 53=32:=by simp[Program.arrayLen,hT]
 rw[run_sliceAt_array_all _ _ _ (by rw[he,hl];exact hT),he,szB,hl]
 simp[Result.andThen,slicedAt,Addr.add]
open Go Go.RowKit Go.Cit
theorem pG (w:World) (a:Option Addr) (l:List UInt8) (c:Nat) (h:Row w a l c) (hl:l.length≤1000000000):
 Calls Tryz.prog 163 #[.slice a l.length c] w fun e w'=>∃a' c',e= .returned (.slice a' l.length c')∧Cit.Own 5 w.heap.size w' a' l c'∧Below w.heap.size w w':=by
 cases a with
 |
  none=>
  have h0:=h.nil rfl
  have h1:=h.le
  obtain rfl:l=[]:=List.eq_nil_of_length_eq_zero AL
  subst h0
  show Calls Tryz.prog 163 #[.slice none 0 0] w _
  have hq:=fun w:World=>Lib.run_eql_slice_nil (P:=Tryz.prog) w 40 5 none 0 0 0 0 Tryz.underlying40
  go_enter Tryz.func163,Tryz.ntmps163
  go_wp2_with fail
  go_ret
  exact⟨none,0,rfl,Cit.Own.nil _ _ _,Below.refl _ _⟩
 |
  some x=>
  have hq:=fun w:World=>Lib.run_eql_slice_nil (P:=Tryz.prog) w 40 5 (some x) l.length c 0 0 Tryz.underlying40
  have B0:Below w.heap.size w (w.alloc (.cells #[] 5)):=(Below.refl _ _).alloc (Nat.le_refl _) _
  have O0:=kZ w #[] 5 [] rfl AO
  have HO:=AQ O0
  have HR:=AQ (h.stay B0)
  have HB:=AQ B0
  clear O0 B0 h
  go_enter Tryz.func163,Tryz.ntmps163
  go_wp2_with (first
   | ((with_reducible refine sO (o:=⟨some 7, .call _,_,_,_,_⟩) bt (.tmp 5) (.tmp 6) AA AA HO.o HR.o (by simp;omega) HB.o.size AA AA ?_);intro a2 c2 w2 hO2 hg2;rw[List.nil_append] at hO2;have HO2:=AQ hO2;have HB2:=AQ (HB.o.trans (grown_below hg2 HB.o.size (fun k hk=>(HO.o.aK hk).1)));clear hO2 hg2))
  go_ret
  exact⟨a2,c2,rfl,HO2.o,HB2.o⟩
def nC (k:List UInt8):List UInt8:=if 64<k.length then jX k else k
theorem Bc (k:List UInt8):(nC k).length≤64:=by
 unfold nC;split
 ·rw[gZ];decide
 ·omega
theorem Gy (w:World) (a:Option Addr) (k:List UInt8) (c:Nat) (h:Row w a k c) (hl:k.length≤10000000):
 Calls Tryz.prog 244 #[.slice a k.length c] w fun e w'=>∃a' c',e= .returned (.slice a' (nC k).length c')∧Cit.Own 5 w.heap.size w' a' (nC k) c'∧Below w.heap.size w w':=by
 by_cases h64:64<k.length
 ·have d1:decide ((64:Int)<(k.length:Int))=true:=by simp;omega
  have d1':decide (64<k.length)=true:=by simpa using h64
  have HE:Hid (nC k=jX k):=by rw[Hid,nC,if_pos h64]
  have HA:=AQ (fun ρ d ty ps af w=>jL ρ d ty ps (af:=af) w)
  obtain⟨X,hX⟩:=AU (((List.replicate 32 (0:UInt8)).map vb).toArray)
  rw[←hX.o] at HA
  have HX:Hid (X.size=32):=by rw[Hid,hX.o];simp
  have HS:=AQ (rO w a k c h AL)
  clear h
  rw[HE.o]
  go_enter Tryz.func244,Tryz.ntmps244
  go_wp2_with fail
  refine HS.o.mono ?_
  rintro e w2 ⟨rfl,hb2⟩
  obtain⟨D,hD⟩:=AU (((jX k).map vb).toArray)
  rw[←hD.o]
  have HD:Hid (D.size=32):=by rw[Hid,hD.o];simpa using gZ k
  have HDo:Hid (D.all (·.oneCell')=true):=by rw[Hid,hD.o];exact nT _
  have HN2:Hid ((w2.alloc (.cells X 53)).heap[w2.heap.size]? =some (.cells X 53 (0,0))):=heap_alloc_new _ _
  have tA:=Eb w2.heap.size
  have HB2:=AQ hb2
  clear hb2 HS
  go_wp2_with (first
   | ((with_reducible refine aj (o:=⟨some 3, .alloc _,_,_,_,_⟩) AA (HA.o _ _ _ _ _ _) ?_))
   | ((with_reducible refine ay (o:=⟨none, .store _ (.tmp 3) (.tmp 8),_,_,_,_⟩) iL (.tmp 3) (.tmp 8) AA AA AA AA AA HN2.o HX.o HD.o HDo.o ?_);intro w3 hb3 hS3;have HB3:=AQ hb3;have HS3:=AQ hS3;clear hb3 hS3))
  have hs3:=HS3.o.size
  rw[World.size_alloc] at hs3
  have B3':Below w2.heap.size w2 w3:=((Below.refl _ w2).alloc (Nat.le_refl _) (.cells X 53)).trans (HS3.o.below AO (fun j hj=>by omega))
  have B3:=HB2.o.trans (B3'.mono HB2.o.size)
  have hR:Row w3 (some ⟨w2.heap.size,0,none⟩) (jX k) 32:=by
   have hx:=HB3.o
   rw[hD.o] at hx
   have:=iV.row (T:=53) (l:=jX k) hx (by rw[gZ];decide)
   rwa[gZ] at this
  have hc:=pG w3 _ (jX k) 32 hR (by rw[gZ];decide)
  rw[gZ] at hc
  have HC:=AQ hc
  clear hR hc B3'
  go_wp2_with fail
  refine HC.o.mono ?_
  rintro e w4 ⟨a4,c4,rfl,hO4,hb4⟩
  have HO4:=AQ (hO4.low B3.size)
  have HB4:=AQ (B3.trans (hb4.mono B3.size))
  clear hO4 hb4
  go_wp2_with fail
  go_ret
  exact⟨a4,c4,by rw[gZ];rfl,HO4.o,HB4.o⟩
 ·have d1:decide ((64:Int)<(k.length:Int))=false:=by simp;omega
  have d1':decide (64<k.length)=false:=by simpa using h64
  have HE:Hid (nC k=k):=by rw[Hid,nC,if_neg h64]
  have HC:=AQ (pG w a k c h AL)
  clear h
  rw[HE.o]
  go_enter Tryz.func244,Tryz.ntmps244
  go_wp2_with fail
  refine HC.o.mono ?_
  rintro e w4 ⟨a4,c4,rfl,hO4,hb4⟩
  go_wp2_with fail
  go_ret
  exact⟨a4,c4,rfl,hO4,hb4⟩
end Go.Proofs.YtlholdllibghbaaGreat
