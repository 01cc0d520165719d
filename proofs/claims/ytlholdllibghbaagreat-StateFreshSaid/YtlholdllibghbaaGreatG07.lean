/- Texts of the proof, one behind the other: WordsDef, WordsRow, WordsNum, WordsLoad. No condition but those that each names. -/
import Derived.Test.YtlholdllibghbaaGreatG00
import Derived.Test.YtlholdllibghbaaGreatProg
import Derived.Test.YtlholdllibghbaaGreatG04
import Derived.Test.YtlholdllibghbaaGreatKit
set_option maxRecDepth 100000
set_option maxHeartbeats 8000000
namespace Go.Cit
def dv:Nat→UInt64→UInt64
 | 0,x=>x
 | k+1,x=>DF (dv k x) (qI 256)
def rowB (x:UInt64):Nat→List UInt8
 | 0=> []
 | k+1=>BD (dv k x)::rowB x k
theorem aF (x:UInt64):∀n,(rowB x n).length=n
 | 0=>rfl
 | n+1=>by rw[rowB,List.length_cons,aF x n]
def dX (l:List UInt8):UInt64:=l.foldl (fun x d=>Em (AZ (qI 256) x) (Ez d)) (qI 0)
def zJ (x:UInt64) (d:UInt8):UInt64:=Em (AZ (qI 256) x) (Ez d)
end Go.Cit
namespace Go.Proofs.YtlholdllibghbaaGreat
open Go Go.RowKit Go.Cit
theorem xR (x:UInt64) (n k:Nat) (h:k<n):(List.replicate (n-k) 0++rowB x k).set (n-k-1) (BD (dv k x))=List.replicate (n-(k+1)) 0++rowB x (k+1):=by
 obtain⟨m,hm⟩:∃m,n-k=m+1:=⟨n-k-1,by omega⟩
 rw[hm,show n-(k+1)=m from by omega,Nat.add_sub_cancel,List.replicate_succ',List.append_assoc,List.set_append_right _ _ AO]
 simp[rowB]
theorem su (w:World) (x:UInt64) (n:Nat) (h1:1≤n) (h8:n≤8):
 Calls Tryz.prog 221 #[vq x, .int .i64 n] w fun e w'=>∃a c,e= .returned (.slice a n c)∧Cit.Own 5 w.heap.size w' a (rowB x n) c∧Below w.heap.size w w':=by
 have t1:decide ((n:Int)<1)=false:=by simp;omega
 have t2:decide (8<(n:Int))=false:=by simp;omega
 go_enter Tryz.func221,Tryz.ntmps221
 go_wp2_with (refine kP bt (.tmp 12) (.tmp 12) rfl rfl n .i64 .i64 rfl rfl rfl AL ?_;intro w1 hown hgr hsz)
 go_loopw [0,1] (fun y i wr=>∃(k:Nat) (l:List UInt8),Hid (l=List.replicate (n-k) 0++rowB x k)∧Hid (l.length=n)∧k≤n∧i= .int .i64 ((n:Int)-k-1)∧y=vq (dv k x)∧Cit.Own 5 w.heap.size wr (some ⟨w.heap.size,0,none⟩) l n∧Below w.heap.size w wr) (fun _ i _=>(intOf i+1).toNat)
 case atStart=>exact⟨0,List.replicate n 0,by simp[Hid,rowB],by simp[Hid],Nat.zero_le _,by go_num,rfl,hown,grown_below hgr (Nat.le_refl _) AO⟩
 case round=>
  clear hown hgr hsz
  obtain⟨k,l,HX,HL,hk,rfl,rfl,hown,hb⟩:=hrel
  by_cases hlt:k<n
  ·have hi:n-k-1<l.length:=by rw[HL.o];omega
   have i0:=hown.isRow.index bt.slice bt.sz (n-k-1) hi
   have e0:=hown.isRow.cell (n-k-1) hi
   have f0:=hown.frozen (n-k-1) hi
   have ei:((n:Int)-k-1)=((n-k-1:Nat):Int):=by omega
   rw[HL.o,←ei] at i0
   have hst:=hown.stored (n-k-1) hi (BD (dv k x))
   clear ei
   have HST:=AQ hst
   clear hst
   go_wp2
   go_roundw
   case rel=>
    exact⟨k+1,l.set (n-k-1) (BD (dv k x)),by rw[Hid,HX.o];exact xR x n k hlt,by rw[Hid,List.length_set];exact HL.o,by omega,by go_num,rfl,HST.o.1,hb.grown HST.o.2 hb.size (fun j hj=>(hown.aQ hj).1)⟩
   case measure=>simp[intOf];omega
  ·have hk2:k=n:=by omega
   subst hk2
   have HX2:Hid (l=rowB x k):=by rw[Hid,HX.o];simp
   clear HX
   go_wp2
   go_ret
   refine⟨_,_,rfl, ?_,hb⟩
   rw[←HX2.o];exact hown
open Go Go.RowKit Go.Cit
def ug (l:List UInt8):UInt64:=if 1≤l.length∧l.length≤8 then dX l else 0
def lJ (l:List UInt8):Bool:=decide (1≤l.length∧l.length≤8)
theorem lu {a b:UInt64} {s t:Bool} (h:a=b) (k:s=t):Ending.returned (.tuple #[vq a, .bool s])= .returned (.tuple #[vq b, .bool t]):=by rw[h,k]
theorem uD (w:World) (a0:Option Addr) (l:List UInt8) (c0:Nat) (h0:Row w a0 l c0):
 Calls Tryz.prog 239 #[.slice a0 l.length c0] w fun e w'=>e= .returned (.tuple #[vq (ug l), .bool (lJ l)])∧w'=w:=by
 have b0:=h0.aI
 by_cases h1:l.length<1
 ·have HV:Hid ((0:UInt64)=ug l∧false=lJ l):=⟨by rw[ug,if_neg AL],by rw[lJ];simp;omega⟩
  go_enter Tryz.func239,Tryz.ntmps239
  go_wp2
  go_ret2
  exact⟨lu HV.o.1 HV.o.2,rfl⟩
 by_cases h8:8<l.length
 ·have HV:Hid ((0:UInt64)=ug l∧false=lJ l):=⟨by rw[ug,if_neg AL],by rw[lJ];simp;omega⟩
  go_enter Tryz.func239,Tryz.ntmps239
  go_wp2
  go_ret2
  exact⟨lu HV.o.1 HV.o.2,rfl⟩
 have HV:Hid (dX l=ug l∧true=lJ l):=⟨by rw[ug,if_pos AL],by rw[lJ];simp;omega⟩
 go_enter Tryz.func239,Tryz.ntmps239
 go_wp2
 go_loop [4,17] (fun s i=>∃(k:Nat) (d:UInt64),Hid (d=(l.take k).foldl zJ (qI 0))∧k≤l.length∧i= .int .i64 k∧s=vq d) (fun _ i=>l.length-(intOf i).toNat)
 case atStart=>exact⟨0,_,rfl,Nat.zero_le _,rfl,rfl⟩
 case round=>
  obtain⟨k,d,HD,hk,rfl,rfl⟩:=hrel
  by_cases hlt:k<l.length
  ·have i0:=h0.index bt.slice bt.sz k hlt
   have e0:=h0.cell k hlt
   go_wp2
   go_round
   case rel=>exact⟨k+1,zJ d l[k],by rw[Hid,←take_snoc l k hlt,List.foldl_append,←HD.o];rfl,by omega,by go_num,rfl⟩
   case measure=>simp[intOf];omega
  ·have hk2:k=l.length:=by omega
   have HD2:Hid (d=dX l):=by rw[Hid,HD.o,hk2,List.take_length];rfl
   clear HD hk2
   go_wp2
   go_ret2
   exact⟨lu (HD2.o.trans HV.o.1) HV.o.2,rfl⟩
def gG (l:List UInt8) (at_:Int) (n:Nat):UInt64×Bool:=
 if 0≤at_∧at_+n≤l.length then (dX ((l.drop at_.toNat).take n),true) else (0,false)
theorem oZ (w:World) (a0:Option Addr) (l:List UInt8) (c0:Nat) (t m:Int) (n:Nat) (hm:m=(n:Int)) (h1:1≤n) (h8:n≤8) (h0:Row w a0 l c0):
 Calls Tryz.prog 207 #[.slice a0 l.length c0, .int .i64 t, .int .i64 m] w fun e w'=>e= .returned (.tuple #[vq (gG l t n).1, .bool (gG l t n).2])∧w'=w:=by
 subst hm
 have b0:=h0.aI
 by_cases ht:0≤t∧t≤l.length
 ·obtain⟨k,rfl⟩:=Int.eq_ofNat_of_zero_le ht.1
  have hk:k≤l.length:=by omega
  obtain⟨a1,m1,c1,hm1,hrun,r1⟩:=h0.from_ bt.slice bt.sz k hk
  have hl1:m1.length=l.length-k:=by rw[hm1,List.length_drop]
  have HM:=AQ hm1
  have g1:decide ((k:Int)<0)=false:=by simp
  have g2:decide (l.length<k)=false:=by simpa using hk
  by_cases hn:k+n≤l.length
  ·obtain⟨a2,m2,c2,hm2,hrun2,r2⟩:=r1.upto bt.slice bt.sz n AL
   have HV:Hid (ug m2=(gG l k n).1∧lJ m2=(gG l k n).2):=by
    have hl2:m2.length=n:=by rw[hm2,List.length_take];omega
    rw[Hid,gG,if_pos AL,ug,lJ,if_pos AL,hm2,hm1]
    exact⟨rfl,by simp;omega⟩
   have g3:decide (m1.length<n)=false:=by simp;omega
   have b1:=r1.aI
   clear hm1 hm2 hl1 hk ht
   go_enter Tryz.func207,Tryz.ntmps207
   go_wp2_with (go_at_call 239;refine(uD _ _ _ _ r2).mono ?_;rintro e w' ⟨rfl,rfl⟩)
   go_ret2
   exact⟨lu HV.o.1 HV.o.2,rfl⟩
  ·have HV:Hid ((0:UInt64)=(gG l k n).1∧false=(gG l k n).2):=by
    rw[Hid,gG,if_neg AL];exact⟨rfl,rfl⟩
   have g3:decide (m1.length<n)=true:=by simp;omega
   have b1:=r1.aI
   clear hm1 hl1 hk ht hn
   go_enter Tryz.func207,Tryz.ntmps207
   go_wp2_with fail
   go_ret2
   exact⟨lu HV.o.1 HV.o.2,rfl⟩
 ·have HV:Hid ((0:UInt64)=(gG l t n).1∧false=(gG l t n).2):=by
   rw[Hid,gG,if_neg AL];exact⟨rfl,rfl⟩
  by_cases hneg:t<0
  ·have g1:decide (t<0)=true:=by simpa using hneg
   go_enter Tryz.func207,Tryz.ntmps207
   go_wp2_with fail
   go_ret2
   exact⟨lu HV.o.1 HV.o.2,rfl⟩
  ·have g1:decide (t<0)=false:=by simp;omega
   have g2:decide ((l.length:Int)<t)=true:=by simp;omega
   go_enter Tryz.func207,Tryz.ntmps207
   go_wp2_with fail
   go_ret2
   exact⟨lu HV.o.1 HV.o.2,rfl⟩
open Go Go.RowKit Go.Cit
theorem tu (w:World) (a0:Option Addr) (l:List UInt8) (c0:Nat) (t:Int) (h0:Row w a0 l c0):
 Calls Tryz.prog 141 #[.slice a0 l.length c0, .int .i64 t] w fun e w'=>e= .returned (.tuple #[vw (Aw (gG l t 4).1), .bool (gG l t 4).2])∧w'=w:=by
 go_enter Tryz.func141,Tryz.ntmps141
 go_wp2_with (go_at_call 207;refine(oZ _ _ _ _ _ _ 4 rfl AP AP h0).mono ?_;rintro e w' ⟨rfl,rfl⟩)
 go_ret2
 exact⟨rfl,rfl⟩
theorem lZ (w:World) (a0:Option Addr) (l:List UInt8) (c0:Nat) (t:Int) (h0:Row w a0 l c0):
 Calls Tryz.prog 130 #[.slice a0 l.length c0, .int .i64 t] w fun e w'=>e= .returned (.tuple #[vq (gG l t 8).1, .bool (gG l t 8).2])∧w'=w:=by
 go_enter Tryz.func130,Tryz.ntmps130
 go_wp2_with (go_at_call 207;refine(oZ _ _ _ _ _ _ 8 rfl AP AP h0).mono ?_;rintro e w' ⟨rfl,rfl⟩)
 go_ret2
 exact⟨rfl,rfl⟩
theorem vg (w:World) (x:UInt32):
 Calls Tryz.prog 171 #[vw x] w fun e w'=>∃a c,e= .returned (.slice a 4 c)∧Cit.Own 5 w.heap.size w' a (rowB (C9 x) 4) c∧Below w.heap.size w w':=by
 have hc:=su w (C9 x) 4 AP AP
 go_enter Tryz.func171,Tryz.ntmps171
 go_wp2_with (go_at_call 221;refine hc.mono ?_;rintro e w' ⟨a,c,rfl,ho,hb⟩)
 go_ret
 exact⟨a,c,rfl,ho,hb⟩
theorem uX (w:World) (x:UInt64):
 Calls Tryz.prog 170 #[vq x] w fun e w'=>∃a c,e= .returned (.slice a 8 c)∧Cit.Own 5 w.heap.size w' a (rowB x 8) c∧Below w.heap.size w w':=by
 have hc:=su w x 8 AP AP
 go_enter Tryz.func170,Tryz.ntmps170
 go_wp2_with (go_at_call 221;refine hc.mono ?_;rintro e w' ⟨a,c,rfl,ho,hb⟩)
 go_ret
 exact⟨a,c,rfl,ho,hb⟩
end Go.Proofs.YtlholdllibghbaaGreat
