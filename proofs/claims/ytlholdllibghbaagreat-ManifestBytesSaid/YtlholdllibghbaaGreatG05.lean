/- Texts of the proof, one behind the other: WordsNum, WordsLoad, WireRead, WordsLaw. No condition but those that each names. -/
import Derived.Test.YtlholdllibghbaaGreatG04
import Derived.Laws.IdiomStrings
import Derived.Lib.Bytealg
import Derived.Test.YtlholdllibghbaaGreatG00
import Derived.Test.YtlholdllibghbaaGreatKit
set_option maxRecDepth 100000
set_option maxHeartbeats 8000000
namespace Go.Proofs.YtlholdllibghbaaGreat
open Go Go.RowKit Go.Cit
def oL (l:List UInt8):UInt64:=if 1≤l.length∧l.length≤8 then dS l else 0
def kG (l:List UInt8):Bool:=decide (1≤l.length∧l.length≤8)
theorem kR {a b:UInt64} {s t:Bool} (h:a=b) (k:s=t):Ending.returned (.tuple #[vq a, .bool s])= .returned (.tuple #[vq b, .bool t]):=by rw[h,k]
theorem EJ (w:World) (a0:Option Addr) (l:List UInt8) (c0:Nat) (h0:Row w a0 l c0):
 Calls Tryz.prog 239 #[.slice a0 l.length c0] w fun e w'=>e= .returned (.tuple #[vq (oL l), .bool (kG l)])∧w'=w:=by
 have b0:=h0.bK
 by_cases h1:l.length<1
 ·have HV:Hid ((0:UInt64)=oL l∧false=kG l):=⟨by rw[oL,if_neg AL],by rw[kG];simp;omega⟩
  go_enter Tryz.func239,Tryz.ntmps239
  go_wp2
  go_ret2
  exact⟨kR HV.o.1 HV.o.2,rfl⟩
 by_cases h8:8<l.length
 ·have HV:Hid ((0:UInt64)=oL l∧false=kG l):=⟨by rw[oL,if_neg AL],by rw[kG];simp;omega⟩
  go_enter Tryz.func239,Tryz.ntmps239
  go_wp2
  go_ret2
  exact⟨kR HV.o.1 HV.o.2,rfl⟩
 have HV:Hid (dS l=oL l∧true=kG l):=⟨by rw[oL,if_pos AL],by rw[kG];simp;omega⟩
 go_enter Tryz.func239,Tryz.ntmps239
 go_wp2
 go_loop [4,17] (fun s i=>∃(k:Nat) (d:UInt64),Hid (d=(l.take k).foldl vF (qI 0))∧k≤l.length∧i= .int .i64 k∧s=vq d) (fun _ i=>l.length-(intOf i).toNat)
 case atStart=>exact⟨0,_,rfl,Nat.zero_le _,rfl,rfl⟩
 case round=>
  obtain⟨k,d,HD,hk,rfl,rfl⟩:=hrel
  by_cases hlt:k<l.length
  ·have i0:=h0.index bt.slice bt.sz k hlt
   have e0:=h0.cell k hlt
   go_wp2
   go_round
   case rel=>exact⟨k+1,vF d l[k],by rw[Hid,←take_snoc l k hlt,List.foldl_append,←HD.o];rfl,by omega,by go_num,rfl⟩
   case measure=>simp[intOf];omega
  ·have hk2:k=l.length:=by omega
   have HD2:Hid (d=dS l):=by rw[Hid,HD.o,hk2,List.take_length];rfl
   clear HD hk2
   go_wp2
   go_ret2
   exact⟨kR (HD2.o.trans HV.o.1) HV.o.2,rfl⟩
theorem qg (w:World) (a0:Option Addr) (l:List UInt8) (c0:Nat) (h0:Row w a0 l c0):
 Calls Tryz.prog 210 #[.slice a0 l.length c0] w fun e w'=>e= .returned (.tuple #[vq (oL l), .bool (kG l)])∧w'=w:=by
 have b0:=h0.bK
 by_cases h1:l.length=0
 ·have HV:Hid ((0:UInt64)=oL l∧false=kG l):=⟨by rw[oL,if_neg AL],by rw[kG];simp;omega⟩
  have t1:((l.length:Int)==0)=true:=by simp;exact List.eq_nil_of_length_eq_zero h1
  clear h1
  go_enter Tryz.func210,Tryz.ntmps210
  go_wp2
  go_ret2
  exact⟨kR HV.o.1 HV.o.2,rfl⟩
 have t1:((l.length:Int)==0)=false:=by simp;intro h;simp[h] at h1
 by_cases h8:8<l.length
 ·have HV:Hid ((0:UInt64)=oL l∧false=kG l):=⟨by rw[oL,if_neg AL],by rw[kG];simp;omega⟩
  go_enter Tryz.func210,Tryz.ntmps210
  go_wp2
  go_ret2
  exact⟨kR HV.o.1 HV.o.2,rfl⟩
 have HV:Hid ((zQ l).1=oL l∧true=kG l):=⟨by rw[oL,if_pos AL,KC],by rw[kG];simp;omega⟩
 have h1':1≤l.length:=by omega
 clear h1
 go_enter Tryz.func210,Tryz.ntmps210
 go_wp2
 go_loop [4,5,6] (fun s u i=>∃(k:Nat) (p:UInt64×UInt64),Hid (p=(l.reverse.take k).foldl rJ (qI 0,qI 1))∧k≤l.length∧i= .int .i64 ((l.length:Int)-1-k)∧s=vq p.1∧u=vq p.2) (fun _ _ i=>(intOf i+1).toNat)
 case atStart=>exact⟨0,_,rfl,Nat.zero_le _,by go_num,rfl,rfl⟩
 case round=>
  obtain⟨k,⟨d,u⟩,HD,hk,rfl,rfl,rfl⟩:=hrel
  by_cases hlt:k<l.length
  ·have hi:l.length-1-k<l.length:=by omega
   have i0:=h0.index bt.slice bt.sz (l.length-1-k) hi
   have e0:=h0.cell (l.length-1-k) hi
   have ei:((l.length:Int)-1-k)=((l.length-1-k:Nat):Int):=by omega
   rw[←ei] at i0
   clear ei
   obtain⟨b,hb⟩:∃b,l[l.length-1-k]=b:=⟨_,rfl⟩
   rw[hb] at e0
   have HB:Hid ((l.reverse.take (k+1)).foldl rJ (qI 0,qI 1)=rJ (d,u) b):=by
    have hr:k<l.reverse.length:=by simpa using hlt
    rw[Hid,←take_snoc l.reverse k hr,List.foldl_append,←HD.o,List.getElem_reverse,←hb];rfl
   clear hb
   go_wp2
   go_round
   case rel=>exact⟨k+1,rJ (d,u) b,by rw[Hid,HB.o],by omega,by go_num,rfl,rfl⟩
   case measure=>simp[intOf];omega
  ·have hk2:k=l.length:=by omega
   have HD2:Hid (d=(zQ l).1):=by
    have:=HD.o
    rw[hk2,List.take_of_length_le AO] at this
    rw[Hid,zQ,←this]
   clear HD
   go_wp2
   go_ret2
   exact⟨kR (HD2.o.trans HV.o.1) HV.o.2,rfl⟩
def gX (l:List UInt8) (at_:Int) (n:Nat):UInt64×Bool:=
 if 0≤at_∧at_+n≤l.length then (dS ((l.drop at_.toNat).take n),true) else (0,false)
theorem zl (w:World) (a0:Option Addr) (l:List UInt8) (c0:Nat) (t m:Int) (n:Nat) (hm:m=(n:Int)) (h1:1≤n) (h8:n≤8) (h0:Row w a0 l c0):
 Calls Tryz.prog 207 #[.slice a0 l.length c0, .int .i64 t, .int .i64 m] w fun e w'=>e= .returned (.tuple #[vq (gX l t n).1, .bool (gX l t n).2])∧w'=w:=by
 subst hm
 have b0:=h0.bK
 by_cases ht:0≤t∧t≤l.length
 ·obtain⟨k,rfl⟩:=Int.eq_ofNat_of_zero_le ht.1
  have hk:k≤l.length:=by omega
  obtain⟨a1,m1,c1,hm1,hrun,r1⟩:=h0.from_ bt.slice bt.sz k hk
  have hl1:m1.length=l.length-k:=by rw[hm1,List.length_drop]
  have HM:=AQ hm1
  have g1:decide ((k:Int)<0)=false:=by simp
  have g2:decide (l.length<k)=false:=by simpa using hk
  by_cases hn:k+n≤l.length
  ·obtain⟨a2,m2,c2,hm2,hrun2,r2⟩:=r1.upto bt.slice bt.sz n AL
   have HV:Hid (oL m2=(gX l k n).1∧kG m2=(gX l k n).2):=by
    have hl2:m2.length=n:=by rw[hm2,List.length_take];omega
    rw[Hid,gX,if_pos AL,oL,kG,if_pos AL,hm2,hm1]
    exact⟨rfl,by simp;omega⟩
   have g3:decide (m1.length<n)=false:=by simp;omega
   have b1:=r1.bK
   clear hm1 hm2 hl1 hk ht
   go_enter Tryz.func207,Tryz.ntmps207
   go_wp2_with (go_at_call 239;refine(EJ _ _ _ _ r2).mono ?_;rintro e w' ⟨rfl,rfl⟩)
   go_ret2
   exact⟨kR HV.o.1 HV.o.2,rfl⟩
  ·have HV:Hid ((0:UInt64)=(gX l k n).1∧false=(gX l k n).2):=by
    rw[Hid,gX,if_neg AL];exact⟨rfl,rfl⟩
   have g3:decide (m1.length<n)=true:=by simp;omega
   have b1:=r1.bK
   clear hm1 hl1 hk ht hn
   go_enter Tryz.func207,Tryz.ntmps207
   go_wp2_with fail
   go_ret2
   exact⟨kR HV.o.1 HV.o.2,rfl⟩
 ·have HV:Hid ((0:UInt64)=(gX l t n).1∧false=(gX l t n).2):=by
   rw[Hid,gX,if_neg AL];exact⟨rfl,rfl⟩
  by_cases hneg:t<0
  ·have g1:decide (t<0)=true:=by simpa using hneg
   go_enter Tryz.func207,Tryz.ntmps207
   go_wp2_with fail
   go_ret2
   exact⟨kR HV.o.1 HV.o.2,rfl⟩
  ·have g1:decide (t<0)=false:=by simp;omega
   have g2:decide ((l.length:Int)<t)=true:=by simp;omega
   go_enter Tryz.func207,Tryz.ntmps207
   go_wp2_with fail
   go_ret2
   exact⟨kR HV.o.1 HV.o.2,rfl⟩
open Go Go.RowKit Go.Cit
theorem vO (w:World) (a0:Option Addr) (l:List UInt8) (c0:Nat) (t:Int) (h0:Row w a0 l c0):
 Calls Tryz.prog 141 #[.slice a0 l.length c0, .int .i64 t] w fun e w'=>e= .returned (.tuple #[vw (sK (gX l t 4).1), .bool (gX l t 4).2])∧w'=w:=by
 go_enter Tryz.func141,Tryz.ntmps141
 go_wp2_with (go_at_call 207;refine(zl _ _ _ _ _ _ 4 rfl AP AP h0).mono ?_;rintro e w' ⟨rfl,rfl⟩)
 go_ret2
 exact⟨rfl,rfl⟩
theorem uY (w:World) (a0:Option Addr) (l:List UInt8) (c0:Nat) (t:Int) (h0:Row w a0 l c0):
 Calls Tryz.prog 130 #[.slice a0 l.length c0, .int .i64 t] w fun e w'=>e= .returned (.tuple #[vq (gX l t 8).1, .bool (gX l t 8).2])∧w'=w:=by
 go_enter Tryz.func130,Tryz.ntmps130
 go_wp2_with (go_at_call 207;refine(zl _ _ _ _ _ _ 8 rfl AP AP h0).mono ?_;rintro e w' ⟨rfl,rfl⟩)
 go_ret2
 exact⟨rfl,rfl⟩
theorem xW (w:World) (x:UInt32):
 Calls Tryz.prog 171 #[vw x] w fun e w'=>∃a c,e= .returned (.slice a 4 c)∧Own 5 w.heap.size w' a (rowB (lN x) 4) c∧Below w.heap.size w w':=by
 have hc:=DC w (lN x) 4 AP AP
 go_enter Tryz.func171,Tryz.ntmps171
 go_wp2_with (go_at_call 221;refine hc.mono ?_;rintro e w' ⟨a,c,rfl,ho,hb⟩)
 go_ret
 exact⟨a,c,rfl,ho,hb⟩
theorem qN (w:World) (x:UInt64):
 Calls Tryz.prog 170 #[vq x] w fun e w'=>∃a c,e= .returned (.slice a 8 c)∧Own 5 w.heap.size w' a (rowB x 8) c∧Below w.heap.size w w':=by
 have hc:=DC w x 8 AP AP
 go_enter Tryz.func170,Tryz.ntmps170
 go_wp2_with (go_at_call 221;refine hc.mono ?_;rintro e w' ⟨a,c,rfl,ho,hb⟩)
 go_ret
 exact⟨a,c,rfl,ho,hb⟩
theorem Ci (w:World) (a0:Option Addr) (l:List UInt8) (c0:Nat) (t m:Int) (n:Nat) (hm:m=(n:Int)) (h1:1≤n) (h8:n≤8) (ht: -9223372036854775808≤t∧t≤9223372036854775807) (h0:Row w a0 l c0):
 Calls Tryz.prog 238 #[.slice a0 l.length c0, .int .i64 t, .int .i64 m] w fun e w'=>e= .returned (.tuple #[vq (gX l t n).1, .bool (gX l t n).2])∧w'=w:=by
 subst hm
 have b0:=h0.bK
 by_cases hok:0≤t∧t+n≤l.length
 ·obtain⟨k,rfl⟩:=Int.eq_ofNat_of_zero_le hok.1
  obtain⟨a2,m2,c2,hm2,hrun2,r2⟩:=h0.part bt.slice bt.sz k (k+n) AL AL
  have HV:Hid (oL m2=(gX l k n).1∧kG m2=(gX l k n).2):=by
   have e:m2=(l.drop k).take n:=by rw[hm2,List.drop_take];congr 1;omega
   have hl2:m2.length=n:=by rw[e,List.length_take,List.length_drop];omega
   rw[Hid,gX,if_pos AL,oL,kG,if_pos AL,e]
   exact⟨rfl,by simp;omega⟩
  have g1:decide ((k:Int)<0)=false:=by simp
  have g2:decide ((l.length:Int)-n<k)=false:=by simp;omega
  have g3:decide (l.length<n)=false:=by simp;omega
  rw[show((k+n:Nat):Int)=(k:Int)+n by omega] at hrun2
  clear hm2
  go_enter Tryz.func238,Tryz.ntmps238
  go_wp2_with (go_at_call 210;refine(qg _ _ _ _ r2).mono ?_;rintro e w' ⟨rfl,rfl⟩)
  go_ret2
  exact⟨kR HV.o.1 HV.o.2,rfl⟩
 ·have HV:Hid ((0:UInt64)=(gX l t n).1∧false=(gX l t n).2):=by
   rw[Hid,gX,if_neg hok];exact⟨rfl,rfl⟩
  by_cases hneg:t<0
  ·have g1:decide (t<0)=true:=by simpa using hneg
   go_enter Tryz.func238,Tryz.ntmps238
   go_wp2_with fail
   go_ret2
   exact⟨kR HV.o.1 HV.o.2,rfl⟩
  ·have g1:decide (t<0)=false:=by simp;omega
   by_cases hl:(l.length:Int)-n<t
   ·have g2:decide ((l.length:Int)-n<t)=true:=by simp;omega
    go_enter Tryz.func238,Tryz.ntmps238
    go_wp2_with fail
    go_ret2
    exact⟨kR HV.o.1 HV.o.2,rfl⟩
   ·omega
open Go Go.RowKit Go.Cit
structure Rd (base top:Nat) (w:World) (b:Nat) (a:Option Addr) (l:List UInt8) (c:Nat) (e:Int):Prop where
 blk:w.heap[b]? =some (.cells #[.slice a l.length c, .bool true, .int .i64 e] 174 (0,0))
 row:Row w a l c
 ge:base≤b
 off:l≠ []→∀g,Go.Cit.blk a=some g→g≠b∧base≤g∧g<top
 len:l.length≤65536
theorem Rd.lt {base top w b a l c e} (h:Rd base top w b a l c e):b<w.heap.size:=(Array.getElem?_eq_some_iff.1 h.blk).1
theorem Rd.c0 {base top w b a l c e} (h:Rd base top w b a l c e):w.cell? ⟨b,0,none⟩=some (.slice a l.length c):=by rw[World.cell?,h.blk];rfl
theorem Rd.c1 {base top w b a l c e} (h:Rd base top w b a l c e):w.cell? ⟨b,1,none⟩=some (.bool true):=by rw[World.cell?,h.blk];rfl
theorem Rd.c2 {base top w b a l c e} (h:Rd base top w b a l c e):w.cell? ⟨b,2,none⟩=some (.int .i64 e):=by rw[World.cell?,h.blk];rfl
theorem Rd.fr {base top w b a l c e} (h:Rd base top w b a l c e) (i:Nat):w.frozen? ⟨b,i,none⟩=false:=by simp[World.frozen?,h.blk]
theorem Rd.save {S:Nat→Prop} {base top w w' b a l c e} (h:Rd base top w b a l c e) (hs:Save S w w') (hb:S b) (ha:l≠ []→∀g,Go.Cit.blk a=some g→S g):Rd base top w' b a l c e:=
 ⟨by rw[hs.block b h.lt hb];exact h.blk,h.row.save' hs ha,h.ge,h.off,h.len⟩
theorem Rd.stay {base top w w' b a l c e} (h:Rd base top w b a l c e) (hs:Below w.heap.size w w'):Rd base top w' b a l c e:=h.save (Save.of (S:=fun _=>True) hs) trivial (fun _ _ _=>trivial)
structure St where
 l:List UInt8
 e:Int
def St.broke:St:=⟨[],50⟩
def St.next (s:St) (n:Nat):Option (List UInt8)×St:=if s.e≠0 then (none,s) else if n≤s.l.length then (some (s.l.take n),⟨s.l.drop n,0⟩) else (none,St.broke)
def St.breaks (s:St):St:=if s.e=0 then St.broke else s
def dU (base top:Nat) (w:World) (b:Nat) (s:St):Prop:=∃a c,Rd base top w b a s.l c s.e
theorem ku {base top w b a l c e} (h:Rd base top w b a l c e):
 Calls Tryz.prog 142 #[.pointer (some ⟨b,0,none⟩)] w fun r w'=>r= .returned (.bool (e==0))∧w=w':=by
 have c1:=h.c1
 have c2:=h.c2
 go_enter Tryz.func142,Tryz.ntmps142
 go_wp2_with fail
 go_ret
 exact⟨rfl,rfl⟩
theorem set0 {w:World} {b:Nat} {x y z v:Value} {T:TypeId} {fr:Nat×Nat} (h:w.heap[b]? =some (.cells #[x,y,z] T fr)):(w.setCell ⟨b,0,none⟩ v).heap[b]? =some (.cells #[v,y,z] T fr):=by
 simp[World.setCell,Array.getElem?_modify,h]
theorem set2 {w:World} {b:Nat} {x y z v:Value} {T:TypeId} {fr:Nat×Nat} (h:w.heap[b]? =some (.cells #[x,y,z] T fr)):(w.setCell ⟨b,2,none⟩ v).heap[b]? =some (.cells #[x,y,v] T fr):=by
 simp[World.setCell,Array.getElem?_modify,h]
theorem jo {base top w b a l c e} (h:Rd base top w b a l c e):
 Calls Tryz.prog 206 #[.pointer (some ⟨b,0,none⟩)] w fun r w'=>r= .returned (.tuple #[])∧dU base top w' b (St.breaks ⟨l,e⟩)∧Save (· ≠b) w w':=by
 have c0:=h.c0
 have c2:=h.c2
 have f0:=h.fr 0
 have f2:=h.fr 2
 go_enter Tryz.func206,Tryz.ntmps206
 go_wp2_with fail
 refine(ku h).mono ?_
 rintro r w1 ⟨rfl,rfl⟩
 by_cases he:e=0
 ·have ge:(e==0)=true:=by rw[he];rfl
  have HE:Hid (St.breaks ⟨l,e⟩=St.broke):=by rw[Hid,St.breaks,if_pos he]
  clear he
  go_wp2_with fail
  go_end0
  refine⟨rfl, ?_,Save.set.trans Save.set⟩
  rw[HE.o]
  exact⟨none,0,set2 (set0 h.blk),Row.nil_ _,h.ge,fun h=>absurd rfl h,by simp[St.broke]⟩
 ·have ge:(e==0)=false:=by simpa using he
  have HE:Hid (St.breaks ⟨l,e⟩=⟨l,e⟩):=by rw[Hid,St.breaks,if_neg he]
  clear he
  go_wp2_with fail
  go_end0
  refine⟨rfl, ?_,Save.refl _ _⟩
  rw[HE.o]
  exact⟨a,c,h⟩
theorem rU {base top w b a l c e} (h:Rd base top w b a l c e) (n:Int) (hno:e=0→(l.length:Int)<n):
 Calls Tryz.prog 205 #[.pointer (some ⟨b,0,none⟩), .int .i64 n] w fun r w'=>r= .returned (.tuple #[.slice none 0 0, .bool false])∧dU base top w' b (St.breaks ⟨l,e⟩)∧Save (· ≠b) w w':=by
 have c0:=h.c0
 go_enter Tryz.func205,Tryz.ntmps205
 go_wp2_with fail
 refine(ku h).mono ?_
 rintro r w1 ⟨rfl,rfl⟩
 by_cases he:e=0
 ·have ge:(e==0)=true:=by rw[he];rfl
  have hlt:=hno he
  clear hno he
  go_wp2_with fail
  refine(jo h).mono ?_
  rintro r w2 ⟨rfl,hR,hS⟩
  go_wp2_with fail
  go_ret2
  exact⟨rfl,hR,hS⟩
 ·have ge:(e==0)=false:=by simpa using he
  clear hno he
  go_wp2_with fail
  refine(jo h).mono ?_
  rintro r w2 ⟨rfl,hR,hS⟩
  go_wp2_with fail
  go_ret2
  exact⟨rfl,hR,hS⟩
theorem oz {base top w b a l c} (h:Rd base top w b a l c 0) (n:Nat) (hn:n≤l.length):
 Calls Tryz.prog 205 #[.pointer (some ⟨b,0,none⟩), .int .i64 n] w fun r w'=>∃a' X c',Hid (X=l.take n)∧r= .returned (.tuple #[.slice a' X.length c', .bool true])∧Row w' a' X c'∧dU base top w' b ⟨l.drop n,0⟩∧Save (· ≠b) w w':=by
 have c0:=h.c0
 have f0:=h.fr 0
 obtain⟨a1,X,c1,hX,hr1,r1,b1⟩:=h.row.QN bt.slice bt.sz n hn
 obtain⟨a2,Y,c2,hY,hr2,r2,b2⟩:=h.row.QU bt.slice bt.sz n hn
 have HX:Hid (X=l.take n):=hX
 have HY:Hid (Y=l.drop n):=hY
 have hYl:Y.length≤65536:=by have:=h.len;rw[hY,List.length_drop];omega
 have HB1:=AQ b1
 have HB2:=AQ b2
 clear hX hY b1 b2
 go_enter Tryz.func205,Tryz.ntmps205
 go_wp2_with fail
 refine(ku h).mono ?_
 rintro r w1 ⟨rfl,rfl⟩
 go_wp2_with fail
 go_ret2
 have hS:Save (· ≠b) w (w.setCell ⟨b,0,none⟩ (.slice a2 Y.length c2)):=Save.set
 have hne:∀ {Z:List UInt8},Z≠ []→(Z=l.take n∨Z=l.drop n)→l≠ []:=by
  rintro Z hZ (rfl |rfl) h0
  ·simp[h0] at hZ
  ·simp[h0] at hZ
 refine⟨a1,X,c1,HX,rfl,r1.save' hS (fun hX g hg=>(h.off (hne hX (.inl HX.o)) g (by rw[←HB1.o];exact hg)).1),⟨a2,c2, ?_⟩,hS⟩
 have hk:=set0 (v:= .slice a2 Y.length c2) h.blk
 rw[←HY.o]
 exact⟨hk,r2.save' hS (fun hY g hg=>(h.off (hne hY (.inr HY.o)) g (by rw[←HB2.o];exact hg)).1),h.ge,fun hY g hg=>h.off (hne hY (.inr HY.o)) g (by rw[←HB2.o];exact hg),hYl⟩
theorem Jh {base top w b a l c e} (h:Rd base top w b a l c e):
 Calls Tryz.prog 146 #[.pointer (some ⟨b,0,none⟩)] w fun r w'=>r= .returned (.int .i64 e)∧w=w':=by
 have c1:=h.c1
 have c2:=h.c2
 go_enter Tryz.func146,Tryz.ntmps146
 go_wp2_with fail
 go_ret
 exact⟨rfl,rfl⟩
def St.left (s:St):Nat:=if s.e=0 then s.l.length else 0
theorem Gz {base top w b a l c e} (h:Rd base top w b a l c e):
 Calls Tryz.prog 145 #[.pointer (some ⟨b,0,none⟩)] w fun r w'=>r= .returned (.int .i64 (St.left ⟨l,e⟩:Int))∧w=w':=by
 have c0:=h.c0
 go_enter Tryz.func145,Tryz.ntmps145
 go_wp2_with fail
 refine(ku h).mono ?_
 rintro r w1 ⟨rfl,rfl⟩
 by_cases he:e=0
 ·have ge:(e==0)=true:=by rw[he];rfl
  have HE:Hid (St.left ⟨l,e⟩=l.length):=by rw[Hid,St.left,if_pos he]
  clear he
  go_wp2_with fail
  go_ret
  exact⟨by rw[HE.o];rfl,rfl⟩
 ·have ge:(e==0)=false:=by simpa using he
  have HE:Hid (St.left ⟨l,e⟩=0):=by rw[Hid,St.left,if_neg he]
  clear he
  go_wp2_with fail
  go_ret
  exact⟨by rw[HE.o];rfl,rfl⟩
def St.fin (s:St):Int:=if 0<s.left then 50 else s.e
theorem GY {base top w b a l c e} (h:Rd base top w b a l c e):
 Calls Tryz.prog 61 #[.pointer (some ⟨b,0,none⟩)] w fun r w'=>r= .returned (.int .i64 (St.fin ⟨l,e⟩))∧w=w':=by
 go_enter Tryz.func61,Tryz.ntmps61
 go_wp2_with fail
 refine(Gz h).mono ?_
 rintro r w1 ⟨rfl,rfl⟩
 by_cases he:0<St.left ⟨l,e⟩
 ·have HE:Hid (St.fin ⟨l,e⟩=50):=by rw[Hid,St.fin,if_pos he]
  go_wp2_with fail
  go_ret
  exact⟨by rw[HE.o];rfl,rfl⟩
 ·have HE:Hid (St.fin ⟨l,e⟩=e):=by rw[Hid,St.fin,if_neg he]
  go_wp2_with fail
  refine(Jh h).mono ?_
  rintro r w2 ⟨rfl,rfl⟩
  go_wp2_with fail
  go_ret
  exact⟨by rw[HE.o];rfl,rfl⟩
def St.new (l:List UInt8):St:=if l.length≤65536 then⟨l,0⟩ else⟨[],3⟩
theorem qp (w:World) {a0:Option Addr} {l:List UInt8} {c0:Nat} (h0:Row w a0 l c0):
 Calls Tryz.prog 56 #[.slice a0 l.length c0] w fun r w'=>r= .returned (.pointer (some ⟨w.heap.size,0,none⟩))∧dU w.heap.size w'.heap.size w' w.heap.size (St.new l)∧Below w.heap.size w w':=by
 have hlen:=h0.bK
 have hn:=heap_alloc_new w (.cells #[.slice none 0 0, .bool true, .int .i64 0] 174)
 have hb0:Below w.heap.size w (w.alloc (.cells #[.slice none 0 0, .bool true, .int .i64 0] 174)):=(Below.refl _ _).alloc (Nat.le_refl _) _
 go_enter Tryz.func56,Tryz.ntmps56
 by_cases hl:65536<l.length
 ·have HE:Hid (St.new l=⟨[],3⟩):=by rw[Hid,St.new,if_neg AL]
  go_wp2_with fail
  go_ret
  refine⟨rfl, ?_,(Below.refl _ _).alloc (Nat.le_refl _) _⟩
  rw[HE.o]
  exact⟨none,0,heap_alloc_new w _,Row.nil_ _,Nat.le_refl _,fun h=>absurd rfl h,by simp⟩
 ·have HE:Hid (St.new l=⟨l,0⟩):=by rw[Hid,St.new,if_pos AL]
  have r0:=h0.stay hb0
  have hl9:l.length≤65536:=by omega
  clear h0 hl
  have hk:=UG (uq _ 40 r0 AL)
  rw[show(w.alloc (.cells #[.slice none 0 0, .bool true, .int .i64 0] 174)).heap.size=w.heap.size+1 by simp] at hk
  go_wp2_with fail
  refine Calls.mono hk ?_
  rintro e w2 ⟨a2,X,c2,HX,rfl,hm2,hb2⟩
  have hn2:=(hb2.block w.heap.size AO).trans hn
  have cc:w2.cell? ⟨w.heap.size,0,none⟩=some (.slice none 0 0):=by rw[World.cell?,hn2];rfl
  have ff:w2.frozen? ⟨w.heap.size,0,none⟩=false:=by simp[World.frozen?,hn2]
  have HN:=AQ hn2
  have hXl:X.length≤65536:=by rw[HX.o];exact hl9
  clear hn hn2
  go_wp2_with fail
  go_ret
  have hS:Save (· ≠w.heap.size) w2 (w2.setCell ⟨w.heap.size,0,none⟩ (.slice a2 X.length c2)):=Save.set
  have hoff:∀g,blk a2=some g→g≠w.heap.size:=fun g hg=>by have:=hm2.new g hg;omega
  refine⟨rfl, ?_,(hb0.trans (hb2.mono AO)).setCell (Nat.le_refl _) _⟩
  rw[HE.o,←HX.o]
  refine⟨a2,c2,set0 HN.o,hm2.row.save hS hoff,Nat.le_refl _,fun hX g hg=>⟨hoff g hg,by have:=hm2.new g hg;omega, ?_⟩,hXl⟩
  have h1:=hm2.row.blk (List.length_pos_iff.2 hX)
  have h2:=hS.size
  cases a2 with
  | none=>simp[blk] at hg
  | some p=>simp[blk,ad] at hg h1;omega
end Go.Proofs.YtlholdllibghbaaGreat
namespace Go.Cit
theorem Fv (x:UInt64):∀k,(dv k x).toNat=x.toNat/256^k
 | 0=>by simp[dv]
 |
  k+1=>by
  show(dv k x/qI 256).toNat=_
  rw[UInt64.toNat_div,Fv x k,Nat.div_div_eq_div_mul,Nat.pow_succ];rfl
theorem EW (x:UInt64) (k:Nat):(sN (dv k x)).toNat=x.toNat/256^k%256:=by
 unfold sN;rw[UInt64.toNat_toUInt8,Fv]
theorem Oe (x:UInt64):rowB (lN (sK x)) 4=rowB x 4:=by
 have e:(lN (sK x)).toNat=x.toNat%4294967296:=by
  unfold lN sK;rw[UInt32.toNat_toUInt64,UInt64.toNat_toUInt32]
 have h:∀k,k<4→sN (dv k (lN (sK x)))=sN (dv k x):=by
  intro k hk
  apply UInt8.toNat_inj.1
  rw[EW,EW,e]
  match k,hk with
  | 0,_=>simp only[Nat.pow_zero];omega
  | 1,_=>simp only[Nat.pow_one];omega
  | 2,_=>show x.toNat%4294967296/65536%256=x.toNat/65536%256;omega
  | 3,_=>show x.toNat%4294967296/16777216%256=x.toNat/16777216%256;omega
 simp only[rowB]
 rw[h 0 AP,h 1 AP,h 2 AP,h 3 AP]
def DY (l:List UInt8):Nat:=l.foldl (fun x d=>256*x+d.toNat) 0
theorem Hu:∀(l:List UInt8) (x:Nat),l.foldl (fun x d=>256*x+d.toNat) x<256^l.length*(x+1)
 | [],x=>by simp
 |
  d::l,x=>by
  have h:=Hu l (256*x+d.toNat)
  have hd:=b_lt d
  rw[List.foldl_cons,List.length_cons,Nat.pow_succ,Nat.mul_assoc]
  refine Nat.lt_of_lt_of_le h (Nat.mul_le_mul_left _ AL)
theorem yI (l:List UInt8):DY l<256^l.length:=by
 have:=Hu l 0;simpa[DY] using this
theorem CQ:∀(l:List UInt8) (x:UInt64) (y:Nat),x.toNat=y%18446744073709551616→(l.foldl vF x).toNat=l.foldl (fun x d=>256*x+d.toNat) y%18446744073709551616
 | [],x,y,h=>h
 |
  d::l,x,y,h=>by
  rw[List.foldl_cons,List.foldl_cons]
  refine CQ l _ _ ?_
  show(256*x+d.toUInt64).toNat=_
  rw[UInt64.toNat_add,UInt64.toNat_mul,UInt8.toNat_toUInt64,h]
  show(256*(y%18446744073709551616)%18446744073709551616+d.toNat)%18446744073709551616=_
  omega
theorem tC (l:List UInt8) (h:l.length≤8):(dS l).toNat=DY l:=by
 have e:=CQ l 0 0 rfl
 have h1:DY l<18446744073709551616:=Nat.lt_of_lt_of_le (yI l) (Nat.pow_le_pow_right AP h)
 show(l.foldl vF 0).toNat=_
 rw[e];exact Nat.mod_eq_of_lt h1
theorem QK (l:List UInt8) (n:Nat) (h:l.length≤n) (h8:n≤8):(dS l).toNat<256^n:=by
 rw[tC l AL];exact Nat.lt_of_lt_of_le (yI l) (Nat.pow_le_pow_right AP h)
end Go.Cit
