/- Texts of the proof, one behind the other: WireRead, WordsLaw, WireGet, WireGet2. No condition but those that each names. -/
import Derived.Test.YtlholdllibghbaaGreatG04
import Derived.Laws.IdiomStrings
import Derived.Lib.Bytealg
import Derived.Test.YtlholdllibghbaaGreatG00
import Derived.Test.YtlholdllibghbaaGreatG07
import Derived.Laws.EntriesVeiled
import Derived.Test.YtlholdllibghbaaGreatKit
namespace Go.Proofs.YtlholdllibghbaaGreat
open Go Go.RowKit Go.Cit
structure Rd (base top:Nat) (w:World) (b:Nat) (a:Option Addr) (l:List UInt8) (c:Nat) (e:Int):Prop where
 blk:w.heap[b]? =some (.cells #[.slice a l.length c, .bool true, .int .i64 e] 174 (0,0))
 row:Row w a l c
 ge:base≤b
 off:l≠ []→∀g,Go.Cit.blk a=some g→g≠b∧base≤g∧g<top
 len:l.length≤65536
theorem Rd.lt {base top w b a l c e} (h:Rd base top w b a l c e):b<w.heap.size:=(Array.getElem?_eq_some_iff.1 h.blk).1
theorem Rd.c0 {base top w b a l c e} (h:Rd base top w b a l c e):w.cell? ⟨b,0,none⟩=some (.slice a l.length c):=by rw[World.cell?,h.blk];rfl
theorem Rd.c1 {base top w b a l c e} (h:Rd base top w b a l c e):w.cell? ⟨b,1,none⟩=some (.bool true):=by rw[World.cell?,h.blk];rfl
theorem Rd.c2 {base top w b a l c e} (h:Rd base top w b a l c e):w.cell? ⟨b,2,none⟩=some (.int .i64 e):=by rw[World.cell?,h.blk];rfl
theorem Rd.fr {base top w b a l c e} (h:Rd base top w b a l c e) (i:Nat):w.frozen? ⟨b,i,none⟩=false:=by simp[World.frozen?,h.blk]
theorem Rd.save {S:Nat→Prop} {base top w w' b a l c e} (h:Rd base top w b a l c e) (hs:Save S w w') (hb:S b) (ha:l≠ []→∀g,Go.Cit.blk a=some g→S g):Rd base top w' b a l c e:=
 ⟨by rw[hs.block b h.lt hb];exact h.blk,h.row.save' hs ha,h.ge,h.off,h.len⟩
theorem Rd.stay {base top w w' b a l c e} (h:Rd base top w b a l c e) (hs:Below w.heap.size w w'):Rd base top w' b a l c e:=h.save (Save.of (S:=fun _=>True) hs) trivial (fun _ _ _=>trivial)
structure St where
 l:List UInt8
 e:Int
def St.broke:St:=⟨[],50⟩
def St.next (s:St) (n:Nat):Option (List UInt8)×St:=if s.e≠0 then (none,s) else if n≤s.l.length then (some (s.l.take n),⟨s.l.drop n,0⟩) else (none,St.broke)
def St.breaks (s:St):St:=if s.e=0 then St.broke else s
def dG (base top:Nat) (w:World) (b:Nat) (s:St):Prop:=∃a c,Rd base top w b a s.l c s.e
theorem eX {base top w b a l c e} (h:Rd base top w b a l c e):
 Calls Tryz.prog 142 #[.pointer (some ⟨b,0,none⟩)] w fun r w'=>r= .returned (.bool (e==0))∧w=w':=by
 have c1:=h.c1
 have c2:=h.c2
 go_enter Tryz.func142,Tryz.ntmps142
 go_wp2_with fail
 go_ret
 exact⟨rfl,rfl⟩
theorem set0 {w:World} {b:Nat} {x y z v:Value} {T:TypeId} {fr:Nat×Nat} (h:w.heap[b]? =some (.cells #[x,y,z] T fr)):(w.setCell ⟨b,0,none⟩ v).heap[b]? =some (.cells #[v,y,z] T fr):=by
 simp[World.setCell,Array.getElem?_modify,h]
theorem set2 {w:World} {b:Nat} {x y z v:Value} {T:TypeId} {fr:Nat×Nat} (h:w.heap[b]? =some (.cells #[x,y,z] T fr)):(w.setCell ⟨b,2,none⟩ v).heap[b]? =some (.cells #[x,y,v] T fr):=by
 simp[World.setCell,Array.getElem?_modify,h]
theorem dK {base top w b a l c e} (h:Rd base top w b a l c e):
 Calls Tryz.prog 206 #[.pointer (some ⟨b,0,none⟩)] w fun r w'=>r= .returned (.tuple #[])∧dG base top w' b (St.breaks ⟨l,e⟩)∧Save (· ≠b) w w':=by
 have c0:=h.c0
 have c2:=h.c2
 have f0:=h.fr 0
 have f2:=h.fr 2
 go_enter Tryz.func206,Tryz.ntmps206
 go_wp2_with fail
 refine(eX h).mono ?_
 rintro r w1 ⟨rfl,rfl⟩
 by_cases he:e=0
 ·have ge:(e==0)=true:=by rw[he];rfl
  have HE:Hid (St.breaks ⟨l,e⟩=St.broke):=by rw[Hid,St.breaks,if_pos he]
  clear he
  go_wp2_with fail
  go_end0
  refine⟨rfl, ?_,Save.set.trans Save.set⟩
  rw[HE.o]
  exact⟨none,0,set2 (set0 h.blk),Row.nil_ _,h.ge,fun h=>absurd rfl h,by simp[St.broke]⟩
 ·have ge:(e==0)=false:=by simpa using he
  have HE:Hid (St.breaks ⟨l,e⟩=⟨l,e⟩):=by rw[Hid,St.breaks,if_neg he]
  clear he
  go_wp2_with fail
  go_end0
  refine⟨rfl, ?_,Save.refl _ _⟩
  rw[HE.o]
  exact⟨a,c,h⟩
theorem kJ {base top w b a l c e} (h:Rd base top w b a l c e) (n:Int) (hno:e=0→(l.length:Int)<n):
 Calls Tryz.prog 205 #[.pointer (some ⟨b,0,none⟩), .int .i64 n] w fun r w'=>r= .returned (.tuple #[.slice none 0 0, .bool false])∧dG base top w' b (St.breaks ⟨l,e⟩)∧Save (· ≠b) w w':=by
 have c0:=h.c0
 go_enter Tryz.func205,Tryz.ntmps205
 go_wp2_with fail
 refine(eX h).mono ?_
 rintro r w1 ⟨rfl,rfl⟩
 by_cases he:e=0
 ·have ge:(e==0)=true:=by rw[he];rfl
  have hlt:=hno he
  clear hno he
  go_wp2_with fail
  refine(dK h).mono ?_
  rintro r w2 ⟨rfl,hR,hS⟩
  go_wp2_with fail
  go_ret2
  exact⟨rfl,hR,hS⟩
 ·have ge:(e==0)=false:=by simpa using he
  clear hno he
  go_wp2_with fail
  refine(dK h).mono ?_
  rintro r w2 ⟨rfl,hR,hS⟩
  go_wp2_with fail
  go_ret2
  exact⟨rfl,hR,hS⟩
theorem iY {base top w b a l c} (h:Rd base top w b a l c 0) (n:Nat) (hn:n≤l.length):
 Calls Tryz.prog 205 #[.pointer (some ⟨b,0,none⟩), .int .i64 n] w fun r w'=>∃a' X c',Hid (X=l.take n)∧r= .returned (.tuple #[.slice a' X.length c', .bool true])∧Row w' a' X c'∧dG base top w' b ⟨l.drop n,0⟩∧Save (· ≠b) w w':=by
 have c0:=h.c0
 have f0:=h.fr 0
 obtain⟨a1,X,c1,hX,hr1,r1,b1⟩:=h.row.Hw bt.slice bt.sz n hn
 obtain⟨a2,Y,c2,hY,hr2,r2,b2⟩:=h.row.GU bt.slice bt.sz n hn
 have HX:Hid (X=l.take n):=hX
 have HY:Hid (Y=l.drop n):=hY
 have hYl:Y.length≤65536:=by have:=h.len;rw[hY,List.length_drop];omega
 have HB1:=AQ b1
 have HB2:=AQ b2
 clear hX hY b1 b2
 go_enter Tryz.func205,Tryz.ntmps205
 go_wp2_with fail
 refine(eX h).mono ?_
 rintro r w1 ⟨rfl,rfl⟩
 go_wp2_with fail
 go_ret2
 have hS:Save (· ≠b) w (w.setCell ⟨b,0,none⟩ (.slice a2 Y.length c2)):=Save.set
 have hne:∀ {Z:List UInt8},Z≠ []→(Z=l.take n∨Z=l.drop n)→l≠ []:=by
  rintro Z hZ (rfl |rfl) h0
  ·simp[h0] at hZ
  ·simp[h0] at hZ
 refine⟨a1,X,c1,HX,rfl,r1.save' hS (fun hX g hg=>(h.off (hne hX (.inl HX.o)) g (by rw[←HB1.o];exact hg)).1),⟨a2,c2, ?_⟩,hS⟩
 have hk:=set0 (v:= .slice a2 Y.length c2) h.blk
 rw[←HY.o]
 exact⟨hk,r2.save' hS (fun hY g hg=>(h.off (hne hY (.inr HY.o)) g (by rw[←HB2.o];exact hg)).1),h.ge,fun hY g hg=>h.off (hne hY (.inr HY.o)) g (by rw[←HB2.o];exact hg),hYl⟩
theorem yg {base top w b a l c e} (h:Rd base top w b a l c e):
 Calls Tryz.prog 146 #[.pointer (some ⟨b,0,none⟩)] w fun r w'=>r= .returned (.int .i64 e)∧w=w':=by
 have c1:=h.c1
 have c2:=h.c2
 go_enter Tryz.func146,Tryz.ntmps146
 go_wp2_with fail
 go_ret
 exact⟨rfl,rfl⟩
def St.left (s:St):Nat:=if s.e=0 then s.l.length else 0
theorem wK {base top w b a l c e} (h:Rd base top w b a l c e):
 Calls Tryz.prog 145 #[.pointer (some ⟨b,0,none⟩)] w fun r w'=>r= .returned (.int .i64 (St.left ⟨l,e⟩:Int))∧w=w':=by
 have c0:=h.c0
 go_enter Tryz.func145,Tryz.ntmps145
 go_wp2_with fail
 refine(eX h).mono ?_
 rintro r w1 ⟨rfl,rfl⟩
 by_cases he:e=0
 ·have ge:(e==0)=true:=by rw[he];rfl
  have HE:Hid (St.left ⟨l,e⟩=l.length):=by rw[Hid,St.left,if_pos he]
  clear he
  go_wp2_with fail
  go_ret
  exact⟨by rw[HE.o];rfl,rfl⟩
 ·have ge:(e==0)=false:=by simpa using he
  have HE:Hid (St.left ⟨l,e⟩=0):=by rw[Hid,St.left,if_neg he]
  clear he
  go_wp2_with fail
  go_ret
  exact⟨by rw[HE.o];rfl,rfl⟩
def St.fin (s:St):Int:=if 0<s.left then 50 else s.e
theorem vM {base top w b a l c e} (h:Rd base top w b a l c e):
 Calls Tryz.prog 61 #[.pointer (some ⟨b,0,none⟩)] w fun r w'=>r= .returned (.int .i64 (St.fin ⟨l,e⟩))∧w=w':=by
 go_enter Tryz.func61,Tryz.ntmps61
 go_wp2_with fail
 refine(wK h).mono ?_
 rintro r w1 ⟨rfl,rfl⟩
 by_cases he:0<St.left ⟨l,e⟩
 ·have HE:Hid (St.fin ⟨l,e⟩=50):=by rw[Hid,St.fin,if_pos he]
  go_wp2_with fail
  go_ret
  exact⟨by rw[HE.o];rfl,rfl⟩
 ·have HE:Hid (St.fin ⟨l,e⟩=e):=by rw[Hid,St.fin,if_neg he]
  go_wp2_with fail
  refine(yg h).mono ?_
  rintro r w2 ⟨rfl,rfl⟩
  go_wp2_with fail
  go_ret
  exact⟨by rw[HE.o];rfl,rfl⟩
def St.new (l:List UInt8):St:=if l.length≤65536 then⟨l,0⟩ else⟨[],3⟩
theorem oI (w:World) {a0:Option Addr} {l:List UInt8} {c0:Nat} (h0:Row w a0 l c0):
 Calls Tryz.prog 56 #[.slice a0 l.length c0] w fun r w'=>r= .returned (.pointer (some ⟨w.heap.size,0,none⟩))∧dG w.heap.size w'.heap.size w' w.heap.size (St.new l)∧Below w.heap.size w w':=by
 have hlen:=h0.aI
 have hn:=heap_alloc_new w (.cells #[.slice none 0 0, .bool true, .int .i64 0] 174)
 have hb0:Below w.heap.size w (w.alloc (.cells #[.slice none 0 0, .bool true, .int .i64 0] 174)):=(Below.refl _ _).alloc (Nat.le_refl _) _
 go_enter Tryz.func56,Tryz.ntmps56
 by_cases hl:65536<l.length
 ·have HE:Hid (St.new l=⟨[],3⟩):=by rw[Hid,St.new,if_neg AL]
  go_wp2_with fail
  go_ret
  refine⟨rfl, ?_,(Below.refl _ _).alloc (Nat.le_refl _) _⟩
  rw[HE.o]
  exact⟨none,0,heap_alloc_new w _,Row.nil_ _,Nat.le_refl _,fun h=>absurd rfl h,by simp⟩
 ·have HE:Hid (St.new l=⟨l,0⟩):=by rw[Hid,St.new,if_pos AL]
  have r0:=h0.stay hb0
  have hl9:l.length≤65536:=by omega
  clear h0 hl
  have hk:=Io (lq _ 40 r0 AL)
  rw[show(w.alloc (.cells #[.slice none 0 0, .bool true, .int .i64 0] 174)).heap.size=w.heap.size+1 by simp] at hk
  go_wp2_with fail
  refine Calls.mono hk ?_
  rintro e w2 ⟨a2,X,c2,HX,rfl,hm2,hb2⟩
  have hn2:=(hb2.block w.heap.size AO).trans hn
  have cc:w2.cell? ⟨w.heap.size,0,none⟩=some (.slice none 0 0):=by rw[World.cell?,hn2];rfl
  have ff:w2.frozen? ⟨w.heap.size,0,none⟩=false:=by simp[World.frozen?,hn2]
  have HN:=AQ hn2
  have hXl:X.length≤65536:=by rw[HX.o];exact hl9
  clear hn hn2
  go_wp2_with fail
  go_ret
  have hS:Save (· ≠w.heap.size) w2 (w2.setCell ⟨w.heap.size,0,none⟩ (.slice a2 X.length c2)):=Save.set
  have hoff:∀g,blk a2=some g→g≠w.heap.size:=fun g hg=>by have:=hm2.new g hg;omega
  refine⟨rfl, ?_,(hb0.trans (hb2.mono AO)).setCell (Nat.le_refl _) _⟩
  rw[HE.o,←HX.o]
  refine⟨a2,c2,set0 HN.o,hm2.row.save hS hoff,Nat.le_refl _,fun hX g hg=>⟨hoff g hg,by have:=hm2.new g hg;omega, ?_⟩,hXl⟩
  have h1:=hm2.row.blk (List.length_pos_iff.2 hX)
  have h2:=hS.size
  cases a2 with
  | none=>simp[blk] at hg
  | some p=>simp[blk,ad] at hg h1;omega
end Go.Proofs.YtlholdllibghbaaGreat
namespace Go.Cit
def Eu (l:List UInt8):Nat:=l.foldl (fun x d=>256*x+d.toNat) 0
theorem wO:∀(l:List UInt8) (x:Nat),l.foldl (fun x d=>256*x+d.toNat) x<256^l.length*(x+1)
 | [],x=>by simp
 |
  d::l,x=>by
  have h:=wO l (256*x+d.toNat)
  have hd:=b_lt d
  rw[List.foldl_cons,List.length_cons,Nat.pow_succ,Nat.mul_assoc]
  refine Nat.lt_of_lt_of_le h (Nat.mul_le_mul_left _ AL)
theorem zx (l:List UInt8):Eu l<256^l.length:=by
 have:=wO l 0;simpa[Eu] using this
theorem rJ:∀(l:List UInt8) (x:UInt64) (y:Nat),x.toNat=y%18446744073709551616→(l.foldl zJ x).toNat=l.foldl (fun x d=>256*x+d.toNat) y%18446744073709551616
 | [],x,y,h=>h
 |
  d::l,x,y,h=>by
  rw[List.foldl_cons,List.foldl_cons]
  refine rJ l _ _ ?_
  show(256*x+d.toUInt64).toNat=_
  rw[UInt64.toNat_add,UInt64.toNat_mul,UInt8.toNat_toUInt64,h]
  show(256*(y%18446744073709551616)%18446744073709551616+d.toNat)%18446744073709551616=_
  omega
theorem xG (l:List UInt8) (h:l.length≤8):(dX l).toNat=Eu l:=by
 have e:=rJ l 0 0 rfl
 have h1:Eu l<18446744073709551616:=Nat.lt_of_lt_of_le (zx l) (Nat.pow_le_pow_right AP h)
 show(l.foldl zJ 0).toNat=_
 rw[e];exact Nat.mod_eq_of_lt h1
theorem EF (l:List UInt8) (n:Nat) (h:l.length≤n) (h8:n≤8):(dX l).toNat<256^n:=by
 rw[xG l AL];exact Nat.lt_of_lt_of_le (zx l) (Nat.pow_le_pow_right AP h)
end Go.Cit
namespace Go.Proofs.YtlholdllibghbaaGreat
open Go Go.RowKit Go.Cit
def St.read {α:Type} (s:St) (n:Nat) (f:List UInt8→α×Bool) (z:α):α×St:=
 match s.next n with
 | (some x,s')=>if (f x).2 then ((f x).1,s') else (z,St.broke)
 | (none,s')=>(z,s')
theorem dG.stay {base top w w' b s} (h:dG base top w b s) (hb:Below w.heap.size w w'):dG base top w' b s:=by
 obtain⟨a,c,h⟩:=h;exact⟨a,c,h.stay hb⟩
theorem dG.save {S:Nat→Prop} {base top w w' b s} (h:dG base top w b s) (hs:Save S w w') (hb:S b) (ht:∀g,base≤g→g<top→S g):dG base top w' b s:=by
 obtain⟨a,c,h⟩:=h;exact⟨a,c,h.save hs hb (fun hl g hg=>ht g (h.off hl g hg).2.1 (h.off hl g hg).2.2)⟩
theorem zq {l:List UInt8} {e:Int} {n:Nat} (h:e=0→l.length<n):St.next ⟨l,e⟩ n=(none,St.breaks ⟨l,e⟩):=by
 unfold St.next St.breaks
 by_cases he:e=0
 ·simp[he,Nat.not_le.2 (h he)]
 ·simp[he]
theorem lG {l:List UInt8} {n:Nat} (h:n≤l.length):St.next ⟨l,0⟩ n=(some (l.take n),⟨l.drop n,0⟩):=by
 unfold St.next
 simp[h]
theorem mM {α:Type} {l:List UInt8} {e:Int} {n:Nat} {f:List UInt8→α×Bool} {z:α} (h:e=0→l.length<n):St.read ⟨l,e⟩ n f z=(z,St.breaks ⟨l,e⟩):=by
 rw[St.read,zq h]
theorem jT {α:Type} {l:List UInt8} {n:Nat} {f:List UInt8→α×Bool} {z:α} (h:n≤l.length) (hf:(f (l.take n)).2=true):St.read ⟨l,0⟩ n f z=((f (l.take n)).1,⟨l.drop n,0⟩):=by
 rw[St.read,lG h];simp[hf]
theorem lS {α:Type} {l:List UInt8} {n:Nat} {f:List UInt8→α×Bool} {z:α} (h:n≤l.length) (hf:(f (l.take n)).2=false):St.read ⟨l,0⟩ n f z=(z,St.broke):=by
 rw[St.read,lG h];simp[hf]
def jy (x:UInt64):Int:=wrap64 (x.toNat:Int)
def iD (x:List UInt8):UInt8×Bool:=(x.getD 0 0,true)
def kL (x:List UInt8):Int×Bool:=(jy (dX x),true)
def gI (x:List UInt8):Bool×Bool:=(x.getD 0 0==bI 1,decide ((x.getD 0 0).toNat≤1))
def kK (x:List UInt8):Int×Bool:=(((dX x).toNat:Int),decide ((dX x).toNat≤65536))
theorem ng {l:List UInt8} {n:Nat} (h:l.length=n):gG l 0 n=(dX l,true):=by
 rw[gG,if_pos AL]
 simp[List.take_of_length_le (Nat.le_of_eq h)]
theorem Ep (w:World) {a:Option Addr} {X:List UInt8} {c:Nat} (r:Row w a X c) (h:X.length=1):
 Calls Tryz.prog 224 #[.slice a X.length c] w fun e w'=>e= .returned (.tuple #[vb (iD X).1, .bool (iD X).2])∧Below w.heap.size w w':=by
 have h0:0<X.length:=by omega
 have i0:=r.index bt.slice bt.sz 0 h0
 have e0:=r.cell 0 h0
 rw[show((0:Nat):Int)=0 from rfl] at i0
 have HE:Hid (iD X=(X[0],true)):=by rw[Hid,iD];simp[List.getD,h0]
 clear h
 go_enter Tryz.func224,Tryz.ntmps224
 go_wp2_with fail
 go_ret2
 exact⟨by rw[HE.o];rfl,Below.refl _ _⟩
theorem EI (w:World) {a:Option Addr} {X:List UInt8} {c:Nat} (r:Row w a X c) (h:X.length=1):
 Calls Tryz.prog 209 #[.slice a X.length c] w fun e w'=>e= .returned (.tuple #[.bool (gI X).1, .bool (gI X).2])∧Below w.heap.size w w':=by
 have h0:0<X.length:=by omega
 have i0:=r.index bt.slice bt.sz 0 h0
 have e0:=r.cell 0 h0
 rw[show((0:Nat):Int)=0 from rfl] at i0
 have HE:Hid (gI X=(X[0]==bI 1,decide (X[0].toNat≤1))):=by rw[Hid,gI];simp[List.getD,h0]
 clear h
 go_enter Tryz.func209,Tryz.ntmps209
 go_wp2_with fail
 have ec:∀n,(w.drewN n).cell? (ad a 0)=some (vb X[0]):=fun _=>e0
 go_quiet (fail)
 go_wp2_with fail
 go_ret2
 refine⟨?_,below_drewN _ _ _⟩
 rw[HE.o]
 have:decide ((X[0].toNat:Int)≤1)=decide (X[0].toNat≤1):=decide_eq_decide.2 AL
 first |rfl |(rw[←this];rfl)
theorem FP (w:World) {a:Option Addr} {X:List UInt8} {c:Nat} (r:Row w a X c) (h:X.length=8):
 Calls Tryz.prog 129 #[.slice a X.length c] w fun e w'=>e= .returned (.tuple #[.int .i64 (kL X).1, .bool (kL X).2])∧Below w.heap.size w w':=by
 have hk:=lZ w _ _ _ 0 r
 rw[ng h] at hk
 clear h
 go_enter Tryz.func129,Tryz.ntmps129
 go_wp2_with fail
 refine Calls.mono hk ?_
 rintro e w1 ⟨rfl,hw⟩
 subst hw
 go_wp2_with fail
 go_ret2
 exact⟨rfl,Below.refl _ _⟩
theorem FK (w:World) {a:Option Addr} {X:List UInt8} {c:Nat} (r:Row w a X c) (h:X.length=4):
 Calls Tryz.prog 140 #[.slice a X.length c] w fun e w'=>e= .returned (.tuple #[.int .i64 (kK X).1, .bool (kK X).2])∧Below w.heap.size w w':=by
 have hk:=tu w _ _ _ 0 r
 rw[ng h] at hk
 have hlt:(dX X).toNat<4294967296:=EF X 4 AL AP
 have hq:((Aw (dX X)).toNat:Int)=((dX X).toNat:Int):=by
  unfold Aw;rw[UInt64.toNat_toUInt32];omega
 clear h
 have HQ:=AQ hq
 generalize Aw (dX X)=q at hk HQ hq
 have hq2:(q.toNat:Int)<4294967296:=by have:=q.toNat_lt;omega
 clear hq
 go_enter Tryz.func140,Tryz.ntmps140
 go_wp2_with fail
 refine Calls.mono hk ?_
 rintro e w1 ⟨rfl,hw⟩
 subst hw
 go_wp2_with fail
 go_ret2
 refine⟨?_,Below.refl _ _⟩
 rw[kK,←HQ.o]
 have e1:IntKind.i64.wrap (q.toNat:Int)=q.toNat:=IntWalk.i64_in _ AL
 have e2:decide ((q.toNat:Int)≤65536)=decide ((dX X).toNat≤65536):=decide_eq_decide.2 (by have:=HQ.o;omega)
 first |rfl |(rw[←e2];rfl) |(rw[←e2];simp[e1])
theorem xP {base top w b a l c e} (h:Rd base top w b a l c e):
 Calls Tryz.prog 223 #[.pointer (some ⟨b,0,none⟩), .int .i64 1, .func (.func 224) #[] #[]] w fun r w'=>r= .returned (vb (St.read ⟨l,e⟩ 1 iD 0).1)∧dG base top w' b (St.read ⟨l,e⟩ 1 iD 0).2∧Save (· ≠b) w w':=by
 by_cases hy:e=0∧1≤l.length
 ·obtain⟨rfl,hn⟩:=hy
  have hk:=iY h 1 hn
  have HN:=AQ hn
  rw[show((1:Nat):Int)=1 from rfl] at hk
  go_enter Tryz.func223,Tryz.ntmps223
  go_wp2_with fail
  refine Calls.mono hk ?_
  rintro r w1 ⟨a1,X,c1,HX,rfl,r1,hR,hS⟩
  have hX:X.length=1:=by rw[HX.o,List.length_take];omega
  have hi:=Ep w1 r1 hX
  clear hX hk hn
  go_wp2_with fail
  refine Calls.mono hi ?_
  rintro r w2 ⟨rfl,hb2⟩
  replace hR:=dG.stay hR hb2
  replace hS:=hS.trans (Save.of hb2)
  cases hok:(iD X).2
  ·have HR:Hid (St.read ⟨l,0⟩ 1 iD 0=(0,St.broke)):=lS HN.o (by rw[←HX.o];exact hok)
   obtain⟨a2,c2,hR⟩:=hR
   go_wp2_with fail
   refine(dK hR).mono ?_
   rintro r w3 ⟨rfl,hR3,hS3⟩
   go_wp2_with fail
   go_ret
   rw[HR.o]
   exact⟨rfl,hR3,hS.trans hS3⟩
  ·have HR:Hid (St.read ⟨l,0⟩ 1 iD 0=((iD X).1,⟨l.drop 1,0⟩)):=by rw[Hid,HX.o];exact jT HN.o (by rw[←HX.o];exact hok)
   go_wp2_with fail
   go_ret
   rw[HR.o]
   exact⟨rfl,hR,hS⟩
 ·have hno:e=0→(l.length:Int)<1:=fun he=>by have:=fun h=>hy ⟨he,h⟩;omega
  have hk:=kJ h 1 hno
  have HR:Hid (St.read ⟨l,e⟩ 1 iD 0=(0,St.breaks ⟨l,e⟩)):=mM (fun he=>by have:=hno he;omega)
  clear hno hy
  go_enter Tryz.func223,Tryz.ntmps223
  go_wp2_with fail
  refine Calls.mono hk ?_
  rintro r w1 ⟨rfl,hR,hS⟩
  go_wp2_with fail
  go_ret
  rw[HR.o]
  exact⟨rfl,hR,hS⟩
theorem vZ {base top w b a l c e} (h:Rd base top w b a l c e):
 Calls Tryz.prog 174 #[.pointer (some ⟨b,0,none⟩)] w fun r w'=>r= .returned (vb (St.read ⟨l,e⟩ 1 iD 0).1)∧dG base top w' b (St.read ⟨l,e⟩ 1 iD 0).2∧Save (· ≠b) w w':=by
 go_enter Tryz.func174,Tryz.ntmps174
 go_wp2_with fail
 refine(xP h).mono ?_
 rintro r w1 ⟨rfl,hR,hS⟩
 go_wp2_with fail
 go_ret
 exact⟨rfl,hR,hS⟩
theorem BN {base top w b a l c e} (h:Rd base top w b a l c e):
 Calls Tryz.prog 128 #[.pointer (some ⟨b,0,none⟩), .int .i64 8, .func (.func 129) #[] #[]] w fun r w'=>r= .returned (.int .i64 (St.read ⟨l,e⟩ 8 kL 0).1)∧dG base top w' b (St.read ⟨l,e⟩ 8 kL 0).2∧Save (· ≠b) w w':=by
 by_cases hy:e=0∧8≤l.length
 ·obtain⟨rfl,hn⟩:=hy
  have hk:=iY h 8 hn
  have HN:=AQ hn
  rw[show((8:Nat):Int)=8 from rfl] at hk
  go_enter Tryz.func128,Tryz.ntmps128
  go_wp2_with fail
  refine Calls.mono hk ?_
  rintro r w1 ⟨a1,X,c1,HX,rfl,r1,hR,hS⟩
  have hX:X.length=8:=by rw[HX.o,List.length_take];omega
  have hi:=FP w1 r1 hX
  clear hX hk hn
  go_wp2_with fail
  refine Calls.mono hi ?_
  rintro r w2 ⟨rfl,hb2⟩
  replace hR:=dG.stay hR hb2
  replace hS:=hS.trans (Save.of hb2)
  cases hok:(kL X).2
  ·have HR:Hid (St.read ⟨l,0⟩ 8 kL 0=(0,St.broke)):=lS HN.o (by rw[←HX.o];exact hok)
   obtain⟨a2,c2,hR⟩:=hR
   go_wp2_with fail
   refine(dK hR).mono ?_
   rintro r w3 ⟨rfl,hR3,hS3⟩
   go_wp2_with fail
   go_ret
   rw[HR.o]
   exact⟨rfl,hR3,hS.trans hS3⟩
  ·have HR:Hid (St.read ⟨l,0⟩ 8 kL 0=((kL X).1,⟨l.drop 8,0⟩)):=by rw[Hid,HX.o];exact jT HN.o (by rw[←HX.o];exact hok)
   go_wp2_with fail
   go_ret
   rw[HR.o]
   exact⟨rfl,hR,hS⟩
 ·have hno:e=0→(l.length:Int)<8:=fun he=>by have:=fun h=>hy ⟨he,h⟩;omega
  have hk:=kJ h 8 hno
  have HR:Hid (St.read ⟨l,e⟩ 8 kL 0=(0,St.breaks ⟨l,e⟩)):=mM (fun he=>by have:=hno he;omega)
  clear hno hy
  go_enter Tryz.func128,Tryz.ntmps128
  go_wp2_with fail
  refine Calls.mono hk ?_
  rintro r w1 ⟨rfl,hR,hS⟩
  go_wp2_with fail
  go_ret
  rw[HR.o]
  exact⟨rfl,hR,hS⟩
theorem xq {base top w b a l c e} (h:Rd base top w b a l c e):
 Calls Tryz.prog 57 #[.pointer (some ⟨b,0,none⟩)] w fun r w'=>r= .returned (.int .i64 (St.read ⟨l,e⟩ 8 kL 0).1)∧dG base top w' b (St.read ⟨l,e⟩ 8 kL 0).2∧Save (· ≠b) w w':=by
 go_enter Tryz.func57,Tryz.ntmps57
 go_wp2_with fail
 refine(BN h).mono ?_
 rintro r w1 ⟨rfl,hR,hS⟩
 go_wp2_with fail
 go_ret
 exact⟨rfl,hR,hS⟩
theorem yK {base top w b a l c e} (h:Rd base top w b a l c e):
 Calls Tryz.prog 208 #[.pointer (some ⟨b,0,none⟩), .int .i64 1, .func (.func 209) #[] #[]] w fun r w'=>r= .returned (.bool (St.read ⟨l,e⟩ 1 gI false).1)∧dG base top w' b (St.read ⟨l,e⟩ 1 gI false).2∧Save (· ≠b) w w':=by
 by_cases hy:e=0∧1≤l.length
 ·obtain⟨rfl,hn⟩:=hy
  have hk:=iY h 1 hn
  have HN:=AQ hn
  rw[show((1:Nat):Int)=1 from rfl] at hk
  go_enter Tryz.func208,Tryz.ntmps208
  go_wp2_with fail
  refine Calls.mono hk ?_
  rintro r w1 ⟨a1,X,c1,HX,rfl,r1,hR,hS⟩
  have hX:X.length=1:=by rw[HX.o,List.length_take];omega
  have hi:=EI w1 r1 hX
  clear hX hk hn
  go_wp2_with fail
  refine Calls.mono hi ?_
  rintro r w2 ⟨rfl,hb2⟩
  replace hR:=dG.stay hR hb2
  replace hS:=hS.trans (Save.of hb2)
  cases hok:(gI X).2
  ·have HR:Hid (St.read ⟨l,0⟩ 1 gI false=(false,St.broke)):=lS HN.o (by rw[←HX.o];exact hok)
   obtain⟨a2,c2,hR⟩:=hR
   go_wp2_with fail
   refine(dK hR).mono ?_
   rintro r w3 ⟨rfl,hR3,hS3⟩
   go_wp2_with fail
   go_ret
   rw[HR.o]
   exact⟨rfl,hR3,hS.trans hS3⟩
  ·have HR:Hid (St.read ⟨l,0⟩ 1 gI false=((gI X).1,⟨l.drop 1,0⟩)):=by rw[Hid,HX.o];exact jT HN.o (by rw[←HX.o];exact hok)
   go_wp2_with fail
   go_ret
   rw[HR.o]
   exact⟨rfl,hR,hS⟩
 ·have hno:e=0→(l.length:Int)<1:=fun he=>by have:=fun h=>hy ⟨he,h⟩;omega
  have hk:=kJ h 1 hno
  have HR:Hid (St.read ⟨l,e⟩ 1 gI false=(false,St.breaks ⟨l,e⟩)):=mM (fun he=>by have:=hno he;omega)
  clear hno hy
  go_enter Tryz.func208,Tryz.ntmps208
  go_wp2_with fail
  refine Calls.mono hk ?_
  rintro r w1 ⟨rfl,hR,hS⟩
  go_wp2_with fail
  go_ret
  rw[HR.o]
  exact⟨rfl,hR,hS⟩
theorem wW {base top w b a l c e} (h:Rd base top w b a l c e):
 Calls Tryz.prog 137 #[.pointer (some ⟨b,0,none⟩)] w fun r w'=>r= .returned (.bool (St.read ⟨l,e⟩ 1 gI false).1)∧dG base top w' b (St.read ⟨l,e⟩ 1 gI false).2∧Save (· ≠b) w w':=by
 go_enter Tryz.func137,Tryz.ntmps137
 go_wp2_with fail
 refine(yK h).mono ?_
 rintro r w1 ⟨rfl,hR,hS⟩
 go_wp2_with fail
 go_ret
 exact⟨rfl,hR,hS⟩
theorem Ag {base top w b a l c e} (h:Rd base top w b a l c e):
 Calls Tryz.prog 128 #[.pointer (some ⟨b,0,none⟩), .int .i64 4, .func (.func 140) #[] #[]] w fun r w'=>r= .returned (.int .i64 (St.read ⟨l,e⟩ 4 kK 0).1)∧dG base top w' b (St.read ⟨l,e⟩ 4 kK 0).2∧Save (· ≠b) w w':=by
 by_cases hy:e=0∧4≤l.length
 ·obtain⟨rfl,hn⟩:=hy
  have hk:=iY h 4 hn
  have HN:=AQ hn
  rw[show((4:Nat):Int)=4 from rfl] at hk
  go_enter Tryz.func128,Tryz.ntmps128
  go_wp2_with fail
  refine Calls.mono hk ?_
  rintro r w1 ⟨a1,X,c1,HX,rfl,r1,hR,hS⟩
  have hX:X.length=4:=by rw[HX.o,List.length_take];omega
  have hi:=FK w1 r1 hX
  clear hX hk hn
  go_wp2_with fail
  refine Calls.mono hi ?_
  rintro r w2 ⟨rfl,hb2⟩
  replace hR:=dG.stay hR hb2
  replace hS:=hS.trans (Save.of hb2)
  cases hok:(kK X).2
  ·have HR:Hid (St.read ⟨l,0⟩ 4 kK 0=(0,St.broke)):=lS HN.o (by rw[←HX.o];exact hok)
   obtain⟨a2,c2,hR⟩:=hR
   go_wp2_with fail
   refine(dK hR).mono ?_
   rintro r w3 ⟨rfl,hR3,hS3⟩
   go_wp2_with fail
   go_ret
   rw[HR.o]
   exact⟨rfl,hR3,hS.trans hS3⟩
  ·have HR:Hid (St.read ⟨l,0⟩ 4 kK 0=((kK X).1,⟨l.drop 4,0⟩)):=by rw[Hid,HX.o];exact jT HN.o (by rw[←HX.o];exact hok)
   go_wp2_with fail
   go_ret
   rw[HR.o]
   exact⟨rfl,hR,hS⟩
 ·have hno:e=0→(l.length:Int)<4:=fun he=>by have:=fun h=>hy ⟨he,h⟩;omega
  have hk:=kJ h 4 hno
  have HR:Hid (St.read ⟨l,e⟩ 4 kK 0=(0,St.breaks ⟨l,e⟩)):=mM (fun he=>by have:=hno he;omega)
  clear hno hy
  go_enter Tryz.func128,Tryz.ntmps128
  go_wp2_with fail
  refine Calls.mono hk ?_
  rintro r w1 ⟨rfl,hR,hS⟩
  go_wp2_with fail
  go_ret
  rw[HR.o]
  exact⟨rfl,hR,hS⟩
open Go Go.RowKit Go.Cit
def fAll (x:List UInt8):List UInt8×Bool:=(x,true)
def Got (base top:Nat) (w:World) (b:Nat) (p:List UInt8×St) (r:Ending) (w':World):Prop:=
 ∃a' X c',Hid (X=p.1)∧r= .returned (.slice a' X.length c')∧Mine w.heap.size w' a' X c'∧dG base top w' b p.2∧Save (· ≠b) w w'
theorem Gs (w:World) {a:Option Addr} {X:List UInt8} {c:Nat} (r:Row w a X c) (h:X.length≤300000000):
 Calls Tryz.prog 144 #[.slice a X.length c] w fun e w'=>∃a' Y c',Hid (Y=X)∧e= .returned (.tuple #[.slice a' Y.length c', .bool true])∧Mine w.heap.size w' a' Y c'∧Below w.heap.size w w':=by
 go_enter Tryz.func144,Tryz.ntmps144
 go_wp2_with fail
 refine(Io (lq _ _ r AL)).mono ?_
 rintro e w2 ⟨a2,Y,c2,HY,rfl,hm2,hb2⟩
 go_wp2_with fail
 go_ret2
 exact⟨a2,Y,c2,HY,rfl,hm2,hb2⟩
theorem A8 {base top w b a l c e} (h:Rd base top w b a l c e) (n:Nat):
 Calls Tryz.prog 143 #[.pointer (some ⟨b,0,none⟩), .int .i64 n, .func (.func 144) #[] #[]] w (Got base top w b (St.read ⟨l,e⟩ n fAll [])):=by
 by_cases hy:e=0∧n≤l.length
 ·obtain⟨rfl,hn⟩:=hy
  have hk:=iY h n hn
  have HR:Hid (St.read ⟨l,0⟩ n fAll []=(l.take n,⟨l.drop n,0⟩)):=jT hn rfl
  have hl:=h.len
  go_enter Tryz.func143,Tryz.ntmps143
  go_wp2_with fail
  refine Calls.mono hk ?_
  rintro r w1 ⟨a1,X,c1,HX,rfl,r1,hR,hS⟩
  have hX:X.length≤65536:=by rw[HX.o,List.length_take];omega
  have hi:=Gs w1 r1 AL
  clear hk
  go_wp2_with fail
  refine Calls.mono hi ?_
  rintro r w2 ⟨a2,Y,c2,HY,rfl,hm2,hb2⟩
  go_wp2_with fail
  go_ret
  rw[HR.o]
  exact⟨a2,Y,c2,by rw[Hid,HY.o,HX.o],rfl,hm2.low hS.size,dG.stay hR hb2,hS.trans (Save.of hb2)⟩
 ·have hno:e=0→l.length<n:=fun he=>by have:=fun h=>hy ⟨he,h⟩;omega
  have hk:=kJ h n (fun he=>by have:=hno he;omega)
  have HR:Hid (St.read ⟨l,e⟩ n fAll []=([],St.breaks ⟨l,e⟩)):=mM hno
  clear hno hy
  go_enter Tryz.func143,Tryz.ntmps143
  go_wp2_with fail
  refine Calls.mono hk ?_
  rintro r w1 ⟨rfl,hR,hS⟩
  go_wp2_with fail
  go_ret
  rw[HR.o]
  exact⟨none,[],0,rfl,rfl,Mine.nil _ _,hR,hS⟩
def St.bytes (s:St):List UInt8×St:=
 if (s.read 4 kK 0).2.e=0 then (s.read 4 kK 0).2.read (s.read 4 kK 0).1.toNat fAll [] else ([],(s.read 4 kK 0).2)
theorem DK (s:St):∃m:Nat,(s.read 4 kK 0).1=(m:Int):=by
 unfold St.read
 split
 ·split
  ·exact⟨_,rfl⟩
  ·exact⟨0,rfl⟩
 ·exact⟨0,rfl⟩
theorem sG {base top w b a l c e} (h:Rd base top w b a l c e):
 Calls Tryz.prog 60 #[.pointer (some ⟨b,0,none⟩)] w (Got base top w b (St.bytes ⟨l,e⟩)):=by
 have hk:=Ag h
 obtain⟨m,hm⟩:=DK ⟨l,e⟩
 rw[hm] at hk
 obtain⟨s,hs⟩:=AU ((St.read ⟨l,e⟩ 4 kK 0).2)
 rw[←hs.o] at hk
 have HB:Hid (St.bytes ⟨l,e⟩=if s.e=0 then s.read m fAll [] else ([],s)):=by rw[Hid,St.bytes,←hs.o,hm];rfl
 clear hm hs
 go_enter Tryz.func60,Tryz.ntmps60
 go_wp2_with fail
 refine Calls.mono hk ?_
 rintro r w1 ⟨rfl,⟨a1,c1,hR⟩,hS⟩
 clear hk
 go_wp2_with fail
 refine(eX hR).mono ?_
 rintro r w2 ⟨rfl,rfl⟩
 by_cases he:s.e=0
 ·have ge:(s.e==0)=true:=by rw[he];rfl
  have HB2:Hid (St.bytes ⟨l,e⟩=s.read m fAll []):=by rw[Hid,HB.o,if_pos he]
  clear he HB
  go_wp2_with fail
  refine(A8 hR m).mono ?_
  rintro r w3 ⟨a3,X,c3,HX,rfl,hm3,hR3,hS3⟩
  go_wp2_with fail
  go_ret
  exact⟨a3,X,c3,by rw[Hid,HX.o,HB2.o],rfl,hm3.low hS.size,by rw[HB2.o];exact hR3,hS.trans hS3⟩
 ·have ge:(s.e==0)=false:=by simpa using he
  have HB2:Hid (St.bytes ⟨l,e⟩=([],s)):=by rw[Hid,HB.o,if_neg he]
  clear he HB
  go_wp2_with fail
  go_ret
  exact⟨none,[],0,by rw[Hid,HB2.o],rfl,Mine.nil _ _,by rw[HB2.o];exact⟨a1,c1,hR⟩,hS⟩
def St.count (s:St) (most:Int):Int×St:=
 match s.next 8 with
 | (some x,s')=>if 0≤jy (dX x)∧jy (dX x)≤most∧jy (dX x)≤(s'.l.length:Int) then (jy (dX x),s') else (0,St.broke)
 | (none,s')=>(0,s')
theorem Dy {a b:Int} {s t:Bool} (h:a=b) (k:s=t):Ending.returned (.tuple #[.int .i64 a, .bool s])= .returned (.tuple #[.int .i64 b, .bool t]):=by rw[h,k]
theorem DN {base top w b a l c e} (h:Rd base top w b a l c e) (most:Int) (g1 g2:Nat) (h1:w.cell? ⟨g1,0,none⟩=some (.int .i64 most)) (h2:w.cell? ⟨g2,0,none⟩=some (.pointer (some ⟨b,0,none⟩))) {a':Option Addr} {X:List UInt8} {c':Nat} (r:Row w a' X c') (hX:X.length=8):
 Calls Tryz.prog 222 #[.slice a' X.length c', .pointer (some ⟨g1,0,none⟩), .pointer (some ⟨g2,0,none⟩)] w fun r w'=>r= .returned (.tuple #[.int .i64 (jy (dX X)), .bool (decide (0≤jy (dX X)) && decide (jy (dX X)≤min most (l.length:Int)))])∧Below w.heap.size w w':=by
 have hk:=lZ w _ _ _ 0 r
 rw[ng hX] at hk
 have c0:=h.c0
 have c0':∀n,(w.drewN n).cell? ⟨b,0,none⟩=some (.slice a l.length c):=fun _=>c0
 have h1':∀n,(w.drewN n).cell? ⟨g1,0,none⟩=some (.int .i64 most):=fun _=>h1
 have h2':∀n,(w.drewN n).cell? ⟨g2,0,none⟩=some (.pointer (some ⟨b,0,none⟩)):=fun _=>h2
 obtain⟨q,hq⟩:∃q,wrap64 ((dX X).toNat:Int)=q:=⟨_,rfl⟩
 rw[show jy (dX X)=q from hq]
 clear hX
 go_enter Tryz.func222,Tryz.ntmps222
 go_wp2_with fail
 refine Calls.mono hk ?_
 rintro r w1 ⟨rfl,hw⟩
 subst hw
 have hl9:=h.len
 by_cases hq0:0≤q
 ·have hd:decide (0≤q)=true:=decide_eq_true hq0
  go_wp2_with fail
  go_quiet (fail)
  go_wp2_with fail
  go_ret2
  refine⟨Dy hq ?_,below_drewN _ _ _⟩
  simp[hd]
 ·have hd:decide (0≤q)=false:=decide_eq_false hq0
  go_wp2_with fail
  go_quiet (fail)
  go_wp2_with fail
  go_ret2
  refine⟨Dy hq ?_,below_drewN _ _ _⟩
  simp[hd]
theorem Bo {l:List UInt8} {most:Int} (h:8≤l.length) (hf:(decide (0≤jy (dX (l.take 8))) && decide (jy (dX (l.take 8))≤min most ((l.drop 8).length:Int)))=true):St.count ⟨l,0⟩ most=(jy (dX (l.take 8)),⟨l.drop 8,0⟩):=by
 rw[St.count,lG h]
 simp only[Bool.and_eq_true,decide_eq_true_eq] at hf
 exact if_pos ⟨hf.1,by omega,by show _≤((l.drop 8).length:Int);omega⟩
theorem Ar {l:List UInt8} {most:Int} (h:8≤l.length) (hf:(decide (0≤jy (dX (l.take 8))) && decide (jy (dX (l.take 8))≤min most ((l.drop 8).length:Int)))=false):St.count ⟨l,0⟩ most=(0,St.broke):=by
 rw[St.count,lG h]
 simp only[Bool.and_eq_false_iff,decide_eq_false_iff_not] at hf
 exact if_neg (fun hc=>by
  obtain⟨a1,a2,a3⟩:=hc
  have a4:jy (dX (l.take 8))≤((l.drop 8).length:Int):=a3
  rcases hf with h |h<;>omega)
theorem Dq {l:List UInt8} {e most:Int} (h:e=0→l.length<8):St.count ⟨l,e⟩ most=(0,St.breaks ⟨l,e⟩):=by
 rw[St.count,zq h]
theorem vV {base top w b a l c e} (h:Rd base top w b a l c e) (most:Int) (g1 g2:Nat) (n1:g1≠b) (n2:g2≠b) (h1:w.cell? ⟨g1,0,none⟩=some (.int .i64 most)) (h2:w.cell? ⟨g2,0,none⟩=some (.pointer (some ⟨b,0,none⟩))):
 Calls Tryz.prog 128 #[.pointer (some ⟨b,0,none⟩), .int .i64 8, .func (.func 222) #[] #[.pointer (some ⟨g1,0,none⟩), .pointer (some ⟨g2,0,none⟩)]] w fun r w'=>r= .returned (.int .i64 (St.count ⟨l,e⟩ most).1)∧dG base top w' b (St.count ⟨l,e⟩ most).2∧Save (· ≠b) w w':=by
 have lt1:=World.block_lt_of_cell? w _ h1
 have lt2:=World.block_lt_of_cell? w _ h2
 by_cases hy:e=0∧8≤l.length
 ·obtain⟨rfl,hn⟩:=hy
  have hk:=iY h 8 hn
  have HN:=AQ hn
  rw[show((8:Nat):Int)=8 from rfl] at hk
  go_enter Tryz.func128,Tryz.ntmps128
  go_wp2_with fail
  refine Calls.mono hk ?_
  rintro r w1 ⟨a1,X,c1,HX,rfl,r1,⟨a2,c2,hR⟩,hS⟩
  have hX:X.length=8:=by rw[HX.o,List.length_take];omega
  have hi:=DN hR most g1 g2 ((hS.cell (p:=⟨g1,0,none⟩) lt1 n1).trans h1) ((hS.cell (p:=⟨g2,0,none⟩) lt2 n2).trans h2) r1 hX
  clear hX hk hn
  obtain⟨B,hB⟩:=AU ((decide (0≤jy (dX X)) && decide (jy (dX X)≤min most ((l.drop 8).length:Int))))
  rw[←hB.o] at hi
  go_wp2_with fail
  refine Calls.mono hi ?_
  rintro r w2 ⟨rfl,hb2⟩
  have hR2:=hR.stay hb2
  replace hS:=hS.trans (Save.of hb2)
  cases hok:B
  ·have HR:Hid (St.count ⟨l,0⟩ most=(0,St.broke)):=Ar HN.o (by rw[←HX.o,←hB.o];exact hok)
   go_wp2_with fail
   refine(dK hR2).mono ?_
   rintro r w3 ⟨rfl,hR3,hS3⟩
   go_wp2_with fail
   go_ret
   rw[HR.o]
   exact⟨rfl,hR3,hS.trans hS3⟩
  ·have HR:Hid (St.count ⟨l,0⟩ most=(jy (dX X),⟨l.drop 8,0⟩)):=by rw[Hid,HX.o];exact Bo HN.o (by rw[←HX.o,←hB.o];exact hok)
   go_wp2_with fail
   go_ret
   rw[HR.o]
   exact⟨rfl,⟨a2,c2,hR2⟩,hS⟩
 ·have hno:e=0→(l.length:Int)<8:=fun he=>by have:=fun h=>hy ⟨he,h⟩;omega
  have hk:=kJ h 8 hno
  have HR:Hid (St.count ⟨l,e⟩ most=(0,St.breaks ⟨l,e⟩)):=Dq (fun he=>by have:=hno he;omega)
  clear hno hy
  go_enter Tryz.func128,Tryz.ntmps128
  go_wp2_with fail
  refine Calls.mono hk ?_
  rintro r w1 ⟨rfl,hR,hS⟩
  go_wp2_with fail
  go_ret
  rw[HR.o]
  exact⟨rfl,hR,hS⟩
theorem sJ {base top w b a l c e} (h:Rd base top w b a l c e) (most:Int):
 Calls Tryz.prog 172 #[.pointer (some ⟨b,0,none⟩), .int .i64 most] w fun r w'=>r= .returned (.int .i64 (St.count ⟨l,e⟩ most).1)∧dG base top w' b (St.count ⟨l,e⟩ most).2∧Save (· ≠b) w w':=by
 have hmf:∀(fn:Fn) (first cap:Array Value) (w:World),(Instr.makeFunc fn first cap).run Tryz.prog w= .ok (.func fn first cap) w:=fun _ _ _ _=>rfl
 have hlt:=h.lt
 go_enter Tryz.func172,Tryz.ntmps172
 go_wp2_with fail
 obtain⟨W,HW⟩:=AU ((w.alloc (Obj.cells #[.pointer (some ⟨b,0,none⟩)] 100)).alloc (Obj.cells #[.int .i64 most] 3))
 rw[←HW.o]
 have e1:W.cell? ⟨w.heap.size+1,0,none⟩=some (.int .i64 most):=by rw[HW.o];simp
 have e2:W.cell? ⟨w.heap.size,0,none⟩=some (.pointer (some ⟨b,0,none⟩)):=by rw[HW.o];simp
 have B:Below w.heap.size w W:=by rw[HW.o];exact((Below.refl _ _).alloc (Nat.le_refl _) _).alloc AO _
 clear HW hmf
 refine(vV (h.stay B) most (w.heap.size+1) w.heap.size AL AL e1 e2).mono ?_
 rintro r w1 ⟨rfl,hR,hS⟩
 go_wp2_with fail
 go_ret
 exact⟨rfl,hR,(Save.of B).trans hS⟩
end Go.Proofs.YtlholdllibghbaaGreat
