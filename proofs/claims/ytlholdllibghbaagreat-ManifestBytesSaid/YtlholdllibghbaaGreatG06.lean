/- Texts of the proof, one behind the other: WireGet, WireGet2, Phase. No condition but those that each names. -/
import Derived.Test.YtlholdllibghbaaGreatG05
import Derived.Laws.EntriesVeiled
import Derived.Test.YtlholdllibghbaaGreatG01
import Derived.Test.YtlholdllibghbaaGreatG00
import Derived.Test.YtlholdllibghbaaGreatKit
namespace Go.Proofs.YtlholdllibghbaaGreat
open Go Go.RowKit Go.Cit
def St.read {α:Type} (s:St) (n:Nat) (f:List UInt8→α×Bool) (z:α):α×St:=
 match s.next n with
 | (some x,s')=>if (f x).2 then ((f x).1,s') else (z,St.broke)
 | (none,s')=>(z,s')
theorem dU.stay {base top w w' b s} (h:dU base top w b s) (hb:Below w.heap.size w w'):dU base top w' b s:=by
 obtain⟨a,c,h⟩:=h;exact⟨a,c,h.stay hb⟩
theorem dU.save {S:Nat→Prop} {base top w w' b s} (h:dU base top w b s) (hs:Save S w w') (hb:S b) (ht:∀g,base≤g→g<top→S g):dU base top w' b s:=by
 obtain⟨a,c,h⟩:=h;exact⟨a,c,h.save hs hb (fun hl g hg=>ht g (h.off hl g hg).2.1 (h.off hl g hg).2.2)⟩
theorem yM {l:List UInt8} {e:Int} {n:Nat} (h:e=0→l.length<n):St.next ⟨l,e⟩ n=(none,St.breaks ⟨l,e⟩):=by
 unfold St.next St.breaks
 by_cases he:e=0
 ·simp[he,Nat.not_le.2 (h he)]
 ·simp[he]
theorem oH {l:List UInt8} {n:Nat} (h:n≤l.length):St.next ⟨l,0⟩ n=(some (l.take n),⟨l.drop n,0⟩):=by
 unfold St.next
 simp[h]
theorem pR {α:Type} {l:List UInt8} {e:Int} {n:Nat} {f:List UInt8→α×Bool} {z:α} (h:e=0→l.length<n):St.read ⟨l,e⟩ n f z=(z,St.breaks ⟨l,e⟩):=by
 rw[St.read,yM h]
theorem mZ {α:Type} {l:List UInt8} {n:Nat} {f:List UInt8→α×Bool} {z:α} (h:n≤l.length) (hf:(f (l.take n)).2=true):St.read ⟨l,0⟩ n f z=((f (l.take n)).1,⟨l.drop n,0⟩):=by
 rw[St.read,oH h];simp[hf]
theorem vC {α:Type} {l:List UInt8} {n:Nat} {f:List UInt8→α×Bool} {z:α} (h:n≤l.length) (hf:(f (l.take n)).2=false):St.read ⟨l,0⟩ n f z=(z,St.broke):=by
 rw[St.read,oH h];simp[hf]
def qF (x:UInt64):Int:=wrap64 (x.toNat:Int)
def jW (x:List UInt8):Int×Bool:=(qF (dS x),true)
def iJ (x:List UInt8):Bool×Bool:=(x.getD 0 0==bI 1,decide ((x.getD 0 0).toNat≤1))
def ny (x:List UInt8):Int×Bool:=(((dS x).toNat:Int),decide ((dS x).toNat≤65536))
theorem wX {l:List UInt8} {n:Nat} (h:l.length=n):gX l 0 n=(dS l,true):=by
 rw[gX,if_pos AL]
 simp[List.take_of_length_le (Nat.le_of_eq h)]
theorem QI (w:World) {a:Option Addr} {X:List UInt8} {c:Nat} (r:Row w a X c) (h:X.length=1):
 Calls Tryz.prog 209 #[.slice a X.length c] w fun e w'=>e= .returned (.tuple #[.bool (iJ X).1, .bool (iJ X).2])∧Below w.heap.size w w':=by
 have h0:0<X.length:=by omega
 have i0:=r.index bt.slice bt.sz 0 h0
 have e0:=r.cell 0 h0
 rw[show((0:Nat):Int)=0 from rfl] at i0
 have HE:Hid (iJ X=(X[0]==bI 1,decide (X[0].toNat≤1))):=by rw[Hid,iJ];simp[List.getD,h0]
 clear h
 go_enter Tryz.func209,Tryz.ntmps209
 go_wp2_with fail
 have ec:∀n,(w.drewN n).cell? (ad a 0)=some (vb X[0]):=fun _=>e0
 go_quiet (fail)
 go_wp2_with fail
 go_ret2
 refine⟨?_,below_drewN _ _ _⟩
 rw[HE.o]
 have:decide ((X[0].toNat:Int)≤1)=decide (X[0].toNat≤1):=decide_eq_decide.2 AL
 first |rfl |(rw[←this];rfl)
theorem Rw (w:World) {a:Option Addr} {X:List UInt8} {c:Nat} (r:Row w a X c) (h:X.length=8):
 Calls Tryz.prog 129 #[.slice a X.length c] w fun e w'=>e= .returned (.tuple #[.int .i64 (jW X).1, .bool (jW X).2])∧Below w.heap.size w w':=by
 have hk:=uY w _ _ _ 0 r
 rw[wX h] at hk
 clear h
 go_enter Tryz.func129,Tryz.ntmps129
 go_wp2_with fail
 refine Calls.mono hk ?_
 rintro e w1 ⟨rfl,hw⟩
 subst hw
 go_wp2_with fail
 go_ret2
 exact⟨rfl,Below.refl _ _⟩
theorem Rq (w:World) {a:Option Addr} {X:List UInt8} {c:Nat} (r:Row w a X c) (h:X.length=4):
 Calls Tryz.prog 140 #[.slice a X.length c] w fun e w'=>e= .returned (.tuple #[.int .i64 (ny X).1, .bool (ny X).2])∧Below w.heap.size w w':=by
 have hk:=vO w _ _ _ 0 r
 rw[wX h] at hk
 have hlt:(dS X).toNat<4294967296:=QK X 4 AL AP
 have hq:((sK (dS X)).toNat:Int)=((dS X).toNat:Int):=by
  unfold sK;rw[UInt64.toNat_toUInt32];omega
 clear h
 have HQ:=AQ hq
 generalize sK (dS X)=q at hk HQ hq
 have hq2:(q.toNat:Int)<4294967296:=by have:=q.toNat_lt;omega
 clear hq
 go_enter Tryz.func140,Tryz.ntmps140
 go_wp2_with fail
 refine Calls.mono hk ?_
 rintro e w1 ⟨rfl,hw⟩
 subst hw
 go_wp2_with fail
 go_ret2
 refine⟨?_,Below.refl _ _⟩
 rw[ny,←HQ.o]
 have e1:IntKind.i64.wrap (q.toNat:Int)=q.toNat:=IntWalk.i64_in _ AL
 have e2:decide ((q.toNat:Int)≤65536)=decide ((dS X).toNat≤65536):=decide_eq_decide.2 (by have:=HQ.o;omega)
 first |rfl |(rw[←e2];rfl) |(rw[←e2];simp[e1])
theorem KR {base top w b a l c e} (h:Rd base top w b a l c e):
 Calls Tryz.prog 128 #[.pointer (some ⟨b,0,none⟩), .int .i64 8, .func (.func 129) #[] #[]] w fun r w'=>r= .returned (.int .i64 (St.read ⟨l,e⟩ 8 jW 0).1)∧dU base top w' b (St.read ⟨l,e⟩ 8 jW 0).2∧Save (· ≠b) w w':=by
 by_cases hy:e=0∧8≤l.length
 ·obtain⟨rfl,hn⟩:=hy
  have hk:=oz h 8 hn
  have HN:=AQ hn
  rw[show((8:Nat):Int)=8 from rfl] at hk
  go_enter Tryz.func128,Tryz.ntmps128
  go_wp2_with fail
  refine Calls.mono hk ?_
  rintro r w1 ⟨a1,X,c1,HX,rfl,r1,hR,hS⟩
  have hX:X.length=8:=by rw[HX.o,List.length_take];omega
  have hi:=Rw w1 r1 hX
  clear hX hk hn
  go_wp2_with fail
  refine Calls.mono hi ?_
  rintro r w2 ⟨rfl,hb2⟩
  replace hR:=dU.stay hR hb2
  replace hS:=hS.trans (Save.of hb2)
  cases hok:(jW X).2
  ·have HR:Hid (St.read ⟨l,0⟩ 8 jW 0=(0,St.broke)):=vC HN.o (by rw[←HX.o];exact hok)
   obtain⟨a2,c2,hR⟩:=hR
   go_wp2_with fail
   refine(jo hR).mono ?_
   rintro r w3 ⟨rfl,hR3,hS3⟩
   go_wp2_with fail
   go_ret
   rw[HR.o]
   exact⟨rfl,hR3,hS.trans hS3⟩
  ·have HR:Hid (St.read ⟨l,0⟩ 8 jW 0=((jW X).1,⟨l.drop 8,0⟩)):=by rw[Hid,HX.o];exact mZ HN.o (by rw[←HX.o];exact hok)
   go_wp2_with fail
   go_ret
   rw[HR.o]
   exact⟨rfl,hR,hS⟩
 ·have hno:e=0→(l.length:Int)<8:=fun he=>by have:=fun h=>hy ⟨he,h⟩;omega
  have hk:=rU h 8 hno
  have HR:Hid (St.read ⟨l,e⟩ 8 jW 0=(0,St.breaks ⟨l,e⟩)):=pR (fun he=>by have:=hno he;omega)
  clear hno hy
  go_enter Tryz.func128,Tryz.ntmps128
  go_wp2_with fail
  refine Calls.mono hk ?_
  rintro r w1 ⟨rfl,hR,hS⟩
  go_wp2_with fail
  go_ret
  rw[HR.o]
  exact⟨rfl,hR,hS⟩
theorem Jy {base top w b a l c e} (h:Rd base top w b a l c e):
 Calls Tryz.prog 57 #[.pointer (some ⟨b,0,none⟩)] w fun r w'=>r= .returned (.int .i64 (St.read ⟨l,e⟩ 8 jW 0).1)∧dU base top w' b (St.read ⟨l,e⟩ 8 jW 0).2∧Save (· ≠b) w w':=by
 go_enter Tryz.func57,Tryz.ntmps57
 go_wp2_with fail
 refine(KR h).mono ?_
 rintro r w1 ⟨rfl,hR,hS⟩
 go_wp2_with fail
 go_ret
 exact⟨rfl,hR,hS⟩
theorem Jp {base top w b a l c e} (h:Rd base top w b a l c e):
 Calls Tryz.prog 208 #[.pointer (some ⟨b,0,none⟩), .int .i64 1, .func (.func 209) #[] #[]] w fun r w'=>r= .returned (.bool (St.read ⟨l,e⟩ 1 iJ false).1)∧dU base top w' b (St.read ⟨l,e⟩ 1 iJ false).2∧Save (· ≠b) w w':=by
 by_cases hy:e=0∧1≤l.length
 ·obtain⟨rfl,hn⟩:=hy
  have hk:=oz h 1 hn
  have HN:=AQ hn
  rw[show((1:Nat):Int)=1 from rfl] at hk
  go_enter Tryz.func208,Tryz.ntmps208
  go_wp2_with fail
  refine Calls.mono hk ?_
  rintro r w1 ⟨a1,X,c1,HX,rfl,r1,hR,hS⟩
  have hX:X.length=1:=by rw[HX.o,List.length_take];omega
  have hi:=QI w1 r1 hX
  clear hX hk hn
  go_wp2_with fail
  refine Calls.mono hi ?_
  rintro r w2 ⟨rfl,hb2⟩
  replace hR:=dU.stay hR hb2
  replace hS:=hS.trans (Save.of hb2)
  cases hok:(iJ X).2
  ·have HR:Hid (St.read ⟨l,0⟩ 1 iJ false=(false,St.broke)):=vC HN.o (by rw[←HX.o];exact hok)
   obtain⟨a2,c2,hR⟩:=hR
   go_wp2_with fail
   refine(jo hR).mono ?_
   rintro r w3 ⟨rfl,hR3,hS3⟩
   go_wp2_with fail
   go_ret
   rw[HR.o]
   exact⟨rfl,hR3,hS.trans hS3⟩
  ·have HR:Hid (St.read ⟨l,0⟩ 1 iJ false=((iJ X).1,⟨l.drop 1,0⟩)):=by rw[Hid,HX.o];exact mZ HN.o (by rw[←HX.o];exact hok)
   go_wp2_with fail
   go_ret
   rw[HR.o]
   exact⟨rfl,hR,hS⟩
 ·have hno:e=0→(l.length:Int)<1:=fun he=>by have:=fun h=>hy ⟨he,h⟩;omega
  have hk:=rU h 1 hno
  have HR:Hid (St.read ⟨l,e⟩ 1 iJ false=(false,St.breaks ⟨l,e⟩)):=pR (fun he=>by have:=hno he;omega)
  clear hno hy
  go_enter Tryz.func208,Tryz.ntmps208
  go_wp2_with fail
  refine Calls.mono hk ?_
  rintro r w1 ⟨rfl,hR,hS⟩
  go_wp2_with fail
  go_ret
  rw[HR.o]
  exact⟨rfl,hR,hS⟩
theorem FD {base top w b a l c e} (h:Rd base top w b a l c e):
 Calls Tryz.prog 137 #[.pointer (some ⟨b,0,none⟩)] w fun r w'=>r= .returned (.bool (St.read ⟨l,e⟩ 1 iJ false).1)∧dU base top w' b (St.read ⟨l,e⟩ 1 iJ false).2∧Save (· ≠b) w w':=by
 go_enter Tryz.func137,Tryz.ntmps137
 go_wp2_with fail
 refine(Jp h).mono ?_
 rintro r w1 ⟨rfl,hR,hS⟩
 go_wp2_with fail
 go_ret
 exact⟨rfl,hR,hS⟩
theorem KG {base top w b a l c e} (h:Rd base top w b a l c e):
 Calls Tryz.prog 128 #[.pointer (some ⟨b,0,none⟩), .int .i64 4, .func (.func 140) #[] #[]] w fun r w'=>r= .returned (.int .i64 (St.read ⟨l,e⟩ 4 ny 0).1)∧dU base top w' b (St.read ⟨l,e⟩ 4 ny 0).2∧Save (· ≠b) w w':=by
 by_cases hy:e=0∧4≤l.length
 ·obtain⟨rfl,hn⟩:=hy
  have hk:=oz h 4 hn
  have HN:=AQ hn
  rw[show((4:Nat):Int)=4 from rfl] at hk
  go_enter Tryz.func128,Tryz.ntmps128
  go_wp2_with fail
  refine Calls.mono hk ?_
  rintro r w1 ⟨a1,X,c1,HX,rfl,r1,hR,hS⟩
  have hX:X.length=4:=by rw[HX.o,List.length_take];omega
  have hi:=Rq w1 r1 hX
  clear hX hk hn
  go_wp2_with fail
  refine Calls.mono hi ?_
  rintro r w2 ⟨rfl,hb2⟩
  replace hR:=dU.stay hR hb2
  replace hS:=hS.trans (Save.of hb2)
  cases hok:(ny X).2
  ·have HR:Hid (St.read ⟨l,0⟩ 4 ny 0=(0,St.broke)):=vC HN.o (by rw[←HX.o];exact hok)
   obtain⟨a2,c2,hR⟩:=hR
   go_wp2_with fail
   refine(jo hR).mono ?_
   rintro r w3 ⟨rfl,hR3,hS3⟩
   go_wp2_with fail
   go_ret
   rw[HR.o]
   exact⟨rfl,hR3,hS.trans hS3⟩
  ·have HR:Hid (St.read ⟨l,0⟩ 4 ny 0=((ny X).1,⟨l.drop 4,0⟩)):=by rw[Hid,HX.o];exact mZ HN.o (by rw[←HX.o];exact hok)
   go_wp2_with fail
   go_ret
   rw[HR.o]
   exact⟨rfl,hR,hS⟩
 ·have hno:e=0→(l.length:Int)<4:=fun he=>by have:=fun h=>hy ⟨he,h⟩;omega
  have hk:=rU h 4 hno
  have HR:Hid (St.read ⟨l,e⟩ 4 ny 0=(0,St.breaks ⟨l,e⟩)):=pR (fun he=>by have:=hno he;omega)
  clear hno hy
  go_enter Tryz.func128,Tryz.ntmps128
  go_wp2_with fail
  refine Calls.mono hk ?_
  rintro r w1 ⟨rfl,hR,hS⟩
  go_wp2_with fail
  go_ret
  rw[HR.o]
  exact⟨rfl,hR,hS⟩
open Go Go.RowKit Go.Cit
def fAll (x:List UInt8):List UInt8×Bool:=(x,true)
def Got (base top:Nat) (w:World) (b:Nat) (p:List UInt8×St) (r:Ending) (w':World):Prop:=
 ∃a' X c',Hid (X=p.1)∧r= .returned (.slice a' X.length c')∧Mine w.heap.size w' a' X c'∧dU base top w' b p.2∧Save (· ≠b) w w'
theorem Rn (w:World) {a:Option Addr} {X:List UInt8} {c:Nat} (r:Row w a X c) (h:X.length≤300000000):
 Calls Tryz.prog 144 #[.slice a X.length c] w fun e w'=>∃a' Y c',Hid (Y=X)∧e= .returned (.tuple #[.slice a' Y.length c', .bool true])∧Mine w.heap.size w' a' Y c'∧Below w.heap.size w w':=by
 go_enter Tryz.func144,Tryz.ntmps144
 go_wp2_with fail
 refine(UG (uq _ _ r AL)).mono ?_
 rintro e w2 ⟨a2,Y,c2,HY,rfl,hm2,hb2⟩
 go_wp2_with fail
 go_ret2
 exact⟨a2,Y,c2,HY,rfl,hm2,hb2⟩
theorem KN {base top w b a l c e} (h:Rd base top w b a l c e) (n:Nat):
 Calls Tryz.prog 143 #[.pointer (some ⟨b,0,none⟩), .int .i64 n, .func (.func 144) #[] #[]] w (Got base top w b (St.read ⟨l,e⟩ n fAll [])):=by
 by_cases hy:e=0∧n≤l.length
 ·obtain⟨rfl,hn⟩:=hy
  have hk:=oz h n hn
  have HR:Hid (St.read ⟨l,0⟩ n fAll []=(l.take n,⟨l.drop n,0⟩)):=mZ hn rfl
  have hl:=h.len
  go_enter Tryz.func143,Tryz.ntmps143
  go_wp2_with fail
  refine Calls.mono hk ?_
  rintro r w1 ⟨a1,X,c1,HX,rfl,r1,hR,hS⟩
  have hX:X.length≤65536:=by rw[HX.o,List.length_take];omega
  have hi:=Rn w1 r1 AL
  clear hk
  go_wp2_with fail
  refine Calls.mono hi ?_
  rintro r w2 ⟨a2,Y,c2,HY,rfl,hm2,hb2⟩
  go_wp2_with fail
  go_ret
  rw[HR.o]
  exact⟨a2,Y,c2,by rw[Hid,HY.o,HX.o],rfl,hm2.low hS.size,dU.stay hR hb2,hS.trans (Save.of hb2)⟩
 ·have hno:e=0→l.length<n:=fun he=>by have:=fun h=>hy ⟨he,h⟩;omega
  have hk:=rU h n (fun he=>by have:=hno he;omega)
  have HR:Hid (St.read ⟨l,e⟩ n fAll []=([],St.breaks ⟨l,e⟩)):=pR hno
  clear hno hy
  go_enter Tryz.func143,Tryz.ntmps143
  go_wp2_with fail
  refine Calls.mono hk ?_
  rintro r w1 ⟨rfl,hR,hS⟩
  go_wp2_with fail
  go_ret
  rw[HR.o]
  exact⟨none,[],0,rfl,rfl,Mine.nil _ _,hR,hS⟩
def St.bytes (s:St):List UInt8×St:=
 if (s.read 4 ny 0).2.e=0 then (s.read 4 ny 0).2.read (s.read 4 ny 0).1.toNat fAll [] else ([],(s.read 4 ny 0).2)
theorem Nk (s:St):∃m:Nat,(s.read 4 ny 0).1=(m:Int):=by
 unfold St.read
 split
 ·split
  ·exact⟨_,rfl⟩
  ·exact⟨0,rfl⟩
 ·exact⟨0,rfl⟩
theorem Ef {base top w b a l c e} (h:Rd base top w b a l c e):
 Calls Tryz.prog 60 #[.pointer (some ⟨b,0,none⟩)] w (Got base top w b (St.bytes ⟨l,e⟩)):=by
 have hk:=KG h
 obtain⟨m,hm⟩:=Nk ⟨l,e⟩
 rw[hm] at hk
 obtain⟨s,hs⟩:=AU ((St.read ⟨l,e⟩ 4 ny 0).2)
 rw[←hs.o] at hk
 have HB:Hid (St.bytes ⟨l,e⟩=if s.e=0 then s.read m fAll [] else ([],s)):=by rw[Hid,St.bytes,←hs.o,hm];rfl
 clear hm hs
 go_enter Tryz.func60,Tryz.ntmps60
 go_wp2_with fail
 refine Calls.mono hk ?_
 rintro r w1 ⟨rfl,⟨a1,c1,hR⟩,hS⟩
 clear hk
 go_wp2_with fail
 refine(ku hR).mono ?_
 rintro r w2 ⟨rfl,rfl⟩
 by_cases he:s.e=0
 ·have ge:(s.e==0)=true:=by rw[he];rfl
  have HB2:Hid (St.bytes ⟨l,e⟩=s.read m fAll []):=by rw[Hid,HB.o,if_pos he]
  clear he HB
  go_wp2_with fail
  refine(KN hR m).mono ?_
  rintro r w3 ⟨a3,X,c3,HX,rfl,hm3,hR3,hS3⟩
  go_wp2_with fail
  go_ret
  exact⟨a3,X,c3,by rw[Hid,HX.o,HB2.o],rfl,hm3.low hS.size,by rw[HB2.o];exact hR3,hS.trans hS3⟩
 ·have ge:(s.e==0)=false:=by simpa using he
  have HB2:Hid (St.bytes ⟨l,e⟩=([],s)):=by rw[Hid,HB.o,if_neg he]
  clear he HB
  go_wp2_with fail
  go_ret
  exact⟨none,[],0,by rw[Hid,HB2.o],rfl,Mine.nil _ _,by rw[HB2.o];exact⟨a1,c1,hR⟩,hS⟩
def St.count (s:St) (most:Int):Int×St:=
 match s.next 8 with
 | (some x,s')=>if 0≤qF (dS x)∧qF (dS x)≤most∧qF (dS x)≤(s'.l.length:Int) then (qF (dS x),s') else (0,St.broke)
 | (none,s')=>(0,s')
theorem Np {a b:Int} {s t:Bool} (h:a=b) (k:s=t):Ending.returned (.tuple #[.int .i64 a, .bool s])= .returned (.tuple #[.int .i64 b, .bool t]):=by rw[h,k]
theorem Ou {base top w b a l c e} (h:Rd base top w b a l c e) (most:Int) (g1 g2:Nat) (h1:w.cell? ⟨g1,0,none⟩=some (.int .i64 most)) (h2:w.cell? ⟨g2,0,none⟩=some (.pointer (some ⟨b,0,none⟩))) {a':Option Addr} {X:List UInt8} {c':Nat} (r:Row w a' X c') (hX:X.length=8):
 Calls Tryz.prog 222 #[.slice a' X.length c', .pointer (some ⟨g1,0,none⟩), .pointer (some ⟨g2,0,none⟩)] w fun r w'=>r= .returned (.tuple #[.int .i64 (qF (dS X)), .bool (decide (0≤qF (dS X)) && decide (qF (dS X)≤min most (l.length:Int)))])∧Below w.heap.size w w':=by
 have hk:=uY w _ _ _ 0 r
 rw[wX hX] at hk
 have c0:=h.c0
 have c0':∀n,(w.drewN n).cell? ⟨b,0,none⟩=some (.slice a l.length c):=fun _=>c0
 have h1':∀n,(w.drewN n).cell? ⟨g1,0,none⟩=some (.int .i64 most):=fun _=>h1
 have h2':∀n,(w.drewN n).cell? ⟨g2,0,none⟩=some (.pointer (some ⟨b,0,none⟩)):=fun _=>h2
 obtain⟨q,hq⟩:∃q,wrap64 ((dS X).toNat:Int)=q:=⟨_,rfl⟩
 rw[show qF (dS X)=q from hq]
 clear hX
 go_enter Tryz.func222,Tryz.ntmps222
 go_wp2_with fail
 refine Calls.mono hk ?_
 rintro r w1 ⟨rfl,hw⟩
 subst hw
 have hl9:=h.len
 by_cases hq0:0≤q
 ·have hd:decide (0≤q)=true:=decide_eq_true hq0
  go_wp2_with fail
  go_quiet (fail)
  go_wp2_with fail
  go_ret2
  refine⟨Np hq ?_,below_drewN _ _ _⟩
  simp[hd]
 ·have hd:decide (0≤q)=false:=decide_eq_false hq0
  go_wp2_with fail
  go_quiet (fail)
  go_wp2_with fail
  go_ret2
  refine⟨Np hq ?_,below_drewN _ _ _⟩
  simp[hd]
theorem MP {l:List UInt8} {most:Int} (h:8≤l.length) (hf:(decide (0≤qF (dS (l.take 8))) && decide (qF (dS (l.take 8))≤min most ((l.drop 8).length:Int)))=true):St.count ⟨l,0⟩ most=(qF (dS (l.take 8)),⟨l.drop 8,0⟩):=by
 rw[St.count,oH h]
 simp only[Bool.and_eq_true,decide_eq_true_eq] at hf
 exact if_pos ⟨hf.1,by omega,by show _≤((l.drop 8).length:Int);omega⟩
theorem LU {l:List UInt8} {most:Int} (h:8≤l.length) (hf:(decide (0≤qF (dS (l.take 8))) && decide (qF (dS (l.take 8))≤min most ((l.drop 8).length:Int)))=false):St.count ⟨l,0⟩ most=(0,St.broke):=by
 rw[St.count,oH h]
 simp only[Bool.and_eq_false_iff,decide_eq_false_iff_not] at hf
 exact if_neg (fun hc=>by
  obtain⟨a1,a2,a3⟩:=hc
  have a4:qF (dS (l.take 8))≤((l.drop 8).length:Int):=a3
  rcases hf with h |h<;>omega)
theorem Ol {l:List UInt8} {e most:Int} (h:e=0→l.length<8):St.count ⟨l,e⟩ most=(0,St.breaks ⟨l,e⟩):=by
 rw[St.count,yM h]
theorem Hr {base top w b a l c e} (h:Rd base top w b a l c e) (most:Int) (g1 g2:Nat) (n1:g1≠b) (n2:g2≠b) (h1:w.cell? ⟨g1,0,none⟩=some (.int .i64 most)) (h2:w.cell? ⟨g2,0,none⟩=some (.pointer (some ⟨b,0,none⟩))):
 Calls Tryz.prog 128 #[.pointer (some ⟨b,0,none⟩), .int .i64 8, .func (.func 222) #[] #[.pointer (some ⟨g1,0,none⟩), .pointer (some ⟨g2,0,none⟩)]] w fun r w'=>r= .returned (.int .i64 (St.count ⟨l,e⟩ most).1)∧dU base top w' b (St.count ⟨l,e⟩ most).2∧Save (· ≠b) w w':=by
 have lt1:=World.block_lt_of_cell? w _ h1
 have lt2:=World.block_lt_of_cell? w _ h2
 by_cases hy:e=0∧8≤l.length
 ·obtain⟨rfl,hn⟩:=hy
  have hk:=oz h 8 hn
  have HN:=AQ hn
  rw[show((8:Nat):Int)=8 from rfl] at hk
  go_enter Tryz.func128,Tryz.ntmps128
  go_wp2_with fail
  refine Calls.mono hk ?_
  rintro r w1 ⟨a1,X,c1,HX,rfl,r1,⟨a2,c2,hR⟩,hS⟩
  have hX:X.length=8:=by rw[HX.o,List.length_take];omega
  have hi:=Ou hR most g1 g2 ((hS.cell (p:=⟨g1,0,none⟩) lt1 n1).trans h1) ((hS.cell (p:=⟨g2,0,none⟩) lt2 n2).trans h2) r1 hX
  clear hX hk hn
  obtain⟨B,hB⟩:=AU ((decide (0≤qF (dS X)) && decide (qF (dS X)≤min most ((l.drop 8).length:Int))))
  rw[←hB.o] at hi
  go_wp2_with fail
  refine Calls.mono hi ?_
  rintro r w2 ⟨rfl,hb2⟩
  have hR2:=hR.stay hb2
  replace hS:=hS.trans (Save.of hb2)
  cases hok:B
  ·have HR:Hid (St.count ⟨l,0⟩ most=(0,St.broke)):=LU HN.o (by rw[←HX.o,←hB.o];exact hok)
   go_wp2_with fail
   refine(jo hR2).mono ?_
   rintro r w3 ⟨rfl,hR3,hS3⟩
   go_wp2_with fail
   go_ret
   rw[HR.o]
   exact⟨rfl,hR3,hS.trans hS3⟩
  ·have HR:Hid (St.count ⟨l,0⟩ most=(qF (dS X),⟨l.drop 8,0⟩)):=by rw[Hid,HX.o];exact MP HN.o (by rw[←HX.o,←hB.o];exact hok)
   go_wp2_with fail
   go_ret
   rw[HR.o]
   exact⟨rfl,⟨a2,c2,hR2⟩,hS⟩
 ·have hno:e=0→(l.length:Int)<8:=fun he=>by have:=fun h=>hy ⟨he,h⟩;omega
  have hk:=rU h 8 hno
  have HR:Hid (St.count ⟨l,e⟩ most=(0,St.breaks ⟨l,e⟩)):=Ol (fun he=>by have:=hno he;omega)
  clear hno hy
  go_enter Tryz.func128,Tryz.ntmps128
  go_wp2_with fail
  refine Calls.mono hk ?_
  rintro r w1 ⟨rfl,hR,hS⟩
  go_wp2_with fail
  go_ret
  rw[HR.o]
  exact⟨rfl,hR,hS⟩
theorem ET {base top w b a l c e} (h:Rd base top w b a l c e) (most:Int):
 Calls Tryz.prog 172 #[.pointer (some ⟨b,0,none⟩), .int .i64 most] w fun r w'=>r= .returned (.int .i64 (St.count ⟨l,e⟩ most).1)∧dU base top w' b (St.count ⟨l,e⟩ most).2∧Save (· ≠b) w w':=by
 have hmf:∀(fn:Fn) (first cap:Array Value) (w:World),(Instr.makeFunc fn first cap).run Tryz.prog w= .ok (.func fn first cap) w:=fun _ _ _ _=>rfl
 have hlt:=h.lt
 go_enter Tryz.func172,Tryz.ntmps172
 go_wp2_with fail
 obtain⟨W,HW⟩:=AU ((w.alloc (Obj.cells #[.pointer (some ⟨b,0,none⟩)] 100)).alloc (Obj.cells #[.int .i64 most] 3))
 rw[←HW.o]
 have e1:W.cell? ⟨w.heap.size+1,0,none⟩=some (.int .i64 most):=by rw[HW.o];simp
 have e2:W.cell? ⟨w.heap.size,0,none⟩=some (.pointer (some ⟨b,0,none⟩)):=by rw[HW.o];simp
 have B:Below w.heap.size w W:=by rw[HW.o];exact((Below.refl _ _).alloc (Nat.le_refl _) _).alloc AO _
 clear HW hmf
 refine(Hr (h.stay B) most (w.heap.size+1) w.heap.size AL AL e1 e2).mono ?_
 rintro r w1 ⟨rfl,hR,hS⟩
 go_wp2_with fail
 go_ret
 exact⟨rfl,hR,(Save.of B).trans hS⟩
end Go.Proofs.YtlholdllibghbaaGreat
namespace Go.Cit
open Go Go.RowKit
def upd (δ:Nat→Bool) (i:Nat):Nat→Bool:=fun j=>if i=j then true else δ j
theorem upd_same (δ:Nat→Bool) (i:Nat):upd δ i i=true:=by simp[upd]
theorem aA (δ:Nat→Bool) {i j:Nat} (h:i≠j):upd δ i j=δ j:=by simp[upd,h]
def Closed (ops:Array Oper) (δ:Nat→Bool):Prop:=
 ∀(i:Nat) (o:Oper),ops[i]? =some o→δ i=true→∀e∈o.after,Region.binds .any e=true→δ e.on=true
def iq (ops:Array Oper):Nat→Nat→Nat→Bool
 | 0,_,_=>false
 |
  f+1,i,j=>match ops[i]? with
  | none=>false
  | some o=>o.after.any fun e=>Region.binds .any e && (decide (e.on=j) || iq ops f e.on j)
theorem Closed.needs {ops:Array Oper} {δ:Nat→Bool} (h:Closed ops δ):∀(f i j:Nat),iq ops f i j=true→δ i=true→δ j=true
 | 0,_,_,hn,_=>absurd hn (by simp[iq])
 |
  f+1,i,j,hn,hi=>by
  unfold iq at hn
  split at hn
  ·exact absurd hn AP
  ·rename_i o ho
   rw[Array.any_eq_true] at hn
   obtain⟨k,hk,he⟩:=hn
   rw[Bool.and_eq_true,Bool.or_eq_true,decide_eq_true_eq] at he
   have h1:=h i o ho hi _ (Array.getElem_mem hk) he.1
   rcases he.2 with h2 |h2
   ·rw[←h2];exact h1
   ·exact Closed.needs h f _ _ h2 h1
theorem Closed.yet {ops:Array Oper} {δ:Nat→Bool} (h:Closed ops δ) (f i j:Nat) (hn:iq ops f i j=true) (hj:δ j=false):δ i=false:=by
 cases hi:δ i
 ·rfl
 ·rw[h.needs f i j hn hi] at hj;exact absurd hj AP
theorem mX {ops:Array Oper} {m:Nat} (hs:jg ops m=true):∀(f i j:Nat),iq ops f i j=true→j<i
 | 0,_,_,hn=>absurd hn (by simp[iq])
 |
  f+1,i,j,hn=>by
  unfold iq at hn
  split at hn
  ·exact absurd hn AP
  ·rename_i o ho
   rw[Array.any_eq_true] at hn
   obtain⟨k,hk,he⟩:=hn
   rw[Bool.and_eq_true,Bool.or_eq_true,decide_eq_true_eq] at he
   have h1:=(bG hs ho).1 _ (Array.getElem_mem hk) he.1
   rcases he.2 with h2 |h2
   ·omega
   ·have:=mX hs f _ _ h2;omega
section
variable {P:Program} {ops:Array Oper} {Q:Exit→Act→World→Prop}
theorem KZ {C:(Nat→Bool)→World→Prop} {G:Nat→World→World→Prop} {Γ:Nat→Value→World→Prop} {a0:Act}
 (hs:jg ops a0.tmps.size=true)
 (hΓ:∀δ i j v w w',i≠j→Closed ops δ→δ j=true→δ i=false→C δ w→G i w w'→Γ j v w→Γ j v w')
 (hop:∀δ i o a w,ops[i]? =some o→δ i=false→Closed ops δ→Closed ops (upd δ i)→C δ w→fF ops a0 a→(∀e∈o.after,Region.binds .any e=true→∀p d,ops[e.on]? =some p→p.dst=some d→Γ e.on (a.tmps.getD d undef) w)→
  wpOp P ops Q i (fun a' w'=>∃v,a'=a.put o.dst v∧G i w w'∧C (upd δ i) w'∧Γ i v w') a w)
 (hend:∀δ a w,(∀i,i<ops.size→δ i=true)→C δ w→fF ops a0 a→(∀i o d,ops[i]? =some o→o.dst=some d→Γ i (a.tmps.getD d undef) w)→Q .normal a w):
 ∀(fuel:Nat) (listed:Array Bool) (δ:Nat→Bool) (a:Act) (w:World),tN listed ops.size≤fuel→listed.size=ops.size→(∀i,δ i=listed.getD i false)→Closed ops δ→C δ w→fF ops a0 a→
  (∀i o d,δ i=true→ops[i]? =some o→o.dst=some d→Γ i (a.tmps.getD d undef) w)→wpAny P .any ops Q fuel listed a w:=by
 have hready:∀(listed:Array Bool),listed.size=ops.size→Region.ready .any ops listed=[]→∀i,i<ops.size→listed.getD i false=true:=by
  intro listed hsz hr i
  induction i using Nat.strongRecOn with
  |
   ind i ih=>
   intro hi
   cases hl:listed.getD i true with
   |
    true=>
    have hi':i<listed.size:=by omega
    simpa[Array.getD,hi'] using hl
   |
    false=>
    exfalso
    have hm:i∈Region.ready .any ops listed:=by
     rw[mem_ready]
     refine⟨hl,ops[i],by simp[hi],fun e he hb=> ?_⟩
     have:=(bG hs (i:=i) (o:=ops[i]) (by simp[hi])).1 e he hb
     exact ih e.on this AL
    rw[hr] at hm
    simp at hm
 intro fuel
 induction fuel with
 |
  zero=>
  intro listed δ a w hf hsz hδ hcl hc hsame hg
  have hall:=nS (Nat.le_zero.1 hf)
  have hr:Region.ready .any ops listed=[]:=by
   apply List.eq_nil_iff_forall_not_mem.2
   intro i hi
   rw[mem_ready] at hi
   obtain⟨h0,o,ho,_⟩:=hi
   rw[hall i (Array.getElem?_eq_some_iff.1 ho).1] at h0
   simp at h0
  exact⟨hr,hend δ a w (fun i hi=>by rw[hδ];exact hready listed hsz hr i hi) hc hsame fun i o d ho hd=>hg i o d (by rw[hδ];exact hready listed hsz hr i (Array.getElem?_eq_some_iff.1 ho).1) ho hd⟩
 |
  succ fuel ih=>
  intro listed δ a w hf hsz hδ hcl hc hsame hg
  refine⟨fun hr=>hend δ a w (fun i hi=>by rw[hδ];exact hready listed hsz hr i hi) hc hsame fun i o d ho hd=>hg i o d (by rw[hδ];exact hready listed hsz hr i (Array.getElem?_eq_some_iff.1 ho).1) ho hd,fun i hi=> ?_⟩
  obtain⟨h0,o,ho,hdep⟩:=mem_ready.1 hi
  have hlt:i<ops.size:=(Array.getElem?_eq_some_iff.1 ho).1
  have hδi:δ i=false:=by
   rw[hδ]
   have hi':i<listed.size:=by omega
   simpa[Array.getD,hi'] using h0
  have hcl':Closed ops (upd δ i):=by
   intro j p hp hj e he hb
   by_cases hij:i=j
   ·subst hij
    obtain rfl:o=p:=by rw[ho] at hp;exact Option.some.inj hp
    unfold upd
    split
    ·rfl
    ·rw[hδ];exact hdep e he hb
   ·rw[aA _ hij] at hj
    have:=hcl j p hp hj e he hb
    unfold upd
    split
    ·rfl
    ·exact this
  have hgive:=hop δ i o a w ho hδi hcl hcl' hc hsame (fun e he hb p d hp hd=>hg e.on p d (by rw[hδ];exact hdep e he hb) hp hd)
  refine wpOp_mono (fun a' w' hk=> ?_) hgive
  obtain⟨v,rfl,hG,hc',hv⟩:=hk
  refine ih _ (upd δ i) _ _ ?_ (by simpa using hsz) ?_ hcl' hc' ?_ ?_
  ·have:=pI (n:=ops.size) hlt AL h0
   omega
  ·intro j
   by_cases hij:i=j
   ·subst hij
    rw[upd_same]
    have hi':i<listed.size:=by omega
    simp[hi']
   ·rw[aA _ hij,getD_set_ne false hij];exact hδ j
  ·refine⟨by rw[put_defers];exact hsame.1,by rw[iR];exact hsame.2.1,fun d hd=> ?_⟩
   rw[bH _ _ _ _ (hd i o ho)]
   exact hsame.2.2 d hd
  ·intro j p d hj hp hd
   by_cases hij:i=j
   ·subst hij
    obtain rfl:o=p:=by rw[ho] at hp;exact Option.some.inj hp
    rw[hd,dM _ _ _ (by rw[hsame.2.1];exact(bG hs ho).2.1 d hd)]
    exact hv
   ·rw[aA _ hij] at hj
    have hne:o.dst≠some d:=by
     rcases Nat.lt_or_gt_of_ne hij with h |h
     ·intro e;exact(bG hs hp).2.2 i o d ho h hd e
     ·intro e;exact(bG hs ho).2.2 j p d hp h e hd
    rw[bH _ _ _ _ hne]
    exact hΓ δ i j _ w w' hij hcl hj hδi hc hG (hg j p d hj hp hd)
def S9 (ops:Array Oper) (d j:Nat):Bool:=(List.range ops.size).all fun i=>match ops[i]? with |some o=>decide (o.dst≠some d) || decide (i=j) |none=>true
theorem Dl {ops:Array Oper} {d j:Nat} (h:S9 ops d j=true) {i:Nat} {o:Oper} (ho:ops[i]? =some o) (hd:o.dst=some d):i=j:=by
 have:=List.all_eq_true.1 h i (List.mem_range.2 (Array.getElem?_eq_some_iff.1 ho).1)
 rw[ho] at this
 simpa[hd] using this
theorem Dk (a:Act):∀(ds:List Nat) (x:Act),(ds.foldl (fun x d=>x.put (some d) (a.eval (.tmp d))) x).tmps.size=x.tmps.size∧(ds.foldl (fun x d=>x.put (some d) (a.eval (.tmp d))) x).defers=x.defers∧
 ∀d,d<x.tmps.size→(ds.foldl (fun x d=>x.put (some d) (a.eval (.tmp d))) x).tmps.getD d undef=if ds.contains d then a.tmps.getD d undef else x.tmps.getD d undef
 | [],x=>⟨rfl,rfl,fun d _=>by simp⟩
 |
  e::ds,x=>by
  obtain⟨h1,h2,h3⟩:=Dk a ds (x.put (some e) (a.eval (.tmp e)))
  refine⟨h1.trans (iR _ _ _),h2.trans (put_defers _ _ _),fun d hd=> ?_⟩
  rw[List.foldl_cons,h3 d (by rw[iR];exact hd)]
  by_cases he:e=d
  ·subst he
   rw[dM _ _ _ hd]
   simp[Act.eval]
  ·rw[bH _ _ _ _ (fun h=>he (Option.some.inj h))]
   have hne:d≠e:=fun h=>he h.symm
   simp[hne]
theorem dn {ops:Array Oper} {a0 a:Act} (h:fF ops a0 a) (ds:List Nat) (hds:((List.range a0.tmps.size).all fun d=>ds.contains d || jc ops d)=true):a=ds.foldl (fun x d=>x.put (some d) (a.eval (.tmp d))) a0:=by
 obtain⟨h1,h2,h3⟩:=Dk a ds a0
 obtain⟨g1,g2,g3⟩:=h
 have ht:a.tmps=(ds.foldl (fun x d=>x.put (some d) (a.eval (.tmp d))) a0).tmps:=by
  apply Array.ext
  ·rw[h1];exact g2
  ·intro d hd1 hd2
   have hd0:d<a0.tmps.size:=by omega
   have e:=h3 d hd0
   have e1:a.tmps.getD d undef=a.tmps[d]:=by simp[Array.getD,hd1]
   have e2:(ds.foldl (fun x d=>x.put (some d) (a.eval (.tmp d))) a0).tmps.getD d undef=(ds.foldl (fun x d=>x.put (some d) (a.eval (.tmp d))) a0).tmps[d]:=by simp[Array.getD,hd2]
   rw[←e1,←e2,e]
   by_cases hc:ds.contains d=true
   ·rw[if_pos hc]
   ·rw[if_neg hc]
    have:=List.all_eq_true.1 hds d (List.mem_range.2 hd0)
    rw[Bool.or_eq_true] at this
    rcases this with h |h
    ·exact absurd h hc
    ·refine g3 d fun i o ho hdo=> ?_
     unfold jc at h
     rw[Array.all_eq_true] at h
     obtain⟨hi,hio⟩:=Array.getElem?_eq_some_iff.1 ho
     have:=h i hi
     rw[hio] at this
     simp[hdo] at this
 have hdf:a.defers=(ds.foldl (fun x d=>x.put (some d) (a.eval (.tmp d))) a0).defers:=by rw[h2];exact g1
 generalize (ds.foldl (fun x d=>x.put (some d) (a.eval (.tmp d))) a0)=z at ht hdf
 cases a;cases z
 simp only at ht hdf
 rw[ht,hdf]
def bQ (P:Program) (post:Value→World→Prop):Result Next→Prop
 | .ok (.value v) w'=>post v w'
 | .ok .skip w'=>post undef w'
 | .ok (.enter f args) w'=>Calls P f args w' fun e w''=>∃v,e= .returned v∧post v w''
 | _=>False
structure qR (ops:Array Oper) (C:(Nat→Bool)→World→Prop) (T:Nat→Value→World→Prop) (a0:Act) (i:Nat) (o:Oper) (δ:Nat→Bool) (a:Act) (w:World):Prop where
 yet:δ i=false
 closed:Closed ops δ
 next:Closed ops (upd δ i)
 inv:C δ w
 slot:∀d,iC ops o d=true→T d (a.eval (.tmp d)) w
 old:∀d,jc ops d=true→a.eval (.tmp d)=a0.eval (.tmp d)
 lit:∀v,a.eval (.const v)=v
 fn:∀f,a.eval (.func f)= .func (.func f) #[] #[]
theorem qR.s {ops:Array Oper} {C:(Nat→Bool)→World→Prop} {T:Nat→Value→World→Prop} {a0:Act} {i:Nat} {o:Oper} {δ:Nat→Bool} {a:Act} {w:World} (h:qR ops C T a0 i o δ a w) (d:Nat) (e:iC ops o d=true:=by kernel_rfl):T d (a.eval (.tmp d)) w:=h.slot d e
theorem qR.o {ops:Array Oper} {C:(Nat→Bool)→World→Prop} {T:Nat→Value→World→Prop} {a0:Act} {i:Nat} {o:Oper} {δ:Nat→Bool} {a:Act} {w:World} (h:qR ops C T a0 i o δ a w) (d:Nat) (e:jc ops d=true:=by kernel_rfl):a.eval (.tmp d)=a0.eval (.tmp d):=h.old d e
def tyP (T:Nat→Value→World→Prop) (o:Oper):Value→World→Prop:=match o.dst with |some d=>T d |none=>fun _ _=>True
theorem fZ {T:Nat→Value→World→Prop} {o:Oper} {d:Nat} (h:o.dst=some d) (v:Value) (w:World):tyP T o v w=T d v w:=by unfold tyP;rw[h]
theorem eU {T:Nat→Value→World→Prop} {o:Oper} (h:o.dst=none) (v:Value) (w:World):tyP T o v w:=by unfold tyP;rw[h];trivial
theorem NK {a0:Act} {w:World} (C:(Nat→Bool)→World→Prop) (G:Nat→World→World→Prop) (T:Nat→Value→World→Prop)
 (hs:jg ops a0.tmps.size=true)
 (h0:∀w',Below w.heap.size w w'→w'.heap=w.heap→C (fun _=>false) w')
 (hΓ:∀δ i j o v w w',ops[j]? =some o→i≠j→Closed ops δ→δ j=true→δ i=false→C δ w→G i w w'→tyP T o v w→tyP T o v w')
 (hop:dB (fun n o=>∀δ a wx,qR ops C T a0 n o δ a wx→Wanted ops o a∧bQ P (fun v w'=>G n wx w'∧C (upd δ n) w'∧tyP T o v w') ((execOp a.eval o).run P wx)) ops.toList 0)
 (hend:∀δ a wx,(∀i,i<ops.size→δ i=true)→C δ wx→fF ops a0 a→(∀d,jc ops d=false→T d (a.eval (.tmp d)) wx)→Q .normal a wx):
 wpAny P .any ops Q ops.size (Array.replicate ops.size false) a0 {w with drawn:=w.drawn+1}:=by
 refine KZ (C:=C) (G:=G) (Γ:=fun i v wx=>∀o,ops[i]? =some o→tyP T o v wx) hs ?_ ?_ ?_ _ _ (fun _=>false) _ _ ?_ AO ?_ ?_ (h0 _ ⟨rfl,rfl,rfl,Nat.le_refl _,fun _ _=>rfl⟩ rfl) ⟨rfl,rfl,fun _ _=>rfl⟩ ?_
 ·intro δ i j v w w' hij hcl hj hi hc hG h o ho
  exact hΓ δ i j o v w w' ho hij hcl hj hi hc hG (h o ho)
 ·intro δ i o a wx ho hi hcl hcl' hc hsame hdep
  have hk:qR ops C T a0 i o δ a wx:=by
   refine⟨hi,hcl,hcl',hc,fun d hd=> ?_,fun d hd=> ?_,fun _=>rfl,fun _=>rfl⟩
   ·unfold iC at hd
    rw[Array.any_eq_true] at hd
    obtain⟨k,hk,he⟩:=hd
    rw[Bool.and_eq_true] at he
    obtain⟨hb,hp⟩:=he
    split at hp
    ·rename_i p hpp
     simp only[decide_eq_true_eq] at hp
     have:=hdep _ (Array.getElem_mem hk) hb p d hpp hp p hpp
     unfold tyP at this
     rw[hp] at this
     exact this
    ·exact absurd hp AP
   ·refine hsame.2.2 d fun j p hp hpd=> ?_
    unfold jc at hd
    rw[Array.all_eq_true] at hd
    obtain⟨hj,hjp⟩:=Array.getElem?_eq_some_iff.1 hp
    have:=hd j hj
    rw[hjp] at this
    simp[hpd] at this
  have h:=dB.get _ _ hop i o (by simpa using ho) δ a wx (by rw[Nat.zero_add];exact hk)
  unfold wpOp
  rw[ho]
  dsimp only
  rw[if_pos (show Region.wanted o (yielded ops a.tmps)=true from h.1)]
  refine Or.inl ?_
  unfold Oper.wp
  have h2:=h.2
  rw[Nat.zero_add] at h2
  generalize (execOp a.eval o).run P wx=r at h2
  have hgo:∀v w',(G i wx w'∧C (upd δ i) w'∧tyP T o v w')→∃v',a.put o.dst v=a.put o.dst v'∧G i wx w'∧C (upd δ i) w'∧∀o',some o=some o'→tyP T o' v' w':=by
   rintro v w' ⟨h1,h2,h3⟩
   refine⟨v,rfl,h1,h2,fun o' ho'=> ?_⟩
   obtain rfl:o=o':=Option.some.inj ho'
   exact h3
  match r,h2 with
  | .ok (.value v) w',h2=>exact hgo v w' h2
  | .ok .skip w',h2=>exact hgo undef w' h2
  |
   .ok (.enter f args) w',h2=>
   refine Calls.mono h2 ?_
   rintro e w'' ⟨v,rfl,hv⟩
   exact hgo v w'' hv
 ·intro δ a wx hall hc hsame hΓ
  refine hend δ a wx hall hc hsame fun d hd=> ?_
  unfold jc at hd
  rw[Array.all_eq_false] at hd
  obtain⟨j,hj,hp⟩:=hd
  have hpd:ops[j].dst=some d:=by simpa using hp
  have:=hΓ j ops[j] d (by simp[hj]) hpd ops[j] (by simp[hj])
  unfold tyP at this
  rw[hpd] at this
  exact this
 ·exact Nat.le_trans (List.length_filter_le _ _) AO
 ·intro i;simp[Array.getD]
 ·intro i o ho hi;exact absurd hi Bool.false_ne_true
 ·intro i o d hl;exact absurd hl Bool.false_ne_true
theorem jv {id:Nat} {a0:Act} {w:World} (C:(Nat→Bool)→World→Prop) (G:Nat→World→World→Prop) (T:Nat→Value→World→Prop)
 (hm:P.follows .mixedOrders=true) (hs:jg ops a0.tmps.size=true)
 (h0:∀w',Below w.heap.size w w'→w'.heap=w.heap→C (fun _=>false) w')
 (hΓ:∀δ i j o v w w',ops[j]? =some o→i≠j→Closed ops δ→δ j=true→δ i=false→C δ w→G i w w'→tyP T o v w→tyP T o v w')
 (hop:dB (fun n o=>∀δ a wx,qR ops C T a0 n o δ a wx→Wanted ops o a∧bQ P (fun v w'=>G n wx w'∧C (upd δ n) w'∧tyP T o v w') ((execOp a.eval o).run P wx)) ops.toList 0)
 (hend:∀δ a wx,(∀i,i<ops.size→δ i=true)→C δ wx→fF ops a0 a→(∀d,jc ops d=false→T d (a.eval (.tmp d)) wx)→Q .normal a wx):
 (Code.region id ops true).wp P Q a0 w:=wp_region_any hm (NK C G T hs h0 hΓ hop hend)
section
variable {P:Program} {w:World} {o:Oper} {ρ:Operand→Value} {post:Value→World→Prop}
theorem fA {v:Value} {w':World} (hr:(execOp ρ o).run P w= .ok (.value v) w') (hp:post v w'):bQ P post ((execOp ρ o).run P w):=by
 rw[hr];exact hp
theorem JJ {w':World} (hr:(execOp ρ o).run P w= .ok .skip w') (hp:post undef w'):bQ P post ((execOp ρ o).run P w):=by
 rw[hr];exact hp
theorem eH (x:Operand) (h:o.op= .move x) (hp:post (ρ x) w):bQ P post ((execOp ρ o).run P w):=by
 unfold execOp;rw[h];exact hp
theorem mQ (x:Operand) (h:o.op= .assign x) (hp:post (ρ x) w):bQ P post ((execOp ρ o).run P w):=by
 unfold execOp;rw[h];exact hp
theorem bJ {f:FuncId} {xs:Array Operand} {ts:Array TypeId} (h:o.op= .call {callee:= .value (.func f),args:=xs,argTypes:=ts}) (hf:ρ (.func f)= .func (.func f) #[] #[])
 (args:Array Value) (hcf:∀w,(callFunc f args).run P w= .ok (.enter f args) w) (ha:xs.map ρ=args) (hc:Calls P f args w fun e w''=>∃v,e= .returned v∧post v w''):bQ P post ((execOp ρ o).run P w):=by
 unfold execOp;rw[h];dsimp only;unfold resolve;dsimp only;rw[hf,ha]
 have e:args++ #[]=args:=by simp
 have e2:(invoke (.fn (.func f) #[]) args:Sem Next).run P w= .ok (.enter f args) w:=by
  unfold invoke;dsimp only;rw[e];exact hcf w
 simp only[Deferred.ofValue,Sem.run_bind,Sem.run_pure,Result.andThen,Array.empty_append,e2]
 exact hc
theorem Bh (x:Operand) (h:o.op= .nilCheck x) {a:Addr} (hx:ρ x= .pointer (some a)) (hp:post (.pointer (some a)) w):bQ P post ((execOp ρ o).run P w):=by
 refine fA (v:= .pointer (some a)) (w':=w) ?_ hp
 unfold execOp;rw[h];dsimp only;rw[hx];simp[go_sem]
theorem bF {T:TypeId} {k:Nat} (x:Operand) (h:o.op= .fieldAddr T x k) {p v:Value} (hx:ρ x=p) (hr:∀w,(Instr.fieldAt T p k).run P w= .ok v w) (hp:post v w):bQ P post ((execOp ρ o).run P w):=by
 refine fA (v:=v) (w':=w) ?_ hp
 unfold execOp;rw[h];dsimp only;rw[hx,Sem.run_bind,hr];rfl
theorem bg {T:TypeId} (x:Operand) (h:o.op= .load T x) {p v:Value} (hx:ρ x=p) (hr:(Instr.loadAt T p).run P w= .ok v w) (hp:post v w):bQ P post ((execOp ρ o).run P w):=by
 refine fA (v:=v) (w':=w) ?_ hp
 unfold execOp;rw[h];dsimp only;rw[hx,Sem.run_bind,hr];rfl
theorem FV {T:TypeId} (x y:Operand) (h:o.op= .indexAddr T x y) {p q v:Value} (hx:ρ x=p) (hy:ρ y=q) (hr:(Instr.indexAt T p q).run P w= .ok v w) (hp:post v w):bQ P post ((execOp ρ o).run P w):=by
 refine fA (v:=v) (w':=w) ?_ hp
 unfold execOp;rw[h];dsimp only;rw[hx,hy,Sem.run_bind,hr];rfl
theorem zu {T:TypeId} (x y:Operand) (h:o.op= .store T x y) {p v:Value} {w':World} (hx:ρ x=p) (hy:ρ y=v) (hr:(Instr.storeAt T p v).run P w= .ok () w') (hp:post undef w'):bQ P post ((execOp ρ o).run P w):=by
 refine JJ (w':=w') ?_ hp
 unfold execOp;rw[h];dsimp only;rw[hx,hy,Sem.run_bind,hr];rfl
theorem wS {op:BinOp} {ty u:TypeId} {x y:Operand} (h:o.op= .binOp op ty x y u) {v1 v2 v:Value} (hx:ρ x=v1) (hy:ρ y=v2)
 (hr:∀w,(do eqGuard op ty x y v1 v2;binOp op ty v1 v2:Sem Value).run P w= .ok v w) (hp:post v w):bQ P post ((execOp ρ o).run P w):=by
 refine fA (v:=v) (w':=w) ?_ hp
 unfold execOp;rw[h];dsimp only;rw[hx,hy]
 have:=hr w
 generalize (do eqGuard op ty x y v1 v2;binOp op ty v1 v2:Sem Value)=s at this
 rw[Sem.run_bind,this];rfl
theorem MX {T E:TypeId} (hBT:gW P T E) (s x:Operand) (ho:o.op= .call {callee:= .builtin .append,args:= #[s,x],argTypes:= #[T,T]}) {base:Nat}
 {a b:Option Addr} {l m:List UInt8} {cap c:Nat} (hown:Own E base w a l cap) (hm:Row w b m c) (hne:m≠ []) (hlen:l.length+m.length≤1000000000) (hbase:base≤w.heap.size)
 (hs:ρ s= .slice a l.length cap) (hx:ρ x= .slice b m.length c)
 (h:∀a' cap' w',Own E base w' a' (l++m) cap'→w.grownBy w' (blk a)→iI w.heap.size a a'→post (.slice a' (l++m).length cap') w'):bQ P post ((execOp ρ o).run P w):=by
 obtain⟨i,hi,hz0,hz1,hz2⟩:=info_parts hBT.info
 obtain⟨g,off,rfl⟩:=hm.spot hne
 obtain⟨g',cap',w',hr,hown',hgr,hat,hlt⟩:=run_append_lies (P:=P) w T o.type base E i (.int .u8 0) 1 1 hBT.slice hi hz0 hz1 hz2 rfl AP _ l.length (l.map vb) hown.row ⟨g,off,none⟩ m.length c (m.map vb) AO (Bf hm) NY (List.length_pos_iff.2 hne) (by unfold maxLen;omega) AL hbase w.heap.size rfl
 rw[fG] at hgr hat
 rw[←List.length_append,←List.map_append] at hown'
 rw[←List.length_append] at hr
 refine fA (v:= .slice (some ⟨g',0,none⟩) (l++m).length cap') (w':=w') ?_ (h (some ⟨g',0,none⟩) cap' w' ⟨hown'⟩ hgr (fun k hk=> ?_))
 ·unfold execOp
  simp only[ho,resolve,invoke,builtin,Sem.run_bind,Sem.run_pure,Result.andThen_ok,List.map_toArray,List.map_cons,List.map_nil,hs,hx,hr]
 ·simp only[blk,Option.map_some,Option.some.injEq] at hk
  subst hk
  rcases hat with h1 |h1
  ·exact .inl h1
  ·exact .inr AL
end
end
end Go.Cit
