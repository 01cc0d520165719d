/- Texts of the proof, one behind the other: Num, Row, Own, Save. No condition but those that each names. -/
import Derived.WalkKit
import Derived.Lib.Hide
import Derived.BigQuiet
import Derived.Deep.QuietTactic
import Derived.Deep.DeepMust
import Derived.Deep.DeepFit
import Derived.Deep.RegionLaw
import Derived.BigRegion
import Derived.Laws.AppendOwnNone
import Derived.Deep.AppendLies
import Derived.Test.YtlholdllibghbaaGreatKit
namespace Go.Cit
open Go
@[reducible] def vb (x:UInt8):Value:= .int .u8 (x.toNat:Int)
@[reducible] def vw (x:UInt32):Value:= .int .u32 (x.toNat:Int)
@[reducible] def vq (x:UInt64):Value:= .int .u64 (x.toNat:Int)
def nD (x y:UInt32):UInt32:=x^^^y
def lK (x y:UInt32):UInt32:=x &&& y
def LJ (x y:UInt32):UInt32:=x ||| y
def dH (x y:UInt32):UInt32:=x+y
def Tv (x y:UInt32):UInt32:=x-y
def RN (x y:UInt32):UInt32:=x*y
def Hz (x y:UInt32):UInt32:=x/y
def TI (x y:UInt32):UInt32:=x%y
def Ns (x:UInt32):UInt32:= ~~~ x
def wI (m:Int):UInt32:=UInt32.ofNat m.toNat
def SQ (x:UInt8):UInt32:=x.toUInt32
def sK (x:UInt64):UInt32:=x.toUInt32
def EK (n:Int):UInt32:=UInt32.ofNat (n%4294967296).toNat
def OB (x y:UInt64):UInt64:=x+y
def TK (x y:UInt64):UInt64:=x-y
def jV (x y:UInt64):UInt64:=x*y
def Px (x y:UInt64):UInt64:=x/y
def Nu (x y:UInt64):UInt64:=x%y
def qI (m:Int):UInt64:=UInt64.ofNat m.toNat
def NG (x:UInt8):UInt64:=x.toUInt64
def lN (x:UInt32):UInt64:=x.toUInt64
def iH (n:Int):UInt64:=UInt64.ofNat (n%18446744073709551616).toNat
def yD (x y:UInt8):UInt8:=x^^^y
def Td (x y:UInt8):UInt8:=x &&& y
def Sz (x y:UInt8):UInt8:=x ||| y
def RZ (x y:UInt8):UInt8:=x+y
def Tc (x y:UInt8):UInt8:=x/y
def TT (x y:UInt8):UInt8:=x%y
def bI (m:Int):UInt8:=UInt8.ofNat m.toNat
def TQ (x:UInt32):UInt8:=x.toUInt8
def sN (x:UInt64):UInt8:=x.toUInt8
theorem pX (n:Int):IntKind.u8.wrap n=n%256:=by
 simp[IntKind.wrap,IntKind.bits,IntKind.signed]
theorem fJ (n:Int):IntKind.u32.wrap n=n%4294967296:=by
 simp[IntKind.wrap,IntKind.bits,IntKind.signed]
theorem dI (n:Int):IntKind.u64.wrap n=n%18446744073709551616:=by
 simp[IntKind.wrap,IntKind.bits,IntKind.signed]
theorem b_lt (x:UInt8):x.toNat<256:=x.toNat_lt
theorem rH (x:UInt32):x.toNat<4294967296:=x.toNat_lt
theorem q_lt (x:UInt64):x.toNat<18446744073709551616:=x.toNat_lt
section words
variable (x y:UInt32)
theorem uw (m:Int) (h0:0≤m) (h:m<4294967296):((wI m).toNat:Int)=m:=by unfold wI;rw[UInt32.toNat_ofNat_of_lt' (show m.toNat<4294967296 by omega)];omega
theorem F5:IntKind.u32.wrap (x.toNat:Int)=x.toNat:=by rw[fJ];have:=rH x;omega
theorem jI:IntKind.u32.wrap ((x.toNat:Int)+y.toNat)=((dH x y).toNat:Int):=by
 rw[fJ,dH,UInt32.toNat_add];omega
theorem IY:IntKind.u32.wrap ((x.toNat:Int)-y.toNat)=((Tv x y).toNat:Int):=by
 rw[fJ,Tv,UInt32.toNat_sub];have:=rH x;have:=rH y;omega
theorem zW:IntKind.u32.wrap ((x.toNat:Int)*y.toNat)=((RN x y).toNat:Int):=by
 rw[fJ,RN,UInt32.toNat_mul,←Int.natCast_mul];omega
theorem o8:bits .xor .u32 (x.toNat:Int) y.toNat=((nD x y).toNat:Int):=by
 rw[u32_xor_nat _ _ (rH x) (rH y),nD,UInt32.toNat_xor]
theorem uj:bits .and .u32 (x.toNat:Int) y.toNat=((lK x y).toNat:Int):=by
 rw[u32_and_nat _ _ (rH x) (rH y),lK,UInt32.toNat_and]
theorem CX:bits .or .u32 (x.toNat:Int) y.toNat=((LJ x y).toNat:Int):=by
 rw[u32_or_nat _ _ (rH x) (rH y),LJ,UInt32.toNat_or]
theorem IJ:bits .xor .u32 IntKind.u32.max (x.toNat:Int)=((Ns x).toNat:Int):=by
 have e:IntKind.u32.max=((0xffffffff:UInt32).toNat:Int):=by decide
 have h:(0xffffffff:UInt32)^^^x= ~~~ x:=by apply UInt32.eq_of_toBitVec_eq;simp;exact BitVec.allOnes_xor
 rw[e,o8,nD,Ns,h]
theorem zT (m:Int) (h0:0≤m) (h:m<4294967296):bits .xor .u32 (x.toNat:Int) m=((nD x (wI m)).toNat:Int):=by
 rw[←o8,uw m h0 h]
theorem zN (m:Int) (h0:0≤m) (h:m<4294967296):bits .and .u32 (x.toNat:Int) m=((lK x (wI m)).toNat:Int):=by
 rw[←uj,uw m h0 h]
theorem zJ (m:Int) (h0:0≤m) (h:m<4294967296):IntKind.u32.wrap (m*(x.toNat:Int))=((RN (wI m) x).toNat:Int):=by
 rw[←zW,uw m h0 h]
theorem I8 (m:Int) (h0:0≤m) (h:m<4294967296):IntKind.u32.wrap ((x.toNat:Int).tdiv m)=((Hz x (wI m)).toNat:Int):=by
 rw[Hz,UInt32.toNat_div,Int.natCast_ediv,uw m h0 h,Int.tdiv_eq_ediv_of_nonneg AL,fJ]
 have h1:=rH x
 have h2:(x.toNat:Int)/m≤x.toNat:=Int.ediv_le_self _ AL
 have h3:0≤(x.toNat:Int)/m:=Int.ediv_nonneg AL AL
 exact Int.emod_eq_of_lt h3 (Int.lt_of_le_of_lt h2 AL)
theorem Jl (m:Int) (h0:0≤m) (h:m<4294967296):((x.toNat:Int)/m)=((Hz x (wI m)).toNat:Int):=by
 rw[Hz,UInt32.toNat_div,Int.natCast_ediv,uw m h0 h]
theorem JC (m:Int) (h0:0≤m) (h:m<4294967296):((x.toNat:Int).tmod m)=((TI x (wI m)).toNat:Int):=by
 rw[TI,UInt32.toNat_mod,Int.natCast_emod,uw m h0 h,Int.tmod_eq_emod_of_nonneg AL]
theorem TN:((x.toNat:Int)==(y.toNat:Int))=(x==y):=by
 rw[Bool.eq_iff_iff];simp only[beq_iff_eq]
 constructor
 ·intro h;exact UInt32.toNat_inj.1 AL
 ·rintro rfl;rfl
theorem OA (m:Int) (h0:0≤m) (h:m<4294967296):((x.toNat:Int)==m)=(x==wI m):=by
 rw[←TN,uw m h0 h]
theorem OU (x:UInt8):IntKind.u32.wrap (x.toNat:Int)=((SQ x).toNat:Int):=by
 rw[fJ,SQ,UInt8.toNat_toUInt32];have:=b_lt x;omega
theorem Nj (x:UInt64):IntKind.u32.wrap (x.toNat:Int)=((sK x).toNat:Int):=by
 rw[fJ,sK,UInt64.toNat_toUInt32];omega
theorem zC (n:Int):((EK n).toNat:Int)=n%4294967296:=by
 unfold EK;rw[UInt32.toNat_ofNat_of_lt' (by show _<4294967296;omega)];omega
end words
section quads
variable (x y:UInt64)
theorem xq (m:Int) (h0:0≤m) (h:m<18446744073709551616):((qI m).toNat:Int)=m:=by unfold qI;rw[UInt64.toNat_ofNat_of_lt' (show m.toNat<18446744073709551616 by omega)];omega
theorem Hy:IntKind.u64.wrap (x.toNat:Int)=x.toNat:=by rw[dI];have:=q_lt x;omega
theorem Ik:IntKind.u64.wrap ((x.toNat:Int)+y.toNat)=((OB x y).toNat:Int):=by
 rw[dI,OB,UInt64.toNat_add];omega
theorem Js:IntKind.u64.wrap ((x.toNat:Int)-y.toNat)=((TK x y).toNat:Int):=by
 rw[dI,TK,UInt64.toNat_sub];have:=q_lt x;have:=q_lt y;omega
theorem tJ:IntKind.u64.wrap ((x.toNat:Int)*y.toNat)=((jV x y).toNat:Int):=by
 rw[dI,jV,UInt64.toNat_mul,←Int.natCast_mul];omega
theorem Af (m:Int) (h0:0≤m) (h:m<18446744073709551616):IntKind.u64.wrap ((x.toNat:Int)*m)=((jV x (qI m)).toNat:Int):=by
 rw[←tJ,xq m h0 h]
theorem zh (m:Int) (h0:0≤m) (h:m<18446744073709551616):IntKind.u64.wrap (m*(x.toNat:Int))=((jV (qI m) x).toNat:Int):=by
 rw[←tJ,xq m h0 h]
theorem IX (m:Int) (h0:0≤m) (h:m<18446744073709551616):IntKind.u64.wrap ((x.toNat:Int).tdiv m)=((Px x (qI m)).toNat:Int):=by
 rw[Px,UInt64.toNat_div,Int.natCast_ediv,xq m h0 h,Int.tdiv_eq_ediv_of_nonneg AL,dI]
 have h1:=q_lt x
 have h2:(x.toNat:Int)/m≤x.toNat:=Int.ediv_le_self _ AL
 have h3:0≤(x.toNat:Int)/m:=Int.ediv_nonneg AL AL
 exact Int.emod_eq_of_lt h3 (Int.lt_of_le_of_lt h2 AL)
theorem Jw (m:Int) (h0:0≤m) (h:m<18446744073709551616):((x.toNat:Int)/m)=((Px x (qI m)).toNat:Int):=by
 rw[Px,UInt64.toNat_div,Int.natCast_ediv,xq m h0 h]
theorem IE (m:Int) (h0:0≤m) (h:m<18446744073709551616):((x.toNat:Int).tmod m)=((Nu x (qI m)).toNat:Int):=by
 rw[Nu,UInt64.toNat_mod,Int.natCast_emod,xq m h0 h,Int.tmod_eq_emod_of_nonneg AL]
theorem Uw:((x.toNat:Int)==(y.toNat:Int))=(x==y):=by
 rw[Bool.eq_iff_iff];simp only[beq_iff_eq]
 constructor
 ·intro h;exact UInt64.toNat_inj.1 AL
 ·rintro rfl;rfl
theorem OO (x:UInt8):IntKind.u64.wrap (x.toNat:Int)=((NG x).toNat:Int):=by
 rw[dI,NG,UInt8.toNat_toUInt64];have:=b_lt x;omega
theorem OV (x:UInt32):IntKind.u64.wrap (x.toNat:Int)=((lN x).toNat:Int):=by
 rw[dI,lN,UInt32.toNat_toUInt64];have:=rH x;omega
theorem lD (n:Int):((iH n).toNat:Int)=n%18446744073709551616:=by
 unfold iH;rw[UInt64.toNat_ofNat_of_lt' (by show _<18446744073709551616;omega)];omega
end quads
section bytes
variable (x y:UInt8)
theorem zO (m:Int) (h0:0≤m) (h:m<256):((bI m).toNat:Int)=m:=by unfold bI;rw[UInt8.toNat_ofNat_of_lt' (show m.toNat<256 by omega)];omega
theorem Gw:IntKind.u8.wrap (x.toNat:Int)=x.toNat:=by rw[pX];have:=b_lt x;omega
theorem Bg:IntKind.u8.wrap ((x.toNat:Int)+y.toNat)=((RZ x y).toNat:Int):=by
 rw[pX,RZ,UInt8.toNat_add];omega
theorem zB (m:Int) (h0:0≤m) (h:m<256):IntKind.u8.wrap ((x.toNat:Int)+m)=((RZ x (bI m)).toNat:Int):=by
 rw[←Bg,zO m h0 h]
theorem Jf:bits .xor .u8 (x.toNat:Int) y.toNat=((yD x y).toNat:Int):=by
 rw[u8_xor_nat _ _ (b_lt x) (b_lt y),yD,UInt8.toNat_xor]
theorem Nc:bits .or .u8 (x.toNat:Int) y.toNat=((Sz x y).toNat:Int):=by
 rw[u8_or_nat _ _ (b_lt x) (b_lt y),Sz,UInt8.toNat_or]
theorem yS (m:Int) (h0:0≤m) (h:m<256):bits .and .u8 (x.toNat:Int) m=((Td x (bI m)).toNat:Int):=by
 rw[show bits .and .u8 (x.toNat:Int) m=bits .and .u8 (x.toNat:Int) ((bI m).toNat:Int) by rw[zO m h0 h],u8_and_nat _ _ (b_lt x) (b_lt _),Td,UInt8.toNat_and]
theorem JG (m:Int) (h0:0≤m) (h:m<256):((x.toNat:Int)/m)=((Tc x (bI m)).toNat:Int):=by
 rw[Tc,UInt8.toNat_div,Int.natCast_ediv,zO m h0 h]
theorem Iw (m:Int) (h0:0≤m) (h:m<256):((x.toNat:Int).tmod m)=((TT x (bI m)).toNat:Int):=by
 rw[TT,UInt8.toNat_mod,Int.natCast_emod,zO m h0 h,Int.tmod_eq_emod_of_nonneg AL]
theorem RX:((x.toNat:Int)==(y.toNat:Int))=(x==y):=by
 rw[Bool.eq_iff_iff];simp only[beq_iff_eq]
 constructor
 ·intro h;exact UInt8.toNat_inj.1 AL
 ·rintro rfl;rfl
theorem Us:((x.toNat:Int) !=(y.toNat:Int))=(x !=y):=by
 unfold bne;rw[RX]
theorem NC (m:Int) (h0:0≤m) (h:m<256):((x.toNat:Int)==m)=(x==bI m):=by
 rw[←RX,zO m h0 h]
theorem Pg (x:UInt64):IntKind.u8.wrap (x.toNat:Int)=((sN x).toNat:Int):=by
 rw[pX,sN,UInt64.toNat_toUInt8];omega
theorem Pq (x:UInt32):IntKind.u8.wrap (x.toNat:Int)=((TQ x).toNat:Int):=by
 rw[pX,TQ,UInt32.toNat_toUInt8];omega
end bytes
attribute [go_sem] IJ F5 jI IY zW o8 uj CX TN OU Nj Hy Ik Js tJ Uw OO OV Gw Bg Jf Nc RX Us Pg Pq
attribute [go_sem low] zT zN zJ I8 Jl JC OA Af zh IX Jw IE zB yS JG Iw NC
end Go.Cit
namespace Go.Cit
open Go Go.RowKit
def ad (a:Option Addr) (i:Nat):Addr:=match a with |some x=>⟨x.block,x.off+i,none⟩ |none=>⟨0,i,none⟩
structure Row (w:World) (a:Option Addr) (l:List UInt8) (cap:Nat):Prop where
 le:l.length≤cap
 top:cap≤maxLen
 nil:a=none→cap=0
 spot:l≠ []→∃b off,a=some ⟨b,off,none⟩
 cell:∀i (h:i<l.length),w.cell? (ad a i)=some (vb l[i])
theorem Row.nil_ (w:World):Row w none [] 0:=⟨Nat.le_refl _,Nat.zero_le _,fun _=>rfl,fun h=>(h rfl).elim,fun i h=>by simp at h⟩
theorem Row.bK {w a l cap} (h:Row w a l cap):l.length≤9223372036854775807:=by
 have h1:=h.le;have h2:=h.top;unfold maxLen at h2;omega
theorem Row.blk {w a l cap} (h:Row w a l cap) {i:Nat} (hi:i<l.length):(ad a i).block<w.heap.size:=
 World.block_lt_of_cell? w _ (h.cell i hi)
theorem Row.stay {w w':World} {a l cap} (h:Row w a l cap) (hb:Below w.heap.size w w'):Row w' a l cap:=
 ⟨h.le,h.top,h.nil,h.spot,fun i hi=>(hb.cell (h.blk hi)).trans (h.cell i hi)⟩
theorem Row.drew {w:World} {a l cap} (h:Row w a l cap):Row w.drew a l cap:=
 ⟨h.le,h.top,h.nil,h.spot,fun i hi=>h.cell i hi⟩
theorem Row.drewN {w:World} {a l cap} (h:Row w a l cap) (n:Nat):Row (w.drewN n) a l cap:=
 ⟨h.le,h.top,h.nil,h.spot,fun i hi=>h.cell i hi⟩
theorem dX {k:IntKind} {a b:Int} (h:a=b):Ending.returned (.int k a)= .returned (.int k b):=by rw[h]
theorem aJ {a b:Bool} (h:a=b):Ending.returned (.bool a)= .returned (.bool b):=by rw[h]
def vS (w w':World):Prop:=∃n,w'=w.drewN n
theorem vS.refl (w:World):vS w w:=⟨0,rfl⟩
theorem vS.more {w w1:World} (h:vS w w1) (n:Nat):vS w (w1.drewN n):=by obtain⟨m,rfl⟩:=h;exact⟨m+n,by rw[World.drewN_drewN]⟩
theorem vS.trans {w w1 w2:World} (h:vS w w1) (k:vS w1 w2):vS w w2:=by obtain⟨m,rfl⟩:=k;exact h.more m
theorem vS.below {w w1:World} (h:vS w w1) (B:Nat):Below B w w1:=by obtain⟨m,rfl⟩:=h;exact⟨rfl,rfl,rfl,Nat.le_refl _,fun _ _=>rfl⟩
theorem vS.row {w w1:World} (h:vS w w1) {a l cap} (r:Row w a l cap):Row w1 a l cap:=by obtain⟨m,rfl⟩:=h;exact r.drewN m
theorem below_drewN (B:Nat) (w:World) (n:Nat):Below B w (w.drewN n):=⟨rfl,rfl,rfl,Nat.le_refl _,fun _ _=>rfl⟩
theorem Row.sub {w a l cap} (h:Row w a l cap) (lo hi mx:Nat) (h1:lo≤hi) (h2:hi≤l.length) (h3:hi≤mx) (h4:mx≤cap):Row w (if mx=lo then a else a.map (·.add (lo*1))) ((l.take hi).drop lo) (mx-lo):=by
 have hlen:((l.take hi).drop lo).length=hi-lo:=by rw[List.length_drop,List.length_take];omega
 have htop:=h.top
 refine⟨by omega,by omega,fun hn=> ?_,fun hne=> ?_,fun i hi'=> ?_⟩
 ·have hn':a=none:=by
   split at hn
   ·exact hn
   ·simpa using hn
  have:=h.nil hn'
  omega
 ·have hlt:lo<hi:=by
   rcases Nat.lt_or_ge lo hi with h |h
   ·exact h
   ·exact absurd (List.eq_nil_of_length_eq_zero AL) hne
  obtain⟨b,off,rfl⟩:=h.spot (by intro h0;simp[h0] at h2;omega)
  rw[if_neg AL]
  refine⟨b,off+lo, ?_⟩
  by_cases h0:lo=0
  ·subst h0;simp[Addr.add]
  ·simp[Addr.add,h0]
 ·rw[hlen] at hi'
  have hl:lo+i<l.length:=by omega
  obtain⟨b,off,rfl⟩:=h.spot (by intro h0;simp[h0] at hl)
  rw[if_neg AL]
  have hc:=h.cell (lo+i) hl
  have e:ad (Option.map (·.add (lo*1)) (some (⟨b,off,none⟩:Addr))) i=ad (some ⟨b,off,none⟩) (lo+i):=by
   by_cases h0:lo=0
   ·subst h0;simp[Addr.add,ad]
   ·simp[Addr.add,ad,h0,Nat.add_assoc]
  rw[e,hc]
  simp
section
variable {P:Program} {T E:TypeId} (hT:P.underlying T=some (.slice E)) (hE:∀w,(sizeOf E).run P w= .ok 1 w)
include hT hE
theorem Row.index {w a l cap} (h:Row w a l cap) (i:Nat) (hi:i<l.length):
 ∀w,(Instr.indexAt T (.slice a l.length cap) (.int .i64 (i:Int))).run P w= .ok (.pointer (some (ad a i))) w:=by
 intro w
 obtain⟨b,off,rfl⟩:=h.spot (by intro h0;simp[h0] at hi)
 have he:P.elem T=E:=by simp[Program.elem,hT]
 rw[run_indexAt_slice w T _ _ _ _ _ (by rw[he];exact hT),if_pos AL,he,hE]
 simp only[Result.andThen,ad,Addr.add]
 by_cases h0:i=0
 ·subst h0;simp
 ·simp[h0]
theorem Row.from_ {w a l cap} (h:Row w a l cap) (lo:Nat) (h1:lo≤l.length):∃a' m cap',m=l.drop lo∧
 (∀w,(Instr.sliceAt T (.slice a l.length cap) (some (.int .i64 (lo:Int))) none none).run P w= .ok (.slice a' m.length cap') w)∧Row w a' m cap':=by
 have he:P.elem T=E:=by simp[Program.elem,hT]
 refine⟨_,_,_,rfl,fun w=> ?_,by simpa using h.sub lo l.length cap h1 (Nat.le_refl _) h.le (Nat.le_refl _)⟩
 rw[run_sliceAt_slice _ _ _ _ _ _ (by rw[he];exact hT),run_slice_l w T a _ _ (by rw[he];exact hT) .i64 lo AL AL,he,hE]
 simp[Result.andThen,sliced]
theorem Row.upto {w a l cap} (h:Row w a l cap) (hi:Nat) (h1:hi≤l.length):∃a' m cap',m=l.take hi∧
 (∀w,(Instr.sliceAt T (.slice a l.length cap) none (some (.int .i64 (hi:Int))) none).run P w= .ok (.slice a' m.length cap') w)∧Row w a' m cap':=by
 have he:P.elem T=E:=by simp[Program.elem,hT]
 have hle:=h.le
 refine⟨_,_,_,rfl,fun w=> ?_,by simpa using h.sub 0 hi cap (Nat.zero_le _) h1 AL (Nat.le_refl _)⟩
 rw[run_sliceAt_slice _ _ _ _ _ _ (by rw[he];exact hT),run_slice_h w T a _ _ (by rw[he];exact hT) .i64 hi AL AL,he,hE]
 simp[Result.andThen,sliced]
 omega
theorem Row.part {w a l cap} (h:Row w a l cap) (lo hi:Nat) (h0:lo≤hi) (h1:hi≤l.length):∃a' m cap',m=(l.take hi).drop lo∧
 (∀w,(Instr.sliceAt T (.slice a l.length cap) (some (.int .i64 (lo:Int))) (some (.int .i64 (hi:Int))) none).run P w= .ok (.slice a' m.length cap') w)∧Row w a' m cap':=by
 have he:P.elem T=E:=by simp[Program.elem,hT]
 have hle:=h.le
 refine⟨_,_,_,rfl,fun w=> ?_,h.sub lo hi cap h0 h1 AL (Nat.le_refl _)⟩
 rw[run_sliceAt_slice _ _ _ _ _ _ (by rw[he];exact hT),run_slice_lh w T a _ _ (by rw[he];exact hT) .i64 .i64 lo hi AL AL AL,he,hE]
 simp[Result.andThen,sliced]
 omega
end
end Go.Cit
namespace Go.Cit
open Go Go.RowKit
structure gW (P:Program) (T E:TypeId):Prop where
 slice:P.underlying T=some (.slice E)
 sz:∀w,(sizeOf E).run P w= .ok 1 w
 info:(P.info? E).map (fun i=>(i.zero,i.size,i.bytes))=some (some (.int .u8 0),1,1)
structure Own (E base:Nat) (w:World) (a:Option Addr) (l:List UInt8) (cap:Nat):Prop where
 row:w.ownsRow base E 1 (.slice a l.length cap) l.length (l.map vb)
def blk (a:Option Addr):Option Nat:=a.map (·.block)
theorem fG (a:Option Addr) (n c:Nat):(Value.slice a n c).ownBlock=blk a:=by cases a<;>rfl
theorem Own.nil (E base:Nat) (w:World):Own E base w none [] 0:=⟨World.ownsRow_nil w base E 1⟩
theorem Own.form {E base w a l cap} (h:Own E base w a l cap):(a=none∧l=[]∧cap=0)∨
 ∃g cur,a=some ⟨g,0,none⟩∧base≤g∧w.heap[g]? =some (.cells cur E (0,0))∧l.length≤cap∧cap≤maxLen∧cur.size=cap∧cur.toList.take l.length=l.map vb:=by
 rcases h.row.2 with⟨hv,hn⟩ |⟨g,c,cur,hv,hb,hg,hle,hm,hs,ht⟩
 ·injection hv with h1 h2 h3
  exact .inl ⟨h1,List.eq_nil_of_length_eq_zero hn,h3⟩
 ·injection hv with h1 h2 h3
  subst h3
  exact .inr ⟨g,cur,h1,hb,hg,hle,hm,by simpa using hs,by simpa using ht⟩
theorem Own.isRow {E base w a l cap} (h:Own E base w a l cap):Row w a l cap:=by
 rcases h.form with⟨rfl,rfl,rfl⟩ |⟨g,cur,rfl,hb,hg,hle,hm,hs,ht⟩
 ·exact Row.nil_ w
 ·refine⟨hle,hm,fun h=>by simp at h,fun _=>⟨g,0,rfl⟩,fun i hi=> ?_⟩
  have e1:(cur.toList.take l.length)[i]? =some (vb l[i]):=by rw[ht];simp[hi]
  rw[List.getElem?_take,if_pos hi] at e1
  simp only[ad,World.cell?,hg,Nat.zero_add]
  simpa using e1
theorem Own.aK {E base w a l cap} (h:Own E base w a l cap) {g} (hg:blk a=some g):base≤g∧g<w.heap.size:=
 h.row.lt g (by rw[fG];exact hg)
theorem Own.kept {E base w w' a l cap} {row:Option Nat} (h:Own E base w a l cap) (hg:w.grownBy w' row) (hne:blk a=none∨blk a≠row):Own E base w' a l cap:=
 ⟨h.row.kept hg (by rw[fG];exact hne)⟩
theorem Own.alloc {E base w a l cap} (h:Own E base w a l cap) (o:Obj):Own E base (w.alloc o) a l cap:=⟨h.row.alloc o⟩
theorem Own.drew {E base w a l cap} (h:Own E base w a l cap):Own E base w.drew a l cap:=⟨h.row.drew⟩
theorem Own.drewN {E base w a l cap} (h:Own E base w a l cap) (n:Nat):Own E base (w.drewN n) a l cap:=⟨h.row⟩
theorem Own.stay {E base w w' a l cap} (h:Own E base w a l cap) (hb:Below w.heap.size w w'):Own E base w' a l cap:=by
 refine⟨h.row.1, ?_⟩
 rcases h.row.2 with hn |⟨g,c,cur,hv,hbg,hg,rest⟩
 ·exact .inl hn
 ·refine .inr ⟨g,c,cur,hv,hbg, ?_,rest⟩
  rw[hb.block g (Array.getElem?_eq_some_iff.1 hg).1];exact hg
theorem Own.low {E base base' w a l cap} (h:Own E base w a l cap) (hb:base'≤base):Own E base' w a l cap:=by
 refine⟨h.row.1, ?_⟩
 rcases h.row.2 with hn |⟨g,c,cur,hv,hbg,rest⟩
 ·exact .inl hn
 ·exact .inr ⟨g,c,cur,hv,by omega,rest⟩
theorem Own.frozen {E base w a l cap} (h:Own E base w a l cap) (i:Nat) (hi:i<l.length):w.frozen? (ad a i)=false:=by
 rcases h.form with⟨rfl,rfl,rfl⟩ |⟨g,cur,rfl,hb,hg,_⟩
 ·simp at hi
 ·simpa[ad] using frozen_of_row w g i cur E hg
theorem Own.stored {E base w a l cap} (h:Own E base w a l cap) (i:Nat) (hi:i<l.length) (b:UInt8):
 Own E base (w.setCell (ad a i) (vb b)) a (l.set i b) cap∧w.grownBy (w.setCell (ad a i) (vb b)) (blk a):=by
 rcases h.form with⟨rfl,rfl,rfl⟩ |⟨g,cur,rfl,hb,hg,_⟩
 ·simp at hi
 ·have hs:=h.row.stored i (vb b)
  simp only[ad,Nat.zero_add]
  refine⟨⟨?_⟩,hs.2⟩
  have:=hs.1
  rwa[List.length_set,List.map_set]
structure Mine (base:Nat) (w:World) (a:Option Addr) (l:List UInt8) (cap:Nat):Prop where
 row:Row w a l cap
 new:∀g,blk a=some g→base≤g
 free:∀i,i<l.length→w.frozen? (ad a i)=false
theorem Own.mine {E base w a l cap} (h:Own E base w a l cap):Mine base w a l cap:=⟨h.isRow,fun _ hg=>(h.aK hg).1,fun i hi=>h.frozen i hi⟩
theorem Mine.nil (base:Nat) (w:World):Mine base w none [] 0:=⟨Row.nil_ w,fun g h=>by simp[blk] at h,fun i h=>by simp at h⟩
theorem Mine.low {base base' w a l cap} (h:Mine base w a l cap) (hb:base'≤base):Mine base' w a l cap:=⟨h.row,fun g hg=>Nat.le_trans hb (h.new g hg),h.free⟩
theorem Mine.stay {base w w' a l cap} (h:Mine base w a l cap) (hb:Below w.heap.size w w'):Mine base w' a l cap:=
 ⟨h.row.stay hb,h.new,fun i hi=>(hb.frozen (h.row.blk hi)).trans (h.free i hi)⟩
theorem Mine.drewN {base w a l cap} (h:Mine base w a l cap) (n:Nat):Mine base (w.drewN n) a l cap:=⟨h.row.drewN n,h.new,h.free⟩
theorem Mine.stored {base w a l cap} (h:Mine base w a l cap) (i:Nat) (hi:i<l.length) (b:UInt8):
 Mine base (w.setCell (ad a i) (vb b)) a (l.set i b) cap∧w.grownBy (w.setCell (ad a i) (vb b)) (blk a)∧Below base w (w.setCell (ad a i) (vb b)):=by
 obtain⟨g,off,rfl⟩:=h.row.spot (by intro h0;simp[h0] at hi)
 refine⟨⟨⟨by rw[List.length_set];exact h.row.le,h.row.top,h.row.nil,fun _=>⟨g,off,rfl⟩,fun j hj=> ?_⟩,h.new,fun j hj=> ?_⟩,⟨rfl,rfl,rfl,by simp[World.setCell],fun k hk hne=>Below.heap_setCell _ _ _ _ (fun e=>hne (by rw[e];rfl))⟩,(Below.refl _ _).setCell (h.new g rfl) _⟩
 ·rw[List.length_set] at hj
  have hc:=h.row.cell j hj
  by_cases e:i=j
  ·subst e
   rw[World.cell?_setCell_same' _ _ _ (by rw[hc];rfl)]
   rw[List.getElem_set_self]
  ·rw[World.cell?_setCell_other _ _ _ _ (by simp[ad]<;>omega),hc]
   simp[e]
 ·rw[List.length_set] at hj
  have hf:=h.free j hj
  simp only[World.frozen?,World.setCell,ad,Array.getElem?_modify] at hf ⊢
  cases hh:w.heap[g]? with
  | none=>simp
  |
   some o=>
   rw[hh] at hf
   cases o<;>simp_all
theorem grown_below {w w':World} {row:Option Nat} {base:Nat} (hg:w.grownBy w' row) (hb:base≤w.heap.size) (hr:∀k,row=some k→base≤k):Below base w w':=
 (Below.refl _ _).grown hg hb hr
section
variable {P:Program} {T E:TypeId}
theorem BU (hBT:gW P T E) {w:World} {ops:Array Oper} {rest:List Oper} {o:Oper} {act:Act} {Q:Exit→Act→World→Prop} (x y:Operand) (hgd:o.guard=none)
 (ho:o.op= .makeSlice T x y) (n:Nat) (k1 k2:IntKind) {N:Int} (hx:act.eval x= .int k1 N) (hy:act.eval y= .int k2 N) (hN:N=(n:Int)) (hn:n≤1000000000)
 (h:∀w',Own E w.heap.size w' (some ⟨w.heap.size,0,none⟩) (List.replicate n 0) n→w.grownBy w' none→w.heap.size<w'.heap.size→wpList P ops Q rest (act.put o.dst (.slice (some ⟨w.heap.size,0,none⟩) n n)) w'):wpList P ops Q (o::rest) act w:=by
 subst hN
 obtain⟨i,hi,hz0,hz1,hz2⟩:=info_parts hBT.info
 refine wpList_make_full w hgd x y T ho w.heap.size E i (.int .u8 0) 1 hBT.slice hi hz0 hz1 k1 k2 n n n hx hy rfl rfl (by rw[hz2];omega) (by unfold maxLen;omega) (Nat.le_refl _) ?_
 intro w' hown hgr
 have e1:(madeCells (Value.int .u8 0).cells (n*1)).toList=(List.replicate n (0:UInt8)).map vb:=by
  rw[show(Value.int .u8 0).cells= #[.int .u8 0] from rfl,toList_madeCells_one,Nat.mul_one,List.map_replicate];rfl
 rw[e1] at hown
 have hO:Own E w.heap.size w' (some ⟨w.heap.size,0,none⟩) (List.replicate n 0) n:=⟨by simpa using hown⟩
 exact h w' hO hgr (hO.aK (g:=w.heap.size) rfl).2
theorem sO (hBT:gW P T E) {w:World} {ops:Array Oper} {rest:List Oper} {o:Oper} {act:Act} {Q:Exit→Act→World→Prop} (s x:Operand) (hgd:o.guard=none)
 (ho:o.op= .call {callee:= .builtin .append,args:= #[s,x],argTypes:= #[T,T]}) {base:Nat}
 {a b:Option Addr} {l m:List UInt8} {cap c:Nat} (hown:Own E base w a l cap) (hm:Row w b m c) (hlen:l.length+m.length≤1000000000) (hbase:base≤w.heap.size)
 (hs:act.eval s= .slice a l.length cap) (hx:act.eval x= .slice b m.length c)
 (h:∀a' cap' w',Own E base w' a' (l++m) cap'→w.grownBy w' (blk a)→wpList P ops Q rest (act.put o.dst (.slice a' (l++m).length cap')) w'):wpList P ops Q (o::rest) act w:=by
 obtain⟨i,hi,hz0,hz1,hz2⟩:=info_parts hBT.info
 cases b with
 |
  none=>
  have hc:=hm.nil rfl
  have hle:=hm.le
  obtain rfl:m=[]:=List.eq_nil_of_length_eq_zero AL
  subst hc
  refine wpList_append_own_none hgd s x T ho base E i 1 hBT.slice hi (.slice a l.length cap) l.length (l.map vb) hs hown.row hx ?_
  have hk:=h a cap w
  rw[List.append_nil] at hk
  exact hk hown ⟨rfl,rfl,rfl,Nat.le_refl _,fun _ _ _=>rfl⟩
 |
  some p=>
  refine wpList_append_own w hgd s x T ho base E i (.int .u8 0) 1 1 hBT.slice hi hz0 hz1 hz2 rfl AP _ l.length (l.map vb) hs hown.row p m.length c (m.map vb) hx AO ?_ ?_ ?_ ?_ hbase ?_
  ·intro j u hu
   have hj:j<m.length:=by
    have:=(List.getElem?_eq_some_iff.1 hu).1
    simpa using this
   obtain⟨g,off,e⟩:=hm.spot (by intro h0;simp[h0] at hj)
   injection e with e
   subst e
   have ea:(⟨g,off,none⟩:Addr).add j=ad (some ⟨g,off,none⟩) j:=by unfold Addr.add ad;split<;>simp_all
   rw[ea,hm.cell j hj]
   simpa[hj] using hu
  ·intro u hu
   obtain⟨y,_,rfl⟩:=List.mem_map.1 hu
   rfl
  ·unfold maxLen;omega
  ·omega
  ·intro v' w' hown' hgr hnil
   rw[fG] at hgr
   have hv':∃a' cap',v'= .slice a' (l++m).length cap':=by
    rcases hown'.2 with⟨hv,hn⟩ |⟨g',c',cur,hv,_⟩
    ·exact⟨none,0,by rw[hv];simp;omega⟩
    ·exact⟨some ⟨g',0,none⟩,c',by rw[hv];simp⟩
   obtain⟨a',cap',rfl⟩:=hv'
   exact h a' cap' w' ⟨by simpa using hown'⟩ hgr
theorem kZ (w:World) (cs:Array Value) (E:TypeId) (l:List UInt8) (h:cs=(l.map vb).toArray) (hl:l.length≤1000000000):
 Own E w.heap.size (w.alloc (.cells cs E)) (some ⟨w.heap.size,0,none⟩) l l.length:=by
 refine⟨?_⟩
 subst h
 have:=World.ownsRow_lit (base:=w.heap.size) (e:=E) (size:=1) w (l.map vb).toArray l.length (Nat.le_refl _) (by unfold maxLen;omega) AO
 simpa using this
theorem zq (hBT:gW P T E) {w:World} {ops:Array Oper} {rest:List Oper} {o:Oper} {act:Act} {Q:Exit→Act→World→Prop} (hgd:o.guard=none) (s x:Operand)
 (ho:o.op= .call {callee:= .builtin .append,args:= #[s,x],argTypes:= #[T,T]}) (base:Nat)
 (a:Option Addr) (l:List UInt8) (cap:Nat) (hs:act.eval s= .slice a l.length cap) (hown:Own E base w a l cap)
 (g:Nat) (b:UInt8) (hx:act.eval x= .slice (some ⟨g,0,none⟩) 1 1) (hc:w.cell? ⟨g,0,none⟩=some (vb b))
 (hlen:l.length≤1000000000) (hbase:base≤w.heap.size)
 (h:∀a' cap' w',Own E base w' a' (l++ [b]) cap'→w.grownBy w' (blk a)→wpList P ops Q rest (act.put o.dst (.slice a' (l++ [b]).length cap')) w'):wpList P ops Q (o::rest) act w:=by
 obtain⟨i,hi,hz0,hz1,hz2⟩:=info_parts hBT.info
 refine wpList_append_own w hgd s x T ho base E i (.int .u8 0) 1 1 hBT.slice hi hz0 hz1 hz2 rfl AP _ l.length (l.map vb) hs hown.row ⟨g,0,none⟩ 1 1 [vb b] hx rfl ?_ ?_ ?_ ?_ hbase ?_
 ·intro j u hu
  match j with
  | 0=>simp at hu;subst hu;simpa[Addr.add] using hc
  | j+1=>simp at hu
 ·intro u hu;simp at hu;subst hu;rfl
 ·unfold maxLen;omega
 ·omega
 ·intro v' w' hown' hgr hnil
  rw[fG] at hgr
  have hv':∃a' cap',v'= .slice a' (l++ [b]).length cap':=by
   rcases hown'.2 with⟨hv,hn⟩ |⟨g',c',cur,hv,_⟩
   ·omega
   ·exact⟨some ⟨g',0,none⟩,c',by rw[hv];simp⟩
  obtain⟨a',cap',rfl⟩:=hv'
  exact h a' cap' w' ⟨by simpa using hown'⟩ hgr
theorem iU (hBT:gW P T E) {w0:World} {ops:Array Oper} {rest:List Oper} {o:Oper} {act:Act} {Q:Exit→Act→World→Prop} (s x:Operand) (hgd:o.guard=none)
 (ho:o.op= .call {callee:= .builtin .append,args:= #[s,x],argTypes:= #[T,T]}) {base:Nat}
 {a:Option Addr} {l:List UInt8} {cap:Nat} {b:UInt8} (hown:Own E base w0 a l cap) (hlen:l.length≤1000000000) (hbase:base≤w0.heap.size)
 (hs:act.eval s= .slice a l.length cap) (hx:act.eval x= .slice (some ⟨w0.heap.size,0,none⟩) 1 1)
 (h:∀a' cap' w',Own E base w' a' (l++ [b]) cap'→w0.grownBy w' (blk a)→wpList P ops Q rest (act.put o.dst (.slice a' (l++ [b]).length cap')) w'):wpList P ops Q (o::rest) act (w0.alloc (.cells #[vb b] E)):=by
 refine zq hBT hgd s x ho base a l cap hs (hown.alloc _) w0.heap.size b hx ?_ hlen (by simp;omega) ?_
 ·rw[World.cell?,heap_alloc_new];rfl
 ·intro a' cap' w' hown' hgr
  refine h a' cap' w' hown' ?_
  have h0:=World.grownBy_alloc w0 (.cells #[vb b] E) (blk a)
  refine⟨hgr.os.trans h0.os,hgr.tape.trans h0.tape,hgr.output.trans h0.output,Nat.le_trans h0.size hgr.size,fun k hk hne=> ?_⟩
  rw[hgr.block k (Nat.lt_of_lt_of_le hk h0.size) hne,h0.block k hk hne]
end
theorem sG {w:World} {g:Nat} {cs:Array Value} {E:TypeId} {fr:Nat×Nat} (l:List UInt8) (hg:w.heap[g]? =some (.cells cs E fr)) (h:cs=(l.map vb).toArray) (hl:l.length≤1000000000):
 Row w (some ⟨g,0,none⟩) l l.length:=by
 refine⟨Nat.le_refl _,by unfold maxLen;omega,fun h=>by simp at h,fun _=>⟨g,0,rfl⟩,fun i hi=> ?_⟩
 simp only[ad,Nat.zero_add]
 rw[cell_of_row w g i cs E fr hg,h]
 simp[hi]
theorem wo (w:World) (cs:Array Value) (E:TypeId) (fr:Nat×Nat) (l:List UInt8) (h:cs=(l.map vb).toArray) (hl:l.length≤1000000000):
 Row (w.alloc (.cells cs E fr)) (some ⟨w.heap.size,0,none⟩) l l.length:=sG l (heap_alloc_new w _) h hl
theorem UG {P:Program} {f:FuncId} {args:Array Value} {w w0:World} {L:List UInt8} {B B':Nat} (h:Calls P f args w fun e w'=>∃a cp,e= .returned (.slice a L.length cp)∧Mine B w' a L cp∧Below B' w0 w'):
 Calls P f args w fun e w'=>∃a X cp,Hid (X=L)∧e= .returned (.slice a X.length cp)∧Mine B w' a X cp∧Below B' w0 w':=
 h.mono fun _ _ ⟨a,cp,h1,h2,h3⟩=>⟨a,L,cp,rfl,h1,h2,h3⟩
theorem TM {P:Program} {f:FuncId} {args:Array Value} {w w0:World} {L:List UInt8} {E B B':Nat} (h:Calls P f args w fun e w'=>∃a cp,e= .returned (.slice a L.length cp)∧Own E B w' a L cp∧Below B' w0 w'):
 Calls P f args w fun e w'=>∃a X cp,Hid (X=L)∧e= .returned (.slice a X.length cp)∧Mine B w' a X cp∧Below B' w0 w':=
 h.mono fun _ _ ⟨a,cp,h1,h2,h3⟩=>⟨a,L,cp,rfl,h1,h2.mine,h3⟩
theorem TA {P:Program} {f:FuncId} {args:Array Value} {w w0:World} {L:List UInt8} {n E B B':Nat} (hn:L.length=n) (h:Calls P f args w fun e w'=>∃a cp,e= .returned (.slice a n cp)∧Own E B w' a L cp∧Below B' w0 w'):
 Calls P f args w fun e w'=>∃a X cp,Hid (X=L)∧e= .returned (.slice a X.length cp)∧Mine B w' a X cp∧Below B' w0 w':=
 h.mono fun _ _ ⟨a,cp,h1,h2,h3⟩=>⟨a,L,cp,rfl,by rw[hn];exact h1,h2.mine,h3⟩
end Go.Cit
namespace Go.Cit
open Go Go.RowKit
structure Save (S:Nat→Prop) (w w':World):Prop where
 os:w'.os=w.os
 tape:w'.tape=w.tape
 output:w'.output=w.output
 size:w.heap.size≤w'.heap.size
 block:∀k,k<w.heap.size→S k→w'.heap[k]? =w.heap[k]?
theorem Save.refl (S:Nat→Prop) (w:World):Save S w w:=⟨rfl,rfl,rfl,Nat.le_refl _,fun _ _ _=>rfl⟩
theorem Save.trans {S:Nat→Prop} {a b c:World} (h:Save S a b) (k:Save S b c):Save S a c:=
 ⟨k.os.trans h.os,k.tape.trans h.tape,k.output.trans h.output,Nat.le_trans h.size k.size,fun i hi hs=>(k.block i (Nat.lt_of_lt_of_le hi h.size) hs).trans (h.block i hi hs)⟩
theorem Save.less {S T:Nat→Prop} {w w':World} (h:Save S w w') (hS:∀k,k<w.heap.size→T k→S k):Save T w w':=⟨h.os,h.tape,h.output,h.size,fun k hk hs=>h.block k hk (hS k hk hs)⟩
theorem Save.of {S:Nat→Prop} {w w':World} (h:Below w.heap.size w w'):Save S w w':=⟨h.os,h.tape,h.output,h.size,fun k hk _=>h.block k hk⟩
theorem Save.below {S:Nat→Prop} {w w':World} {B:Nat} (h:Save S w w') (hB:B≤w.heap.size) (hS:∀k,k<B→S k):Below B w w':=⟨h.os,h.tape,h.output,h.size,fun k hk=>h.block k (Nat.lt_of_lt_of_le hk hB) (hS k hk)⟩
theorem Save.set {w:World} {b i:Nat} {v:Value}:Save (· ≠b) w (w.setCell ⟨b,i,none⟩ v):=⟨rfl,rfl,rfl,by simp[World.setCell],fun k _ hs=>Below.heap_setCell _ _ _ _ hs⟩
theorem Save.grown {w w':World} {row:Option Nat} (h:w.grownBy w' row):Save (fun k=>some k≠row) w w':=⟨h.os,h.tape,h.output,h.size,h.block⟩
theorem Save.alloc {S:Nat→Prop} (w:World) (o:Obj):Save S w (w.alloc o):= .of ((Below.refl _ _).alloc (Nat.le_refl _) _)
theorem Save.drewN {S:Nat→Prop} (w:World) (n:Nat):Save S w (w.drewN n):=⟨rfl,rfl,rfl,Nat.le_refl _,fun _ _ _=>rfl⟩
theorem Save.drew {S:Nat→Prop} {a w:World} (h:Save S a w):Save S a w.drew:=⟨h.os,h.tape,h.output,h.size,h.block⟩
theorem Save.cell {S:Nat→Prop} {w w':World} (h:Save S w w') {p:Addr} (hp:p.block<w.heap.size) (hs:S p.block):w'.cell? p=w.cell? p:=World.cell?_of_block (w:=w) (h.block p.block hp hs)
theorem Save.frozen {S:Nat→Prop} {w w':World} (h:Save S w w') {p:Addr} (hp:p.block<w.heap.size) (hs:S p.block):w'.frozen? p=w.frozen? p:=World.frozen?_of_block (w:=w) (h.block p.block hp hs)
theorem Row.save {S:Nat→Prop} {w w':World} {a l cap} (r:Row w a l cap) (h:Save S w w') (hs:∀g,Go.Cit.blk a=some g→S g):Row w' a l cap:=by
 refine⟨r.le,r.top,r.nil,r.spot,fun i hi=> ?_⟩
 obtain⟨g,off,rfl⟩:=r.spot (by intro h0;simp[h0] at hi)
 exact(h.cell (r.blk hi) (hs g rfl)).trans (r.cell i hi)
theorem Row.save' {S:Nat→Prop} {w w':World} {a l cap} (r:Row w a l cap) (h:Save S w w') (hs:l≠ []→∀g,Go.Cit.blk a=some g→S g):Row w' a l cap:=by
 by_cases h0:l=[]
 ·subst h0
  exact⟨r.le,r.top,r.nil,r.spot,fun i hi=>by simp at hi⟩
 ·exact r.save h (hs h0)
theorem Own.save {S:Nat→Prop} {E base} {w w':World} {a l cap} (r:Own E base w a l cap) (h:Save S w w') (hs:∀g,blk a=some g→S g):Own E base w' a l cap:=by
 refine⟨r.row.1, ?_⟩
 rcases r.row.2 with hn |⟨g,c,cur,hv,hbg,hg,rest⟩
 ·exact .inl hn
 ·injection hv with h1 h2 h3
  subst h1
  refine .inr ⟨g,c,cur,by rw[h2,h3],hbg, ?_,rest⟩
  rw[h.block g (Array.getElem?_eq_some_iff.1 hg).1 (hs g rfl)];exact hg
theorem Mine.save {S:Nat→Prop} {base} {w w':World} {a l cap} (r:Mine base w a l cap) (h:Save S w w') (hs:∀g,blk a=some g→S g):Mine base w' a l cap:=by
 refine⟨r.row.save h hs,r.new,fun i hi=> ?_⟩
 obtain⟨g,off,rfl⟩:=r.row.spot (by intro h0;simp[h0] at hi)
 exact(h.frozen (r.row.blk hi) (hs g rfl)).trans (r.free i hi)
theorem Kt (a:Option Addr) (p:Prop) [Decidable p] (k:Nat):blk (if p then a else a.map (·.add k))=blk a:=by
 split
 ·rfl
 ·cases a with
  | none=>rfl
  | some x=>simp[blk,Addr.add];split<;>rfl
section
variable {P:Program} {T E:TypeId} (hT:P.underlying T=some (.slice E)) (hE:∀w,(sizeOf E).run P w= .ok 1 w)
include hT hE
theorem Row.QU {w a l cap} (h:Row w a l cap) (lo:Nat) (h1:lo≤l.length):∃a' m cap',m=l.drop lo∧
 (∀w,(Instr.sliceAt T (.slice a l.length cap) (some (.int .i64 (lo:Int))) none none).run P w= .ok (.slice a' m.length cap') w)∧Row w a' m cap'∧Go.Cit.blk a'=Go.Cit.blk a:=by
 have he:P.elem T=E:=by simp[Program.elem,hT]
 refine⟨_,_,_,rfl,fun w=> ?_,by simpa using h.sub lo l.length cap h1 (Nat.le_refl _) h.le (Nat.le_refl _),Kt _ _ _⟩
 rw[run_sliceAt_slice _ _ _ _ _ _ (by rw[he];exact hT),run_slice_l w T a _ _ (by rw[he];exact hT) .i64 lo AL AL,he,hE]
 simp[Result.andThen,sliced]
theorem Row.QN {w a l cap} (h:Row w a l cap) (hi:Nat) (h1:hi≤l.length):∃a' m cap',m=l.take hi∧
 (∀w,(Instr.sliceAt T (.slice a l.length cap) none (some (.int .i64 (hi:Int))) (some (.int .i64 (hi:Int)))).run P w= .ok (.slice a' m.length cap') w)∧Row w a' m cap'∧Go.Cit.blk a'=Go.Cit.blk a:=by
 have he:P.elem T=E:=by simp[Program.elem,hT]
 have hle:=h.le
 refine⟨_,_,_,rfl,fun w=> ?_,by simpa using h.sub 0 hi hi (Nat.zero_le _) h1 (Nat.le_refl _) AL,Kt _ _ _⟩
 rw[run_sliceAt_slice _ _ _ _ _ _ (by rw[he];exact hT),run_slice_hm w T a _ _ (by rw[he];exact hT) .i64 .i64 hi hi AL AL AL,he,hE]
 simp[Result.andThen,sliced]
 omega
end
section
variable {P:Program} {T E:TypeId}
def iI (B:Nat) (a a':Option Addr):Prop:=∀g,blk a'=some g→blk a=some g∨B≤g
theorem iI.refl (B:Nat) (a:Option Addr):iI B a a:=fun _ h=> .inl h
theorem iI.trans {B B':Nat} {a a' a'':Option Addr} (h:iI B a a') (k:iI B' a' a'') (hB:B≤B'):iI B a a'':=fun g hg=>by
 rcases k g hg with h1 |h1
 ·exact h g h1
 ·exact .inr AL
theorem Bf {w:World} {g off:Nat} {m:List UInt8} {c:Nat} (hm:Row w (some ⟨g,off,none⟩) m c):∀j u,(m.map vb)[j]? =some u→w.cell? ((⟨g,off,none⟩:Addr).add j)=some u:=by
 intro j u hu
 have hj:j<m.length:=by
  have:=(List.getElem?_eq_some_iff.1 hu).1
  simpa using this
 have ea:(⟨g,off,none⟩:Addr).add j=ad (some ⟨g,off,none⟩) j:=by unfold Addr.add ad;split<;>simp_all
 rw[ea,hm.cell j hj]
 simpa[hj] using hu
theorem NY {m:List UInt8}:∀u∈m.map vb,u.oneCell'=true:=by
 intro u hu
 obtain⟨y,_,rfl⟩:=List.mem_map.1 hu
 rfl
theorem zS (hBT:gW P T E) {w:World} {o:Oper} {act:Act} {K:Act→World→Prop} {Q:Exit→Act→World→Prop} (s x:Operand)
 (ho:o.op= .call {callee:= .builtin .append,args:= #[s,x],argTypes:= #[T,T]}) {base:Nat}
 {a b:Option Addr} {l m:List UInt8} {cap c:Nat} (hown:Own E base w a l cap) (hm:Row w b m c) (hne:m≠ []) (hlen:l.length+m.length≤1000000000) (hbase:base≤w.heap.size)
 (hs:act.eval s= .slice a l.length cap) (hx:act.eval x= .slice b m.length c)
 (h:∀a' cap' w',Own E base w' a' (l++m) cap'→w.grownBy w' (blk a)→iI w.heap.size a a'→K (act.put o.dst (.slice a' (l++m).length cap')) w'):Oper.wp P o act w K Q:=by
 obtain⟨i,hi,hz0,hz1,hz2⟩:=info_parts hBT.info
 obtain⟨g,off,rfl⟩:=hm.spot hne
 refine wp_append_lies w s x T ho base E i (.int .u8 0) 1 1 hBT.slice hi hz0 hz1 hz2 rfl AP _ l.length (l.map vb) hs hown.row ⟨g,off,none⟩ m.length c (m.map vb) hx AO (Bf hm) NY (List.length_pos_iff.2 hne) (by unfold maxLen;omega) AL hbase w.heap.size rfl ?_
 intro g' cap' w' hown' hgr hat hlt
 rw[fG] at hgr hat
 rw[←List.length_append,←List.map_append] at hown'
 rw[←List.length_append]
 refine h (some ⟨g',0,none⟩) cap' w' ⟨hown'⟩ hgr (fun k hk=> ?_)
 simp only[blk,Option.map_some,Option.some.injEq] at hk
 subst hk
 rcases hat with h1 |h1
 ·exact .inl h1
 ·exact .inr AL
theorem bU (hBT:gW P T E) {w:World} {ops:Array Oper} {rest:List Oper} {o:Oper} {act:Act} {Q:Exit→Act→World→Prop} (s x:Operand) (hgd:o.guard=none)
 (ho:o.op= .call {callee:= .builtin .append,args:= #[s,x],argTypes:= #[T,T]}) {base:Nat}
 {a b:Option Addr} {l m:List UInt8} {cap c:Nat} (hown:Own E base w a l cap) (hm:Row w b m c) (hne:m=[]→b=none) (hlen:l.length+m.length≤1000000000) (hbase:base≤w.heap.size)
 (hs:act.eval s= .slice a l.length cap) (hx:act.eval x= .slice b m.length c)
 (h:∀a' cap' w',Own E base w' a' (l++m) cap'→w.grownBy w' (blk a)→iI w.heap.size a a'→wpList P ops Q rest (act.put o.dst (.slice a' (l++m).length cap')) w'):wpList P ops Q (o::rest) act w:=by
 by_cases h0:m=[]
 ·obtain⟨i,hi,hz0,hz1,hz2⟩:=info_parts hBT.info
  have hb:=hne h0
  subst h0 hb
  have hc:=hm.nil rfl
  subst hc
  refine wpList_append_own_none hgd s x T ho base E i 1 hBT.slice hi (.slice a l.length cap) l.length (l.map vb) hs hown.row hx ?_
  have hk:=h a cap w
  rw[List.append_nil] at hk
  exact hk hown ⟨rfl,rfl,rfl,Nat.le_refl _,fun _ _ _=>rfl⟩ (iI.refl _ _)
 ·exact wpList_plain hgd fun K hK=>zS hBT s x ho hown hm h0 hlen hbase hs hx (fun a' cap' w' h1 h2 h3=>hK _ _ (h a' cap' w' h1 h2 h3))
end
end Go.Cit
