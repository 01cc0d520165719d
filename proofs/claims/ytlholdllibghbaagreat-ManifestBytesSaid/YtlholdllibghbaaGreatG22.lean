/- Texts of the proof, one behind the other: StrG, StrP, ShaDef, ShaRot. No condition but those that each names. -/
import Derived.Test.YtlholdllibghbaaGreatG10
import Derived.Test.YtlholdllibghbaaGreatG15
import Derived.Test.YtlholdllibghbaaGreatG14
import Derived.Test.YtlholdllibghbaaGreatShelf
import Derived.Test.YtlholdllibghbaaGreatG21
import Derived.Test.YtlholdllibghbaaGreatG04
import Derived.Test.YtlholdllibghbaaGreatProg
import Derived.Test.YtlholdllibghbaaGreatG00
import Derived.Test.YtlholdllibghbaaGreatKit
namespace Go.Proofs.YtlholdllibghbaaGreat
open Go Go.RowKit Go.Cit
def tR (L:List UInt8) (v:Value) (w:World):Prop:=∃a c,v= .slice a L.length c∧Row w a L c
theorem Qz {L:List UInt8} {v:Value} {w1 w2:World} (hb:Below w1.heap.size w1 w2) (h:tR L v w1):tR L v w2:=by
 obtain⟨a,c,e,hr⟩:=h
 exact⟨a,c,e,hr.stay hb⟩
theorem L9 {w:World} {d:uQ.D} (h:uQ.ok w d):∀x∈(Fh d).ps,x.img.length≤140737488351232:=by
 obtain⟨_,h2,_,_⟩:=h
 intro x hx
 obtain⟨y,hy,rfl⟩:=List.mem_map.1 hx
 obtain⟨i,hi,rfl⟩:=List.mem_iff_getElem.1 hy
 have h3:=(h2.2.2.2.2 i hi).2
 generalize d.2.1.l[i]=z at h3
 obtain⟨x1,⟨x2,x3,⟨⟩⟩,x4,⟨a,c,l⟩,⟨⟩⟩:=z
 obtain⟨_,_,_,h5,_⟩:=h3
 exact Nat.le_trans h5.1.le h5.2
end Go.Proofs.YtlholdllibghbaaGreat
namespace Go.Cit
open Go Go.RowKit
section
variable {P:Program} {ops:Array Oper} {rest:List Oper} {o:Oper} {act:Act} {w w':World} {Q:Exit→Act→World→Prop}
theorem eG {v:Value} (hgd:Region.wanted o (yielded ops act.tmps)=true) (hr:(execOp act.eval o).run P w= .ok (.value v) w')
 (h:wpList P ops Q rest (act.put o.dst v) w'):wpList P ops Q (o::rest) act w:=by
 unfold wpList
 rw[if_pos hgd]
 left
 unfold Oper.wp
 rw[hr]
 exact h
end
end Go.Cit
namespace Go.Proofs.YtlholdllibghbaaGreat
open Go Go.RowKit Go.Cit
theorem rZ {w:World} {o:Oper} {ρ:Operand→Value} {x:Operand} {a:Option Addr} {l:List UInt8} {n c:Nat} (h:o.op= .convert 40 9 x) (hx:ρ x= .slice a n c) (hn:l.length=n) (hr:Row w a l c):
 (execOp ρ o).run Tryz.prog w= .ok (.value (.string ⟨l.toArray⟩)) w:=by
 subst hn
 unfold execOp;rw[h];dsimp only;rw[hx]
 rw[Sem.run_bind,Ec hr];rfl
theorem kS {V:aO} (h:nJ V=true):cu V:=by
 obtain⟨h1,h2,h3,h4⟩:=rC h
 refine⟨by omega,by omega,by omega,fun x hx=> ?_⟩
 have:=List.any_eq_false.1 h4 x hx
 simp only[jZ,decide_eq_true_eq] at this
 omega
end Go.Proofs.YtlholdllibghbaaGreat
namespace Go.Cit
def qA (n:Nat) (x:UInt32):UInt32:=UInt32.ofNat ((x.toNat%2^n)*2^(32-n)+x.toNat/2^n)
def MG (n:Nat) (x:UInt32):UInt32:=UInt32.ofNat (x.toNat/2^n)
theorem JY (x n:Nat) (h1:1≤n) (h31:n≤31) (hx:x<4294967296):(x%2^n)*2^(32-n)+x/2^n<4294967296:=by
 have e:2^n*2^(32-n)=4294967296:=by rw[←Nat.pow_add,show n+(32-n)=32 by omega]
 have hp:0<2^n:=Nat.pow_pos AP
 have hq:0<2^(32-n):=Nat.pow_pos AP
 have h2:x/2^n<2^(32-n):=by
  rw[Nat.div_lt_iff_lt_mul hp,Nat.mul_comm,e];exact hx
 have h3:=Nat.mod_lt x hp
 have h4:(x%2^n+1)*2^(32-n)≤2^n*2^(32-n):=Nat.mul_le_mul_right _ h3
 rw[e,Nat.add_mul,Nat.one_mul] at h4
 omega
theorem JK (x n:Nat) (h31:n≤31):x*2^(32-n)%4294967296=(x%2^n)*2^(32-n):=by
 have e:4294967296=2^n*2^(32-n):=by rw[←Nat.pow_add,show n+(32-n)=32 by omega]
 rw[e,Nat.mul_mod_mul_right]
theorem zD (n:Nat) (x:UInt32) (h1:1≤n) (h31:n≤31):(qA n x).toNat=(x.toNat%2^n)*2^(32-n)+x.toNat/2^n:=by
 unfold qA
 exact UInt32.toNat_ofNat_of_lt' (JY x.toNat n h1 h31 (rH x))
theorem tX (n:Nat) (x:UInt32):(MG n x).toNat=x.toNat/2^n:=by
 unfold MG
 exact UInt32.toNat_ofNat_of_lt' (Nat.lt_of_le_of_lt (Nat.div_le_self _ _) (rH x))
theorem Rj (n:Nat) (x:UInt32) (h1:1≤n) (h31:n≤31):(x.toNat*2^(32-n)%4294967296) ||| (x.toNat/2^n)=(qA n x).toNat:=by
 have hp:0<2^n:=Nat.pow_pos AP
 have e:2^(32-n)*2^n=4294967296:=by rw[←Nat.pow_add,show 32-n+n=32 by omega]
 have h2:x.toNat/2^n<2^(32-n):=by
  rw[Nat.div_lt_iff_lt_mul hp,e];exact rH x
 rw[JK _ _ h31,zD n x h1 h31,←Nat.shiftLeft_eq,Nat.shiftLeft_add_eq_or_of_lt h2]
theorem Ql (n:Nat) (x:UInt32) (h1:1≤n) (h31:n≤31):(x.toNat/2^n+x.toNat*2^(32-n)%4294967296)%4294967296=(qA n x).toNat:=by
 rw[JK _ _ h31,zD n x h1 h31,Nat.add_comm]
 exact Nat.mod_eq_of_lt (JY x.toNat n h1 h31 (rH x))
theorem LD (e f g:UInt32):nD g (lK e (nD f g))=LJ (lK e f) (lK (Ns e) g):=by
 unfold nD lK LJ Ns
 apply UInt32.eq_of_toBitVec_eq
 simp only[UInt32.toBitVec_xor,UInt32.toBitVec_and,UInt32.toBitVec_or,UInt32.toBitVec_not]
 apply BitVec.eq_of_getLsbD_eq
 intro i hi
 simp only[BitVec.getLsbD_xor,BitVec.getLsbD_and,BitVec.getLsbD_or,BitVec.getLsbD_not,hi,decide_true,Bool.true_and]
 cases e.toBitVec.getLsbD i<;>cases f.toBitVec.getLsbD i<;>cases g.toBitVec.getLsbD i<;>rfl
theorem Qn (a b c:UInt32):LJ (lK a b) (lK c (LJ a b))=nD (nD (lK a b) (lK a c)) (lK b c):=by
 unfold nD lK LJ
 apply UInt32.eq_of_toBitVec_eq
 simp only[UInt32.toBitVec_xor,UInt32.toBitVec_and,UInt32.toBitVec_or]
 apply BitVec.eq_of_getLsbD_eq
 intro i hi
 simp only[BitVec.getLsbD_xor,BitVec.getLsbD_and,BitVec.getLsbD_or]
 cases a.toBitVec.getLsbD i<;>cases b.toBitVec.getLsbD i<;>cases c.toBitVec.getLsbD i<;>rfl
def zZ (a b:Nat) (x y:UInt32):UInt32:=nD (nD (qA a x) (qA b x)) y
def nR (a b c:Nat) (x:UInt32):UInt32:=zZ a b x (qA c x)
def pY (a b c:Nat) (x:UInt32):UInt32:=zZ a b x (MG c x)
def sched (b:List UInt8):Nat→List UInt32
 | 0=> []
 | i+1=>sched b i++ [if i<16 then sK (dS ((b.drop (4*i)).take 4))
  else dH (dH (dH ((sched b i).getD (i-16) 0) ((sched b i).getD (i-7) 0)) (pY 7 18 3 ((sched b i).getD (i-15) 0))) (pY 17 19 10 ((sched b i).getD (i-2) 0))]
theorem fE (b:List UInt8):∀n,(sched b n).length=n
 | 0=>rfl
 | n+1=>by rw[sched,List.length_append,fE b n];rfl
structure S8 where
 a:UInt32
 b:UInt32
 c:UInt32
 d:UInt32
 e:UInt32
 f:UInt32
 g:UInt32
 h:UInt32
def S8.l (s:S8):List UInt32:=[s.a,s.b,s.c,s.d,s.e,s.f,s.g,s.h]
def S8.Ui (s:S8) (k w:UInt32):S8:=
 let t:=dH (dH (dH (dH s.h (nR 6 11 25 s.e)) (nD s.g (lK s.e (nD s.f s.g)))) k) w
 let u:=dH (nR 2 13 22 s.a) (LJ (lK s.a s.b) (lK s.c (LJ s.a s.b)))
 ⟨dH t u,s.a,s.b,s.c,dH s.d t,s.e,s.f,s.g⟩
def S8.rounds (s:S8) (k w:List UInt32):Nat→S8
 | 0=>s
 | n+1=>(s.rounds k w n).Ui (k.getD n 0) (w.getD n 0)
def S8.plus (x s:S8):S8:=⟨dH x.a s.a,dH x.b s.b,dH x.c s.c,dH x.d s.d,dH x.e s.e,dH x.f s.f,dH x.g s.g,dH x.h s.h⟩
def S8.Ru (s:S8) (k:List UInt32) (b:List UInt8):S8:=(s.rounds k (sched b 64) 64).plus s
def jf:List UInt32:=[0x428a2f98,0x71374491,0xb5c0fbcf,0xe9b5dba5,0x3956c25b,0x59f111f1,0x923f82a4,0xab1c5ed5,0xd807aa98,0x12835b01,0x243185be,0x550c7dc3,0x72be5d74,0x80deb1fe,0x9bdc06a7,0xc19bf174,
 0xe49b69c1,0xefbe4786,0x0fc19dc6,0x240ca1cc,0x2de92c6f,0x4a7484aa,0x5cb0a9dc,0x76f988da,0x983e5152,0xa831c66d,0xb00327c8,0xbf597fc7,0xc6e00bf3,0xd5a79147,0x06ca6351,0x14292967,
 0x27b70a85,0x2e1b2138,0x4d2c6dfc,0x53380d13,0x650a7354,0x766a0abb,0x81c2c92e,0x92722c85,0xa2bfe8a1,0xa81a664b,0xc24b8b70,0xc76c51a3,0xd192e819,0xd6990624,0xf40e3585,0x106aa070,
 0x19a4c116,0x1e376c08,0x2748774c,0x34b0bcb5,0x391c0cb3,0x4ed8aa4a,0x5b9cca4f,0x682e6ff3,0x748f82ee,0x78a5636f,0x84c87814,0x8cc70208,0x90befffa,0xa4506ceb,0xbef9a3f7,0xc67178f2]
def fK:S8:=⟨0x6a09e667,0xbb67ae85,0x3c6ef372,0xa54ff53a,0x510e527f,0x9b05688c,0x1f83d9ab,0x5be0cd19⟩
def jl (n:Nat):List UInt8:=128::(List.replicate ((119-n%64)%64) 0++rowB (jV (qI 8) (iH n)) 8)
def gy (k:List UInt32):Nat→S8→List UInt8→S8
 | 0,s,_=>s
 | n+1,s,b=>gy k n (s.Ru k (b.take 64)) (b.drop 64)
def iy (s:S8):List UInt8:=s.l.flatMap fun x=>rowB (lN x) 4
def jX (b:List UInt8):List UInt8:=iy (gy jf ((b.length+(jl b.length).length)/64) fK (b++jl b.length))
end Go.Cit
namespace Go.Proofs.YtlholdllibghbaaGreat
open Go Go.RowKit Go.Cit
theorem Qa (a:Nat) (h1:1≤a) (h31:a≤31):bits BinOp.and IntKind.u64 (IntKind.u64.wrap (-(a:Int))) 31=((32-a:Nat):Int):=by
 have h:∀a:Fin 32,1≤a.1→bits BinOp.and IntKind.u64 (IntKind.u64.wrap (-(a.1:Int))) 31=((32-a.1:Nat):Int):=by decide+kernel
 exact h ⟨a,by omega⟩ h1
theorem wR (w:World) (x:UInt32) (a:Nat) (h1:1≤a) (h31:a≤31):
 Calls Tryz.prog 237 #[vw x, .int .i64 (-(a:Int))] w fun e w'=>e= .returned (vw (qA a x))∧w'=w:=by
 have hs:=Qa a h1 h31
 obtain⟨s,hsd⟩:∃s,32-a=s:=⟨_,rfl⟩
 rw[hsd] at hs
 have hs1:(s:Int)≤32:=by omega
 have hs2:(32:Int)-s=a:=by omega
 have hs3:(0:Int)≤a:=by omega
 have hs4:(a:Int)≤32:=by omega
 have HR:Hid (bits .or .u32 (IntKind.u32.wrap ((x.toNat:Int)*2^s)) ((x.toNat:Int)/2^a)=((qA a x).toNat:Int)):=by
  have h:=Rj a x h1 h31
  rw[hsd] at h
  have e1:IntKind.u32.wrap ((x.toNat:Int)*2^s)=((x.toNat*2^s%4294967296:Nat):Int):=by
   rw[fJ,Int.natCast_emod,Int.natCast_mul,Int.natCast_pow];rfl
  have e2:(x.toNat:Int)/2^a=((x.toNat/2^a:Nat):Int):=by rw[Int.natCast_ediv,Int.natCast_pow];rfl
  rw[Hid,e1,e2,u32_or_nat _ _ (Nat.mod_lt _ AP) (Nat.lt_of_le_of_lt (Nat.div_le_self _ _) (rH x)),h]
 clear hsd h1 h31
 go_enter Tryz.func237,Tryz.ntmps237
 go_wp2_with fail
 go_ret
 exact⟨dX HR.o,rfl⟩
theorem xQ (w:World) (x y:UInt32) (a b:Nat) (h1:1≤a) (h31:a≤31) (k1:1≤b) (k31:b≤31):
 Calls Tryz.prog 236 #[vw x, .int .i64 (a:Int), .int .i64 (b:Int),vw y] w fun e w'=>e= .returned (vw (zZ a b x y))∧w'=w:=by
 go_enter Tryz.func236,Tryz.ntmps236
 go_wp2_with fail
 refine(wR w x a h1 h31).mono ?_
 rintro e w' ⟨rfl,rfl⟩
 go_wp2_with fail
 refine(wR _ x b k1 k31).mono ?_
 rintro e w' ⟨rfl,rfl⟩
 go_wp2_with fail
 go_ret
 exact⟨rfl,rfl⟩
theorem uN (w:World) (x:UInt32) (a b c:Nat) (h1:1≤a) (h31:a≤31) (k1:1≤b) (k31:b≤31) (m1:1≤c) (m31:c≤31):
 Calls Tryz.prog 199 #[vw x, .int .i64 (a:Int), .int .i64 (b:Int), .int .i64 (c:Int)] w fun e w'=>e= .returned (vw (nR a b c x))∧w'=w:=by
 go_enter Tryz.func199,Tryz.ntmps199
 go_wp2_with fail
 refine(wR w x c m1 m31).mono ?_
 rintro e w' ⟨rfl,rfl⟩
 go_wp2_with fail
 refine(xQ _ x _ a b h1 h31 k1 k31).mono ?_
 rintro e w' ⟨rfl,rfl⟩
 go_wp2_with fail
 go_ret
 exact⟨rfl,rfl⟩
theorem xO (w:World) (x:UInt32) (a b c:Nat) (h1:1≤a) (h31:a≤31) (k1:1≤b) (k31:b≤31) (m31:c≤31):
 Calls Tryz.prog 235 #[vw x, .int .i64 (a:Int), .int .i64 (b:Int), .int .i64 (c:Int)] w fun e w'=>e= .returned (vw (pY a b c x))∧w'=w:=by
 have hc0:(0:Int)≤c:=by omega
 have hc1:(c:Int)≤32:=by omega
 have hS:Hid ((x.toNat:Int)/2^c=((MG c x).toNat:Int)):=by
  rw[Hid,tX,Int.natCast_ediv,Int.natCast_pow];rfl
 have hk:Calls Tryz.prog 236 #[vw x, .int .i64 (a:Int), .int .i64 (b:Int), .int .u32 ((x.toNat:Int)/2^c)] w fun e w'=>e= .returned (vw (pY a b c x))∧w'=w:=by
  rw[hS.o];exact xQ w x _ a b h1 h31 k1 k31
 go_enter Tryz.func235,Tryz.ntmps235
 go_wp2_with fail
 refine hk.mono ?_
 rintro e w' ⟨rfl,rfl⟩
 go_wp2_with fail
 go_ret
 exact⟨rfl,rfl⟩
end Go.Proofs.YtlholdllibghbaaGreat
