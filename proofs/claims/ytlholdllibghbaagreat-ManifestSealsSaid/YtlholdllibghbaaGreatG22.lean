/- Texts of the proof, one behind the other: StrP, ShaDef, ShaRot, Arr. No condition but those that each names. -/
import Derived.Test.YtlholdllibghbaaGreatG21
import Derived.Test.YtlholdllibghbaaGreatG04
import Derived.Test.YtlholdllibghbaaGreatProg
import Derived.Test.YtlholdllibghbaaGreatG00
import Derived.Test.YtlholdllibghbaaGreatG07
import Derived.Test.YtlholdllibghbaaGreatKit
namespace Go.Cit
open Go Go.RowKit
end Go.Cit
namespace Go.Proofs.YtlholdllibghbaaGreat
open Go Go.RowKit Go.Cit
theorem kN {V:aN} (h:nP V=true):bP V:=by
 obtain⟨h1,h2,h3,h4⟩:=qZ h
 refine⟨by omega,by omega,by omega,fun x hx=> ?_⟩
 have:=List.any_eq_false.1 h4 x hx
 simp only[jV,decide_eq_true_eq] at this
 omega
end Go.Proofs.YtlholdllibghbaaGreat
namespace Go.Cit
def qp (n:Nat) (x:UInt32):UInt32:=UInt32.ofNat ((x.toNat%2^n)*2^(32-n)+x.toNat/2^n)
def LH (n:Nat) (x:UInt32):UInt32:=UInt32.ofNat (x.toNat/2^n)
theorem Jt (x n:Nat) (h1:1≤n) (h31:n≤31) (hx:x<4294967296):(x%2^n)*2^(32-n)+x/2^n<4294967296:=by
 have e:2^n*2^(32-n)=4294967296:=by rw[←Nat.pow_add,show n+(32-n)=32 by omega]
 have hp:0<2^n:=Nat.pow_pos AP
 have hq:0<2^(32-n):=Nat.pow_pos AP
 have h2:x/2^n<2^(32-n):=by
  rw[Nat.div_lt_iff_lt_mul hp,Nat.mul_comm,e];exact hx
 have h3:=Nat.mod_lt x hp
 have h4:(x%2^n+1)*2^(32-n)≤2^n*2^(32-n):=Nat.mul_le_mul_right _ h3
 rw[e,Nat.add_mul,Nat.one_mul] at h4
 omega
theorem JU (x n:Nat) (h31:n≤31):x*2^(32-n)%4294967296=(x%2^n)*2^(32-n):=by
 have e:4294967296=2^n*2^(32-n):=by rw[←Nat.pow_add,show n+(32-n)=32 by omega]
 rw[e,Nat.mul_mod_mul_right]
theorem Ag (n:Nat) (x:UInt32) (h1:1≤n) (h31:n≤31):(qp n x).toNat=(x.toNat%2^n)*2^(32-n)+x.toNat/2^n:=by
 unfold qp
 exact UInt32.toNat_ofNat_of_lt' (Jt x.toNat n h1 h31 (qP x))
theorem sW (n:Nat) (x:UInt32):(LH n x).toNat=x.toNat/2^n:=by
 unfold LH
 exact UInt32.toNat_ofNat_of_lt' (Nat.lt_of_le_of_lt (Nat.div_le_self _ _) (qP x))
theorem QW (n:Nat) (x:UInt32) (h1:1≤n) (h31:n≤31):(x.toNat*2^(32-n)%4294967296) ||| (x.toNat/2^n)=(qp n x).toNat:=by
 have hp:0<2^n:=Nat.pow_pos AP
 have e:2^(32-n)*2^n=4294967296:=by rw[←Nat.pow_add,show 32-n+n=32 by omega]
 have h2:x.toNat/2^n<2^(32-n):=by
  rw[Nat.div_lt_iff_lt_mul hp,e];exact qP x
 rw[JU _ _ h31,Ag n x h1 h31,←Nat.shiftLeft_eq,Nat.shiftLeft_add_eq_or_of_lt h2]
theorem PI (n:Nat) (x:UInt32) (h1:1≤n) (h31:n≤31):(x.toNat/2^n+x.toNat*2^(32-n)%4294967296)%4294967296=(qp n x).toNat:=by
 rw[JU _ _ h31,Ag n x h1 h31,Nat.add_comm]
 exact Nat.mod_eq_of_lt (Jt x.toNat n h1 h31 (qP x))
theorem KD (e f g:UInt32):ny g (lI e (ny f g))=MS (lI e f) (lI (O5 e) g):=by
 unfold ny lI MS O5
 apply UInt32.eq_of_toBitVec_eq
 simp only[UInt32.toBitVec_xor,UInt32.toBitVec_and,UInt32.toBitVec_or,UInt32.toBitVec_not]
 apply BitVec.eq_of_getLsbD_eq
 intro i hi
 simp only[BitVec.getLsbD_xor,BitVec.getLsbD_and,BitVec.getLsbD_or,BitVec.getLsbD_not,hi,decide_true,Bool.true_and]
 cases e.toBitVec.getLsbD i<;>cases f.toBitVec.getLsbD i<;>cases g.toBitVec.getLsbD i<;>rfl
theorem Qu (a b c:UInt32):MS (lI a b) (lI c (MS a b))=ny (ny (lI a b) (lI a c)) (lI b c):=by
 unfold ny lI MS
 apply UInt32.eq_of_toBitVec_eq
 simp only[UInt32.toBitVec_xor,UInt32.toBitVec_and,UInt32.toBitVec_or]
 apply BitVec.eq_of_getLsbD_eq
 intro i hi
 simp only[BitVec.getLsbD_xor,BitVec.getLsbD_and,BitVec.getLsbD_or]
 cases a.toBitVec.getLsbD i<;>cases b.toBitVec.getLsbD i<;>cases c.toBitVec.getLsbD i<;>rfl
def yN (a b:Nat) (x y:UInt32):UInt32:=ny (ny (qp a x) (qp b x)) y
def nT (a b c:Nat) (x:UInt32):UInt32:=yN a b x (qp c x)
def pG (a b c:Nat) (x:UInt32):UInt32:=yN a b x (LH c x)
def sched (b:List UInt8):Nat→List UInt32
 | 0=> []
 | i+1=>sched b i++ [if i<16 then su (iG ((b.drop (4*i)).take 4))
  else dA (dA (dA ((sched b i).getD (i-16) 0) ((sched b i).getD (i-7) 0)) (pG 7 18 3 ((sched b i).getD (i-15) 0))) (pG 17 19 10 ((sched b i).getD (i-2) 0))]
theorem eX (b:List UInt8):∀n,(sched b n).length=n
 | 0=>rfl
 | n+1=>by rw[sched,List.length_append,eX b n];rfl
structure S8 where
 a:UInt32
 b:UInt32
 c:UInt32
 d:UInt32
 e:UInt32
 f:UInt32
 g:UInt32
 h:UInt32
def S8.l (s:S8):List UInt32:=[s.a,s.b,s.c,s.d,s.e,s.f,s.g,s.h]
def S8.TM (s:S8) (k w:UInt32):S8:=
 let t:=dA (dA (dA (dA s.h (nT 6 11 25 s.e)) (ny s.g (lI s.e (ny s.f s.g)))) k) w
 let u:=dA (nT 2 13 22 s.a) (MS (lI s.a s.b) (lI s.c (MS s.a s.b)))
 ⟨dA t u,s.a,s.b,s.c,dA s.d t,s.e,s.f,s.g⟩
def S8.rounds (s:S8) (k w:List UInt32):Nat→S8
 | 0=>s
 | n+1=>(s.rounds k w n).TM (k.getD n 0) (w.getD n 0)
def S8.plus (x s:S8):S8:=⟨dA x.a s.a,dA x.b s.b,dA x.c s.c,dA x.d s.d,dA x.e s.e,dA x.f s.f,dA x.g s.g,dA x.h s.h⟩
def S8.Rt (s:S8) (k:List UInt32) (b:List UInt8):S8:=(s.rounds k (sched b 64) 64).plus s
def jf:List UInt32:=[0x428a2f98,0x71374491,0xb5c0fbcf,0xe9b5dba5,0x3956c25b,0x59f111f1,0x923f82a4,0xab1c5ed5,0xd807aa98,0x12835b01,0x243185be,0x550c7dc3,0x72be5d74,0x80deb1fe,0x9bdc06a7,0xc19bf174,
 0xe49b69c1,0xefbe4786,0x0fc19dc6,0x240ca1cc,0x2de92c6f,0x4a7484aa,0x5cb0a9dc,0x76f988da,0x983e5152,0xa831c66d,0xb00327c8,0xbf597fc7,0xc6e00bf3,0xd5a79147,0x06ca6351,0x14292967,
 0x27b70a85,0x2e1b2138,0x4d2c6dfc,0x53380d13,0x650a7354,0x766a0abb,0x81c2c92e,0x92722c85,0xa2bfe8a1,0xa81a664b,0xc24b8b70,0xc76c51a3,0xd192e819,0xd6990624,0xf40e3585,0x106aa070,
 0x19a4c116,0x1e376c08,0x2748774c,0x34b0bcb5,0x391c0cb3,0x4ed8aa4a,0x5b9cca4f,0x682e6ff3,0x748f82ee,0x78a5636f,0x84c87814,0x8cc70208,0x90befffa,0xa4506ceb,0xbef9a3f7,0xc67178f2]
def fB:S8:=⟨0x6a09e667,0xbb67ae85,0x3c6ef372,0xa54ff53a,0x510e527f,0x9b05688c,0x1f83d9ab,0x5be0cd19⟩
def jc (n:Nat):List UInt8:=128::(List.replicate ((119-n%64)%64) 0++rowB (jP (qI 8) (iD n)) 8)
def fU (k:List UInt32):Nat→S8→List UInt8→S8
 | 0,s,_=>s
 | n+1,s,b=>fU k n (s.Rt k (b.take 64)) (b.drop 64)
def gZ (s:S8):List UInt8:=s.l.flatMap fun x=>rowB (nN x) 4
def iJ (b:List UInt8):List UInt8:=gZ (fU jf ((b.length+(jc b.length).length)/64) fB (b++jc b.length))
end Go.Cit
namespace Go.Proofs.YtlholdllibghbaaGreat
open Go Go.RowKit Go.Cit
theorem Qc (a:Nat) (h1:1≤a) (h31:a≤31):bits BinOp.and IntKind.u64 (IntKind.u64.wrap (-(a:Int))) 31=((32-a:Nat):Int):=by
 have h:∀a:Fin 32,1≤a.1→bits BinOp.and IntKind.u64 (IntKind.u64.wrap (-(a.1:Int))) 31=((32-a.1:Nat):Int):=by decide+kernel
 exact h ⟨a,by omega⟩ h1
theorem wP (w:World) (x:UInt32) (a:Nat) (h1:1≤a) (h31:a≤31):
 Calls Tryz.prog 237 #[vw x, .int .i64 (-(a:Int))] w fun e w'=>e= .returned (vw (qp a x))∧w'=w:=by
 have hs:=Qc a h1 h31
 obtain⟨s,hsd⟩:∃s,32-a=s:=⟨_,rfl⟩
 rw[hsd] at hs
 have hs1:(s:Int)≤32:=by omega
 have hs2:(32:Int)-s=a:=by omega
 have hs3:(0:Int)≤a:=by omega
 have hs4:(a:Int)≤32:=by omega
 have HR:Hid (bits .or .u32 (IntKind.u32.wrap ((x.toNat:Int)*2^s)) ((x.toNat:Int)/2^a)=((qp a x).toNat:Int)):=by
  have h:=QW a x h1 h31
  rw[hsd] at h
  have e1:IntKind.u32.wrap ((x.toNat:Int)*2^s)=((x.toNat*2^s%4294967296:Nat):Int):=by
   rw[fC,Int.natCast_emod,Int.natCast_mul,Int.natCast_pow];rfl
  have e2:(x.toNat:Int)/2^a=((x.toNat/2^a:Nat):Int):=by rw[Int.natCast_ediv,Int.natCast_pow];rfl
  rw[Hid,e1,e2,u32_or_nat _ _ (Nat.mod_lt _ AP) (Nat.lt_of_le_of_lt (Nat.div_le_self _ _) (qP x)),h]
 clear hsd h1 h31
 go_enter Tryz.func237,Tryz.ntmps237
 go_wp2_with fail
 go_ret
 exact⟨dU HR.o,rfl⟩
theorem xH (w:World) (x y:UInt32) (a b:Nat) (h1:1≤a) (h31:a≤31) (k1:1≤b) (k31:b≤31):
 Calls Tryz.prog 236 #[vw x, .int .i64 (a:Int), .int .i64 (b:Int),vw y] w fun e w'=>e= .returned (vw (yN a b x y))∧w'=w:=by
 go_enter Tryz.func236,Tryz.ntmps236
 go_wp2_with fail
 refine(wP w x a h1 h31).mono ?_
 rintro e w' ⟨rfl,rfl⟩
 go_wp2_with fail
 refine(wP _ x b k1 k31).mono ?_
 rintro e w' ⟨rfl,rfl⟩
 go_wp2_with fail
 go_ret
 exact⟨rfl,rfl⟩
theorem uF (w:World) (x:UInt32) (a b c:Nat) (h1:1≤a) (h31:a≤31) (k1:1≤b) (k31:b≤31) (m1:1≤c) (m31:c≤31):
 Calls Tryz.prog 199 #[vw x, .int .i64 (a:Int), .int .i64 (b:Int), .int .i64 (c:Int)] w fun e w'=>e= .returned (vw (nT a b c x))∧w'=w:=by
 go_enter Tryz.func199,Tryz.ntmps199
 go_wp2_with fail
 refine(wP w x c m1 m31).mono ?_
 rintro e w' ⟨rfl,rfl⟩
 go_wp2_with fail
 refine(xH _ x _ a b h1 h31 k1 k31).mono ?_
 rintro e w' ⟨rfl,rfl⟩
 go_wp2_with fail
 go_ret
 exact⟨rfl,rfl⟩
theorem xE (w:World) (x:UInt32) (a b c:Nat) (h1:1≤a) (h31:a≤31) (k1:1≤b) (k31:b≤31) (m31:c≤31):
 Calls Tryz.prog 235 #[vw x, .int .i64 (a:Int), .int .i64 (b:Int), .int .i64 (c:Int)] w fun e w'=>e= .returned (vw (pG a b c x))∧w'=w:=by
 have hc0:(0:Int)≤c:=by omega
 have hc1:(c:Int)≤32:=by omega
 have hS:Hid ((x.toNat:Int)/2^c=((LH c x).toNat:Int)):=by
  rw[Hid,sW,Int.natCast_ediv,Int.natCast_pow];rfl
 have hk:Calls Tryz.prog 236 #[vw x, .int .i64 (a:Int), .int .i64 (b:Int), .int .u32 ((x.toNat:Int)/2^c)] w fun e w'=>e= .returned (vw (pG a b c x))∧w'=w:=by
  rw[hS.o];exact xH w x _ a b h1 h31 k1 k31
 go_enter Tryz.func235,Tryz.ntmps235
 go_wp2_with fail
 refine hk.mono ?_
 rintro e w' ⟨rfl,rfl⟩
 go_wp2_with fail
 go_ret
 exact⟨rfl,rfl⟩
open Go Go.RowKit Go.Cit
def nJ (T:TypeId) (w:World) (b:Nat) (l:List UInt32):Prop:=w.heap[b]? =some (.cells (l.map vw).toArray T (0,0))
theorem nJ.lt {T w b l} (h:nJ T w b l):b<w.heap.size:=(Array.getElem?_eq_some_iff.1 h).1
theorem nJ.cell {T w b l} (h:nJ T w b l) (i:Nat) (hi:i<l.length):w.cell? ⟨b,i,none⟩=some (vw l[i]):=by
 rw[World.cell?,h];simp[hi]
theorem nJ.free {T w b l} (h:nJ T w b l) (i:Nat):w.frozen? ⟨b,i,none⟩=false:=by simp[World.frozen?,show w.heap[b]? =_ from h]
theorem nJ.set {T w b l} (h:nJ T w b l) (i:Nat) (x:UInt32):nJ T (w.setCell ⟨b,i,none⟩ (vw x)) b (l.set i x):=by
 unfold nJ at *
 simp[World.setCell,Array.getElem?_modify,h,List.map_set]
theorem nJ.save {S:Nat→Prop} {T w w' b l} (h:nJ T w b l) (hs:Save S w w') (hb:S b):nJ T w' b l:=(hs.block b h.lt hb).trans h
theorem nJ.stay {T w w' b l} (h:nJ T w b l) (hs:Below w.heap.size w w'):nJ T w' b l:=(hs.block b h.lt).trans h
theorem pI (l:List UInt32):(l.map vw).toArray.all (·.oneCell')=true:=by simp[Value.oneCell']
theorem TS:∀w,(sizeOf 38).run Tryz.prog w= .ok 1 w:=by intro w;kernel_rfl
theorem ji {T:TypeId} {n:Nat} (hT:Tryz.prog.underlying T=some (.array n 38)) (b i:Nat) (hi:i<n) (w:World):
 (Instr.indexAt T (.pointer (some ⟨b,0,none⟩)) (.int .i64 (i:Int))).run Tryz.prog w= .ok (.pointer (some ⟨b,i,none⟩)) w:=by
 have he:Tryz.prog.elem T=38:=by simp[Program.elem,hT]
 have hl:Tryz.prog.arrayLen T=n:=by simp[Program.arrayLen,hT]
 rw[run_indexAt_array _ _ _ _ _ (by rw[he,hl];exact hT),hl,he,TS]
 rw[if_pos AL]
 simp only[Result.andThen,Addr.add]
 by_cases h0:i=0
 ·subst h0;simp
 ·simp[h0]
end Go.Proofs.YtlholdllibghbaaGreat
