/- Texts of the proof, one behind the other: PrintAll, Parse1, Sta, BoxTwo. No condition but those that each names. -/
import Derived.Test.YtlholdllibghbaaGreatG13
import Derived.Test.YtlholdllibghbaaGreatG08
import Derived.Test.YtlholdllibghbaaGreatG02
import Derived.Test.YtlholdllibghbaaGreatG04
import Derived.Test.YtlholdllibghbaaGreatG05
import Derived.Test.YtlholdllibghbaaGreatG06
import Derived.Test.YtlholdllibghbaaGreatG10
import Derived.Test.YtlholdllibghbaaGreatG11
import Derived.Test.YtlholdllibghbaaGreatProg
import Derived.Test.YtlholdllibghbaaGreatG00
import Derived.Test.YtlholdllibghbaaGreatKit
namespace Go.Proofs.YtlholdllibghbaaGreat
open Go Go.RowKit Go.Cit
theorem wV (n:Int):(int8 n).length=8:=aF _ _
theorem Wr.old {base N:Nat} {w b a l c e} (h:Wr base w b a l c e) (hN:N≤base):∀k,k<N→Off b a k:=fun k hk=>⟨by have:=h.ge;omega,fun e=>by have:=(h.own.aQ e.symm).1;omega⟩
open Go Go.RowKit Go.Cit
def St.int (s:St):I64×St:=(iZ (s.read 8 kL 0).1,(s.read 8 kL 0).2)
theorem yC (n:Int): -9223372036854775808≤wrap64 n∧wrap64 n≤9223372036854775807:=by unfold wrap64;omega
theorem zT (s:St): -9223372036854775808≤(s.read 8 kL 0).1∧(s.read 8 kL 0).1≤9223372036854775807:=by
 unfold St.read
 split
 ·split
  ·exact yC _
  ·exact⟨by show(-9223372036854775808:Int)≤0;decide,by show(0:Int)≤9223372036854775807;decide⟩
 ·exact⟨by show(-9223372036854775808:Int)≤0;decide,by show(0:Int)≤9223372036854775807;decide⟩
theorem ET (s:St):s.int.1.1=(s.read 8 kL 0).1:=fD (zT s)
theorem og {base top w b s} (h:dG base top w b s):Calls Tryz.prog 57 #[.pointer (some ⟨b,0,none⟩)] w fun r w'=>r= .returned (.int .i64 s.int.1.1)∧dG base top w' b s.int.2∧Save (· ≠b) w w':=by
 obtain⟨a,c,h⟩:=h
 have:=xq h
 rw[ET]
 exact this
theorem uG {base top w b s} (h:dG base top w b s):Calls Tryz.prog 137 #[.pointer (some ⟨b,0,none⟩)] w fun r w'=>r= .returned (.bool (s.read 1 gI false).1)∧dG base top w' b (s.read 1 gI false).2∧Save (· ≠b) w w':=by
 obtain⟨a,c,h⟩:=h
 exact wW h
theorem qH {base top w b s} (h:dG base top w b s):Calls Tryz.prog 60 #[.pointer (some ⟨b,0,none⟩)] w (Got base top w b s.bytes):=by
 obtain⟨a,c,h⟩:=h
 exact sG h
theorem qP {base top w b s} (h:dG base top w b s) (most:Int):Calls Tryz.prog 172 #[.pointer (some ⟨b,0,none⟩), .int .i64 most] w fun r w'=>r= .returned (.int .i64 (s.count most).1)∧dG base top w' b (s.count most).2∧Save (· ≠b) w w':=by
 obtain⟨a,c,h⟩:=h
 exact sJ h most
theorem wP {base top w b s} (h:dG base top w b s):Calls Tryz.prog 61 #[.pointer (some ⟨b,0,none⟩)] w fun r w'=>r= .returned (.int .i64 s.fin)∧w=w':=by
 obtain⟨a,c,h⟩:=h
 exact vM h
theorem dG.lt {base top w b s} (h:dG base top w b s):b<w.heap.size:=by obtain⟨_,_,h⟩:=h;exact h.lt
theorem dG.newer {base top w w' b s p} (h:dG base top w b s) (hs:Save (· ≠p) w w') (hp:top≤p) (hb:b≠p):dG base top w' b s:=h.save hs hb fun g _ hg=>by omega
theorem count_range (s:St) (most:Int) (h:0≤most):0≤(s.count most).1∧(s.count most).1≤most:=by
 unfold St.count
 split
 ·split
  ·exact⟨by omega,by omega⟩
  ·exact⟨Int.le_refl _,h⟩
 ·exact⟨Int.le_refl _,h⟩
open Go Go.RowKit Go.Cit
abbrev R8:= {l:List UInt32//l.length=8}
def r0:R8:=⟨[0,0,0,0,0,0,0,0],rfl⟩
structure qg where
 id:I64
 size:I64
 keep:Bool
 r:R8
 pc:UInt32
 st:UInt8
 mem:List UInt8
structure aK where
 id:I64
 size:I64
 keep:Bool
 r:R8
 pc:UInt32
 st:UInt8
 a:Option Addr
 mem:List UInt8
 c:Nat
def aK.prt (p:aK):qg:=⟨p.id,p.size,p.keep,p.r,p.pc,p.st,p.mem⟩
structure yP where
 ch:Ch
 msgs:List (List UInt8)
structure bF where
 ch:Ch
 a:Option Addr
 ms:List (Sl UInt8)
 c:Nat
def bF.kC (q:bF):yP:=⟨q.ch,q.ms.map Sl.l⟩
structure Ah where
 fr:I64
 ps:List qg
 qs:List yP
structure bU where
 fr:I64
 pa:Option Addr
 ps:List aK
 pc:Nat
 qa:Option Addr
 qs:List bF
 qc:Nat
def bU.fG (s:bU):Ah:=⟨s.fr,s.ps.map aK.prt,s.qs.map bF.kC⟩
instance:DecidableEq qg:=fun a b=>if h:a.id=b.id∧a.size=b.size∧a.keep=b.keep∧a.r=b.r∧a.pc=b.pc∧a.st=b.st∧a.mem=b.mem then isTrue (by cases a;cases b;simp_all) else isFalse (by rintro rfl;simp at h)
instance:DecidableEq yP:=fun a b=>if h:a.ch=b.ch∧a.msgs=b.msgs then isTrue (by cases a;cases b;simp_all) else isFalse (by rintro rfl;simp at h)
instance:DecidableEq Ah:=fun a b=>if h:a.fr=b.fr∧a.ps=b.ps∧a.qs=b.qs then isTrue (by cases a;cases b;simp_all) else isFalse (by rintro rfl;simp at h)
@[reducible] def bG (x:aK):List Value:=[.int .i64 x.id.1, .int .i64 x.size.1, .bool x.keep]++(x.r.1.map vw++ [vw x.pc,vb x.st, .slice x.a x.mem.length x.c])
@[reducible] def bZ (x:bF):List Value:=[.int .i64 x.ch.id.1, .int .i64 x.ch.src.1, .int .i64 x.ch.dst.1, .int .i64 x.ch.cap.1, .int .i64 x.ch.size.1, .slice x.a x.ms.length x.c]
@[reducible] def dO (s:bU):List Value:=[.int .i64 s.fr.1, .slice s.pa s.ps.length s.pc, .slice s.qa s.qs.length s.qc]
def cP (x:aK):Array Value:=(bG x).toArray
theorem aH:∀x,(bG x).length=14:=fun x=>by simp[bG,x.r.2]
theorem aT:∀x,(bZ x).length=6:=fun _=>rfl
theorem gu:∀x,∀u∈bG x,u.oneCell'=true:=by
 intro x u hu
 simp only[bG,List.mem_append,List.mem_cons,List.mem_map,List.not_mem_nil,or_false] at hu
 rcases hu with (rfl |rfl |rfl) |⟨_,_,rfl⟩ |rfl |rfl |rfl<;>rfl
theorem fZ:∀x,∀u∈bZ x,u.oneCell'=true:=by
 intro x u hu
 simp at hu
 rcases hu with rfl |rfl |rfl |rfl |rfl |rfl<;>rfl
theorem dZ (x:aK):(cP x).size=14:=by rw[cP,List.size_toArray,aH]
theorem jO (x:aK):(cP x).all (·.oneCell')=true:=Array.all_eq_true_iff_forall_mem.2 fun v hv=>gu x v (by simpa[cP] using hv)
structure bF.At (w:World) (q:bF):Prop where
 rows:Rows w q.a q.ms q.c
structure bU.At (w:World) (s:bU):Prop where
 pts:Vec bG 14 w s.pa s.ps s.pc
 mem:∀x∈s.ps,Row w x.a x.mem x.c
 wJ:Vec bZ 6 w s.qa s.qs s.qc
 msg:∀x∈s.qs,x.At w
theorem bF.At.stay {w w':World} {q:bF} (h:q.At w) (hb:Below w.heap.size w w'):q.At w':=
 ⟨gJ (h.rows.vec.stay jh hb) fun d hd=>(h.rows.row d hd).stay hb⟩
theorem bU.At.stay {w w':World} {s:bU} (h:s.At w) (hb:Below w.heap.size w w'):s.At w':=
 ⟨h.pts.stay aH hb,fun x hx=>(h.mem x hx).stay hb,h.wJ.stay aT hb,fun x hx=>(h.msg x hx).stay hb⟩
def mF (p:qg):Bool:=decide (1≤p.id.1∧p.id.1≤6) && (dY ⟨iZ 0,p.size⟩ && (decide ((p.mem.length:Int)=p.size.1) && decide (p.st.toNat≤4)))
def zA (n:Int) (m:List UInt8):Bool:=decide (n<(m.length:Int))
def mO (q:yP):Bool:=oD q.ch && (decide ((q.msgs.length:Int)≤q.ch.cap.1) && !q.msgs.any (zA q.ch.size.1))
def fC {α:Type} (id:α→Int) (ok:α→Bool):List α→Bool
 | []=>true
 | [x]=>ok x
 | x::y::l=>ok x && (decide (id x<id y) && fC id ok (y::l))
def jR (s:Ah):Bool:=decide (0≤s.fr.1∧s.fr.1≤1099511627776) && (decide (s.ps.length≤6) && (decide (s.qs.length≤8) && (fC (fun p:qg=>p.id.1) mF s.ps && fC (fun q:yP=>q.ch.id.1) mO s.qs)))
def oC (x:UInt32):List UInt8:=int8 x.toNat
def qJ (p:qg):List UInt8:=int8 p.id.1++(int8 p.size.1++(eH p.keep++(p.r.1.flatMap oC++(oC p.pc++([p.st]++jm p.mem)))))
def yT (q:yP):List UInt8:=FI q.ch++(int8 q.msgs.length++q.msgs.flatMap jm)
def rC (s:Ah):List UInt8:=int8 s.fr.1++((int8 s.ps.length++s.ps.flatMap qJ)++(int8 s.qs.length++s.qs.flatMap yT))
end Go.Proofs.YtlholdllibghbaaGreat
namespace Go.Cit
open Go Go.RowKit
section
variable {P:Program} {ops:Array Oper} {rest:List Oper} {o:Oper} {act:Act} {w w':World} {Q:Exit→Act→World→Prop} {ρ:Operand→Value} {post:Value→World→Prop}
theorem AX {T E:TypeId} {n b:Nat} {C C':Array Value} (hT:dJ P T n) (x y:Operand) (ho:o.op= .store T x y) (hx:ρ x= .pointer (some ⟨b,0,none⟩)) (hy:ρ y= .agg C') (hb:w.heap[b]? =some (.cells C E (0,0)))
 (hn:C.size=n) (hn':C'.size=n) (h1:C'.all (·.oneCell')=true)
 (h:∀w',w'.heap[b]? =some (.cells C' E (0,0))→Save (· ≠b) w w'→post undef w'):bK P post ((execOp ρ o).run P w):=by
 have hr:=run_storeVar_row (P:=P) w b E T C C' hb (by rw[hT.info,hn']) (by rw[hn,hn']) h1
 refine uo (w':=w.setRow b C') ?_ (h _ (jB hb) (jI _ _ _))
 unfold execOp
 simp only[ho,hx,hy,Sem.run_bind,Instr.storeAt,Instr.sureAddr,Sem.run_pure,Result.andThen,hr]
end
end Go.Cit
