/- Texts of the proof, one behind the other: StaE, ArrB, VCopy, StP. No condition but those that each names. -/
import Derived.Test.YtlholdllibghbaaGreatG16
import Derived.Test.YtlholdllibghbaaGreatG11
import Derived.Test.YtlholdllibghbaaGreatG14
import Derived.Test.YtlholdllibghbaaGreatG06
import Derived.Test.YtlholdllibghbaaGreatProg
import Derived.Test.YtlholdllibghbaaGreatG00
import Derived.Test.YtlholdllibghbaaGreatG15
import Derived.Test.YtlholdllibghbaaGreatKit
set_option maxRecDepth 100000
set_option maxHeartbeats 8000000
namespace Go.Proofs.YtlholdllibghbaaGreat
open Go Go.RowKit Go.Cit
theorem FN (s t:bU):s.fG=t.fG↔s.fr.1=t.fr.1∧s.ps.map aK.prt=t.ps.map aK.prt∧s.qs.map bF.kC=t.qs.map bF.kC:=by
 unfold bU.fG;rw[Ah.mk.injEq,Subtype.ext_iff]
theorem nP (w:World) (s t:bU) (hs:s.At w) (ht:t.At w):Calls Tryz.prog 12 #[.agg (dO s).toArray, .agg (dO t).toArray] w fun e w'=>e= .returned (.bool (decide (s.fG=t.fG)))∧Below w.heap.size w w':=by
 obtain⟨R,HR⟩:=AU (decide (s.fG=t.fG))
 rw[←HR.o]
 obtain⟨w0,hw0⟩:=AV ((w.alloc (.cells (dO s).toArray 32)).alloc (.cells (dO t).toArray 32))
 have B0:Below w.heap.size w w0:=by rw[hw0];exact((Below.refl _ w).alloc (Nat.le_refl _) _).alloc AO _
 have cx:∀(k:Nat) (v:Value),(dO s)[k]? =some v→w0.cell? ⟨w.heap.size,k,none⟩=some v:=fun k v h=>by rw[hw0];exact keepA _ (oq w _ _ k h)
 have cy:∀(k:Nat) (v:Value),(dO t)[k]? =some v→w0.cell? ⟨w.heap.size+1,k,none⟩=some v:=fun k v h=>by
  have:=oq (w.alloc (.cells (dO s).toArray 32)) (dO t) 32 k h
  rw[World.size_alloc] at this
  rw[hw0];exact this
 have c0:=cx 0 _ rfl
 have c1:=cx 1 _ rfl
 have c2:=cx 2 _ rfl
 have d0:=cy 0 _ rfl
 have d1:=cy 1 _ rfl
 have d2:=cy 2 _ rfl
 obtain⟨b1,hb1⟩:=AU (decide (s.ps.map aK.prt=t.ps.map aK.prt))
 obtain⟨b2,hb2⟩:=AU (decide (s.qs.map bF.kC=t.qs.map bF.kC))
 have hk1:=yw w0 s.pa t.pa s.ps t.ps s.pc t.pc (hs.stay B0).pts (ht.stay B0).pts (fun x y=>decide (x.prt=y.prt)) fun W hW x hx y hy=>wR W x y (((hs.stay B0).mem x hx).stay hW) (((ht.stay B0).mem y hy).stay hW)
 rw[mJ,←hb1.o] at hk1
 have HK1:=AQ hk1
 have HK2:Hid (∀w1,Below w0.heap.size w0 w1→Calls Tryz.prog 39 #[.slice s.qa s.qs.length s.qc, .slice t.qa t.qs.length t.qc, .func (.func 40) #[] #[]] w1 fun e w'=>e= .returned (.bool b2)∧Below w1.heap.size w1 w'):=fun w1 hb=>by
  have hk2:=xJ w1 s.qa t.qa s.qs t.qs s.qc t.qc ((hs.stay B0).stay hb).wJ ((ht.stay B0).stay hb).wJ (fun x y=>decide (x.kC=y.kC)) fun W hW x hx y hy=>wH W x y ((((hs.stay B0).stay hb).msg x hx).stay hW) ((((ht.stay B0).stay hb).msg y hy).stay hW)
  rw[mJ,←hb2.o] at hk2
  exact hk2
 have HP:=AQ (FN s t)
 have HB0:=AQ B0
 clear B0 hs ht cx cy hk1
 go_enter Tryz.func12,Tryz.ntmps12
 go_upto_region 1 with fail
 rw[←hw0]
 clear hw0
 go_wp2_with fail
 ·refine(HK1.o).mono ?_
  rintro e1 w1 ⟨rfl,hb⟩
  have HB1:=AQ (HB0.o.trans (hb.mono HB0.o.size))
  have HK2:=AQ (HK2.o w1 hb)
  have c2:=keep hb c2
  have d2:=keep hb d2
  clear hb HK1 c0 c1 d0 d1
  cases b1 with
  |
   false=>
   go_wp2_with fail
   go_ret
   refine⟨au ?_,HB1.o⟩
   rw[HR.o,decide_eq_false]
   intro h
   exact of_decide_eq_false hb1.o.symm (HP.o.1 h).2.1
  |
   true=>
   go_wp2_with fail
   refine(HK2.o).mono ?_
   rintro e2 w2 ⟨rfl,hb⟩
   have HB2:=AQ (HB1.o.trans (hb.mono HB1.o.size))
   clear hb
   go_wp2_with fail
   go_ret
   refine⟨au ?_,HB2.o⟩
   rw[HR.o,hb2.o]
   have:=of_decide_eq_true hb1.o.symm
   exact decide_eq_decide.2 (by rw[HP.o];simp_all)
 ·go_ret
  refine⟨au ?_,HB0.o⟩
  rw[HR.o,decide_eq_false]
  intro h
  have:=HP.o.1 h
  simp_all
def Ic (s:bU) (V:aZ):Bool:=(iP yh s.ps V.ps && decide (s.qs.map (·.ch)=V.cs)) && (jR s.fG && fitsV V)
theorem qZ (w:World) (s:bU) (V:aZ) (hs:s.At w) (hV:V.At w) (hm:fA V):Calls Tryz.prog 13 #[.agg (dO s).toArray, .agg #[.slice V.wa V.ws.length V.wc, .slice V.pa V.ps.length V.pc, .slice V.ca V.cs.length V.cc]] w fun e w'=>e= .returned (.bool (Ic s V))∧Below w.heap.size w w':=by
 obtain⟨b1,hb1⟩:=AU (iP yh s.ps V.ps)
 obtain⟨b2,hb2⟩:=AU (decide (s.qs.map (·.ch)=V.cs))
 obtain⟨b3,hb3⟩:=AU (jR s.fG)
 obtain⟨b4,hb4⟩:=AU (fitsV V)
 obtain⟨R,HR⟩:=AU (((b1 && b2) && (b3 && b4)))
 rw[show Ic s V=R by rw[HR.o,hb1.o,hb2.o,hb3.o,hb4.o];rfl]
 obtain⟨w0,hw0⟩:=AV ((w.alloc (.cells (dO s).toArray 32)).alloc (.cells #[.slice V.wa V.ws.length V.wc, .slice V.pa V.ps.length V.pc, .slice V.ca V.cs.length V.cc] 26))
 have B0:Below w.heap.size w w0:=by rw[hw0];exact((Below.refl _ w).alloc (Nat.le_refl _) _).alloc AO _
 have cx:∀(k:Nat) (v:Value),(dO s)[k]? =some v→w0.cell? ⟨w.heap.size,k,none⟩=some v:=fun k v h=>by rw[hw0];exact keepA _ (oq w _ _ k h)
 have cy:∀(k:Nat) (v:Value),[Value.slice V.wa V.ws.length V.wc, .slice V.pa V.ps.length V.pc, .slice V.ca V.cs.length V.cc][k]? =some v→w0.cell? ⟨w.heap.size+1,k,none⟩=some v:=fun k v h=>by
  have:=oq (w.alloc (.cells (dO s).toArray 32)) [Value.slice V.wa V.ws.length V.wc, .slice V.pa V.ps.length V.pc, .slice V.ca V.cs.length V.cc] 26 k h
  rw[World.size_alloc] at this
  rw[hw0];exact this
 have c0:=cx 0 _ rfl
 have c1:=cx 1 _ rfl
 have c2:=cx 2 _ rfl
 have d0:=cy 0 _ rfl
 have d1:=cy 1 _ rfl
 have d2:=cy 2 _ rfl
 have hk1:=xC w0 s.pa V.pa s.ps V.ps s.pc V.pc (hs.stay B0).pts (hV.stay B0).pts yh fun W hW x hx y hy=>xX W x y
 rw[←hb1.o] at hk1
 have HK1:=AQ hk1
 have HK2:Hid (∀w1,Below w0.heap.size w0 w1→Calls Tryz.prog 43 #[.slice s.qa s.qs.length s.qc, .slice V.ca V.cs.length V.cc, .func (.func 44) #[] #[]] w1 fun e w'=>e= .returned (.bool b2)∧Below w1.heap.size w1 w'):=fun w1 hb=>by
  have hk2:=xQ w1 s.qa V.ca s.qs V.cs s.qc V.cc ((hs.stay B0).stay hb).wJ ((hV.stay B0).stay hb).BU (fun x y=>decide (x.ch=id y)) fun W hW x hx y hy=>yc W x y
  rw[mJ,List.map_id,←hb2.o] at hk2
  exact hk2
 have HK3:Hid (∀w1,Below w0.heap.size w0 w1→Calls Tryz.prog 45 #[.agg (dO s).toArray] w1 fun e w'=>e= .returned (.bool b3)∧Below w1.heap.size w1 w'):=fun w1 hb=>by rw[hb3.o];exact jF w1 s ((hs.stay B0).stay hb)
 have HK4:Hid (∀w1,Below w0.heap.size w0 w1→Calls Tryz.prog 11 #[.agg #[.slice V.wa V.ws.length V.wc, .slice V.pa V.ps.length V.pc, .slice V.ca V.cs.length V.cc]] w1 fun e w'=>e= .returned (.bool b4)∧Below w1.heap.size w1 w'):=fun w1 hb=>by rw[hb4.o];exact lg w1 V ((hV.stay B0).stay hb) hm
 have HB0:=AQ B0
 clear B0 hs hV cx cy hk1
 go_enter Tryz.func13,Tryz.ntmps13
 go_upto_region 1 with fail
 rw[←hw0]
 clear hw0
 go_wp2_with fail
 refine(HK1.o).mono ?_
 rintro e1 w1 ⟨rfl,q1⟩
 have HK2:=AQ (HK2.o w1 q1)
 have c0:=keep q1 c0
 have c1:=keep q1 c1
 have c2:=keep q1 c2
 have d0:=keep q1 d0
 have d1:=keep q1 d1
 have d2:=keep q1 d2
 have Q1:=AQ q1
 clear q1 HK1
 go_wp2_with fail
 refine(HK2.o).mono ?_
 rintro e2 w2 ⟨rfl,q2⟩
 have c0:=keep q2 c0
 have c1:=keep q2 c1
 have c2:=keep q2 c2
 have d0:=keep q2 d0
 have d1:=keep q2 d1
 have d2:=keep q2 d2
 have Q2:=AQ (Q1.o.trans (q2.mono Q1.o.size))
 have HK3:=AQ (HK3.o w2 Q2.o)
 clear q2 HK2
 cases b1 with
 |
  false=>
  go_wp2_with fail
  go_ret
  exact⟨au HR.o.symm,HB0.o.trans (Q2.o.mono HB0.o.size)⟩
 |
  true=>
  cases b2 with
  |
   false=>
   go_wp2_with fail
   go_ret
   exact⟨au HR.o.symm,HB0.o.trans (Q2.o.mono HB0.o.size)⟩
  |
   true=>
   have L1:Hid ((Instr.loadAt 32 (.pointer (some ⟨w.heap.size,0,none⟩))).run Tryz.prog w2= .ok (.agg (dO s).toArray) w2):=jG (fun w=>AB) (fun w=>AB) c0 c1 c2
   go_wp2_with (with_reducible refine oz (o:=⟨some 22, .load _ (.tmp 2),_,_,_,_⟩) L1.o ?_)
   refine(HK3.o).mono ?_
   rintro e3 w3 ⟨rfl,q3⟩
   have d0:=keep q3 d0
   have d1:=keep q3 d1
   have d2:=keep q3 d2
   have Q3:=AQ (Q2.o.trans (q3.mono Q2.o.size))
   have HK4:=AQ (HK4.o w3 Q3.o)
   clear q3 HK3
   cases b3 with
   |
    false=>
    go_wp2_with fail
    go_ret
    exact⟨au HR.o.symm,HB0.o.trans (Q3.o.mono HB0.o.size)⟩
   |
    true=>
    have L2:Hid ((Instr.loadAt 26 (.pointer (some ⟨w.heap.size+1,0,none⟩))).run Tryz.prog w3= .ok (.agg #[.slice V.wa V.ws.length V.wc, .slice V.pa V.ps.length V.pc, .slice V.ca V.cs.length V.cc]) w3):=jG (fun w=>AB) (fun w=>AB) d0 d1 d2
    go_wp2_with (with_reducible refine oz (o:=⟨some 26, .load _ (.tmp 3),_,_,_,_⟩) L2.o ?_)
    refine(HK4.o).mono ?_
    rintro e4 w4 ⟨rfl,q4⟩
    have Q4:=AQ (Q3.o.trans (q4.mono Q3.o.size))
    clear q4
    go_wp2_with fail
    go_ret
    exact⟨au HR.o.symm,HB0.o.trans (Q4.o.mono HB0.o.size)⟩
open Go Go.RowKit Go.Cit
theorem qN {P:Program} {T E:TypeId} {n k:Nat} {C:Array Value} (w:World) (hT:P.underlying T=some (.array n E)) (hs:(sizeOf E).run P w= .ok 1 w) (hA:(isAgg E).run P w= .ok false w) (hC:C.size=n) (hk:k<n):
 (Instr.index T (.agg C) (.int .i64 (k:Int))).run P w= .ok C[k] w:=by
 have hk':(0:Int)≤(k:Int)∧(k:Int)<(n:Int):=by omega
 have hkC:k<C.size:=by omega
 simp[Instr.index,run_underlying hT,asIntOf,hs,hA,part,go_sem,hkC,hk]
theorem Iy:∀w,(isAgg 38).run Tryz.prog w= .ok false w:=by intro w;kernel_rfl
open Go Go.RowKit Go.Cit
@[reducible] def aK.new (x:aK) (a:Option Addr) (c:Nat):aK:=⟨x.id,x.size,x.keep,x.r,x.pc,x.st,a,x.mem,c⟩
theorem FH (x:aK) (a:Option Addr) (c:Nat):(cP x).setIfInBounds 13 (.slice a x.mem.length c)=cP (x.new a c):=by
 have h:=x.r.2
 obtain⟨⟨l,hl⟩,e⟩:∃r:R8,x.r=r:=⟨x.r,rfl⟩
 unfold cP bG aK.new
 rw[e]
 match l,hl with
 | [_,_,_,_,_,_,_,_],_=>rfl
theorem sF {w:World} {b:Nat} {x:aK} (h:w.heap[b]? =some (.cells (cP x) 42 (0,0))):(Instr.loadAt 42 (.pointer (some ⟨b,0,none⟩))).run Tryz.prog w= .ok (.agg (cP x)) w:=
 fE (C:=bG x) jo dD.sz (aH x) fun j v hv=>by
  rw[show(⟨b,0,none⟩:Addr).add j=⟨b,j,none⟩ by unfold Addr.add;split<;>simp_all]
  rw[World.cell?,h];simpa[cP] using hv
theorem nV (w:World) (x:aK) (h:Row w x.a x.mem x.c) (hl:x.mem.length≤1000000000):Calls Tryz.prog 101 #[.agg (cP x)] w fun e w'=>∃a c,e= .returned (.agg (cP (x.new a c)))∧Cit.Own 5 w.heap.size w' a x.mem c∧Below w.heap.size w w':=by
 obtain⟨B,hB⟩:=AV (w.heap.size)
 obtain⟨Z,hZ⟩:∃Z:Array Value,Hid (Z= #[.int .i64 0, .int .i64 0, .bool false, .int .u32 0, .int .u32 0, .int .u32 0, .int .u32 0, .int .u32 0, .int .u32 0, .int .u32 0, .int .u32 0, .int .u32 0, .int .u8 0, .slice none 0 0]):=⟨_,rfl⟩
 obtain⟨w0,hw0⟩:=AV ((w.alloc (.cells (cP x) 42)).alloc (.cells Z 42))
 have B0:Below w.heap.size w w0:=by rw[hw0];exact((Below.refl _ w).alloc (Nat.le_refl _) _).alloc AO _
 have hx1:w0.heap[B]? =some (.cells (cP x) 42 (0,0)):=by rw[hw0,hB];exact(Below.heap_alloc _ _ _ AO).trans (heap_alloc_new w _)
 have hx2:w0.heap[B+1]? =some (.cells Z 42 (0,0)):=by
  have:=heap_alloc_new (w.alloc (.cells (cP x) 42)) (.cells Z 42)
  rw[World.size_alloc] at this
  rw[hw0,hB];exact this
 have c13:w0.cell? ⟨B,13,none⟩=some (.slice x.a x.mem.length x.c):=by rw[World.cell?,hx1];exact(by simpa[cP] using iF x (k:=2) rfl)
 have HK:=AQ (mg w0 x.a x.mem x.c (h.stay B0) hl)
 have H0:=AQ (And.intro hx1 (And.intro hx2 B0))
 clear h hx1 hx2 B0
 go_enter Tryz.func101,Tryz.ntmps101
 go_upto_region 1 with fail
 rw[←hZ.o,←hw0,←hB]
 have HBB:=AQ hB
 clear hw0 hB
 go_wp2_with fail
 refine(HK.o).mono ?_
 rintro e w1 ⟨a,c,rfl,hO,hb1⟩
 have hx1:=ay H0.o.1 hb1
 have hx2:=ay H0.o.2.1 hb1
 have c13:=ak hx1 13 (by simpa[cP] using iF x (k:=2) rfl)
 have f13:=cu hx1 13
 obtain⟨w2,hw2⟩:=AV (w1.setCell ⟨B,13,none⟩ (.slice a x.mem.length c))
 have hs2:Save (· ≠B) w1 w2:=by rw[hw2];exact Save.set
 have hy1:w2.heap[B]? =some (.cells (cP (x.new a c)) 42 (0,0)):=by rw[hw2,←FH];exact bT _ hx1
 have hy2:=(hs2.block (B+1) (Array.getElem?_eq_some_iff.1 hx2).1 AL).trans hx2
 have hO2:=hO.save hs2 (fun g hg e=>own_ne hO hx1 AP (e▸hg))
 have L1:=AQ (sF hy1)
 have H2:=AQ (And.intro hy2 (And.intro hO2 ((H0.o.2.2.trans (hb1.mono H0.o.2.2.size)).trans (hs2.below (Nat.le_trans H0.o.2.2.size hb1.size) (fun k hk=>by have:=HBB.o;omega)))))
 have hcz:Hid (Z.size=14):=by rw[Hid,hZ.o];rfl
 have hbs:Hid (w.heap.size≤w0.heap.size):=H0.o.2.2.size
 clear hO hb1 hx1 hx2 hs2 hy1 hy2 hO2 HK
 go_upto_region 2 with fail
 rw[←hw2]
 clear hw2 c13 f13
 go_wp2_with (first
  | (with_reducible refine ku (o:=⟨some 7, .load _ (.tmp 1),_,_,_,_⟩) L1.o ?_)
  | ((with_reducible refine aV (o:=⟨none, .store _ (.tmp 2) _,_,_,_,_⟩) dR (.tmp 2) (.tmp 7) AA AA AA AA AA H2.o.1 hcz.o (dZ _) (jO _) ?_);intro w4 hg4 hs4))
 have hge:=fun g hg=>(H2.o.2.1.aQ (g:=g) hg).1
 refine bodyPost_ret (uV dR rfl (by rfl) hg4 (dZ _)) rfl ⟨a,c,rfl,(H2.o.2.1.save hs4 fun g hg e=> ?_).low hbs.o,H2.o.2.2.trans (hs4.below H2.o.2.2.size fun k hk=>by have:=HBB.o;omega)⟩
 exact own_ne H2.o.2.1 H2.o.1 AP (e▸hg)
open Go Go.RowKit Go.Cit
theorem cellP {w:World} {b:Nat} {x:aK} {T:TypeId} {fr:Nat×Nat} (h:w.heap[b]? =some (.cells (cP x) T fr)) {k:Nat} {v:Value} (hv:(bG x)[k]? =some v):w.cell? ⟨b,k,none⟩=some v:=by
 rw[World.cell?,h];simpa[cP] using hv
theorem kG (l:List UInt32):(l.flatMap oC).length=8*l.length:=by
 induction l with
 | nil=>rfl
 | cons x l ih=>rw[List.flatMap_cons,List.length_append,ih,List.length_cons];simp[oC,int8,aF];omega
theorem Gx {w:World} {o:Oper} {ρ:Operand→Value} {post:Value→World→Prop} {x:Operand} {y:UInt32} (h:o.op= .convert 38 3 x) (hx:ρ x=vw y) (hp:post (.int .i64 (y.toNat:Int)) w):bK Tryz.prog post ((execOp ρ o).run Tryz.prog w):=by
 refine jf (v:= .int .i64 (y.toNat:Int)) (w':=w) ?_ hp
 unfold execOp;rw[h];dsimp only;rw[hx]
 have h1:(convert 38 3 (vw y)).run Tryz.prog w= .ok (.int .i64 (y.toNat:Int)) w:=by
  have h2:=y.toNat_lt
  go_simp
  exact IntWalk.i64_in _ AL
 rw[Sem.run_bind,h1];rfl
def sp1 (x:aK) (b g p:Nat):Nat→Value
 | 5=>(.pointer (some ⟨b,0,none⟩))
 | 6=>(.pointer (some ⟨p,0,none⟩))
 | 7=>(.int .i64 x.id.1)
 | 8=>(.pointer (some ⟨b,0,none⟩))
 | 9=>(.pointer (some ⟨p,1,none⟩))
 | 10=>(.int .i64 x.size.1)
 | 11=>(.pointer (some ⟨b,0,none⟩))
 | 12=>(.pointer (some ⟨p,2,none⟩))
 | 13=>(.bool x.keep)
 | 14=>(.pointer (some ⟨b,0,none⟩))
 | _=>undef
def IG (x:aK) (b g p:Nat):Nat→Value
 | 1=>(.pointer (some ⟨g,0,none⟩))
 | 2=>(.pointer (some ⟨p,0,none⟩))
 | _=>undef
def Je (x:aK) (b g p:Nat):Nat→Value
 | 25=>(.pointer (some ⟨b,0,none⟩))
 | 26=>(.pointer (some ⟨p,11,none⟩))
 | 27=>(vw x.pc)
 | 28=>(.int .i64 (x.pc.toNat:Int))
 | 29=>(.pointer (some ⟨b,0,none⟩))
 | 30=>(.pointer (some ⟨p,12,none⟩))
 | 31=>(vb x.st)
 | 32=>(.pointer (some ⟨b,0,none⟩))
 | 33=>(.pointer (some ⟨p,13,none⟩))
 | 34=>(.slice x.a x.mem.length x.c)
 | 35=>(.pointer (some ⟨b,0,none⟩))
 | _=>undef
def Iz (x:aK) (b g p:Nat):Nat→Value
 | 1=>(.pointer (some ⟨g,0,none⟩))
 | 2=>(.pointer (some ⟨p,0,none⟩))
 | _=>undef
theorem yJ {base w b a l c} (h:Wr base w b a l c 0) (hbase:base≤w.heap.size) (g:Nat) (hg:w.heap[g]? =some (.cells #[.pointer (some ⟨b,0,none⟩)] 94 (0,0))) (x:aK) {w0:World} (hOld:Below w0.heap.size w0 w) (hR:Row w0 x.a x.mem x.c) (hB0:w0.heap.size≤base) (hroom:l.length+(94+x.mem.length)≤65536):
 Calls Tryz.prog 86 (#[.agg (cP x)]++ #[.pointer (some ⟨g,0,none⟩)]) w fun e w'=>e= .returned (.tuple #[])∧∃a' X c',Hid (X=l++qJ x.prt)∧Wr base w' b a' X c' 0∧Save (Off b a) w w'∧dP w.heap.size a a':=by
 show Calls Tryz.prog 86 #[.agg (cP x), .pointer (some ⟨g,0,none⟩)] w _
 obtain⟨w1,hw1⟩:=AV (w.alloc (.cells (cP x) 42))
 obtain⟨p,hp⟩:=AV (w.heap.size)
 have hb1:Below w.heap.size w w1:=by rw[hw1];exact(Below.refl _ w).alloc (Nat.le_refl _) _
 have hpx:w1.heap[p]? =some (.cells (cP x) 42 (0,0)):=by rw[hw1,hp];exact heap_alloc_new _ _
 have HWS:=AQ (h.stay hb1)
 have HGw1:=AQ (ay hg hb1)
 have HPw1:=AQ hpx
 have HB1:=AQ hb1
 have HGB:Hid (g≠b):=by rintro rfl;have:=h.blk;rw[hg] at this;simp at this
 have HPB:Hid (p≠b):=by have:=h.lt;rw[Hid];omega
 have hbs:base≤w1.heap.size:=Nat.le_trans hbase hb1.size
 have hOld1:=hOld.trans (hb1.mono hOld.size)
 have HROW0:Hid (∀W,Below w0.heap.size w0 W→Row W x.a x.mem x.c):=fun W hb=>hR.stay hb
 have HBEL:Hid (∀(a':Option Addr) (X':List UInt8) (c':Nat) (W:World),Wr base W b a' X' c' 0→∀k,k<w0.heap.size→Off b a' k):=fun a' X' c' W hw k hk=>⟨by have:=h.ge;omega,fun e=>by have:=(hw.own.aQ e.symm).1;omega⟩
 have HOLD:=AQ hOld1
 have HBS:=AQ hbs
 have G0:∀wx,Save (Off b a) w1 wx→wx.cell? ⟨g,0,none⟩=some (.pointer (some ⟨b,0,none⟩)):=fun wx hs=>(hs.cell (p:=⟨g,0,none⟩) (Array.getElem?_eq_some_iff.1 HGw1.o).1 ⟨HGB.o,fun e=>own_ne HWS.o.own HGw1.o AP e.symm⟩).trans (ak HGw1.o 0 rfl)
 have C0:∀wx,Save (Off b a) w1 wx→wx.cell? ⟨p,0,none⟩=some (.int .i64 x.id.1):=fun wx hs=>(hs.cell (p:=⟨p,0,none⟩) (Array.getElem?_eq_some_iff.1 HPw1.o).1 ⟨HPB.o,fun e=>own_ne HWS.o.own HPw1.o AP e.symm⟩).trans (cellP HPw1.o rfl)
 have C1:∀wx,Save (Off b a) w1 wx→wx.cell? ⟨p,1,none⟩=some (.int .i64 x.size.1):=fun wx hs=>(hs.cell (p:=⟨p,1,none⟩) (Array.getElem?_eq_some_iff.1 HPw1.o).1 ⟨HPB.o,fun e=>own_ne HWS.o.own HPw1.o AP e.symm⟩).trans (cellP HPw1.o rfl)
 have C2:∀wx,Save (Off b a) w1 wx→wx.cell? ⟨p,2,none⟩=some (.bool x.keep):=fun wx hs=>(hs.cell (p:=⟨p,2,none⟩) (Array.getElem?_eq_some_iff.1 HPw1.o).1 ⟨HPB.o,fun e=>own_ne HWS.o.own HPw1.o AP e.symm⟩).trans (cellP HPw1.o rfl)
 clear h hg hpx hb1 hOld hR hOld1
 go_enter Tryz.func86,Tryz.ntmps86
 go_upto_region 1 with fail
 rw[←hw1,←hp]
 have HPP:=AQ hp
 clear hw1 hp
 have St_save:∀ {k wx},(∃a' X c',Hid (X=l++(List.take k [int8 x.id.1,int8 x.size.1,eH x.keep]).flatten)∧Wr base wx b a' X c' 0∧Save (Off b a) w1 wx∧dP w1.heap.size a a')→Save (Off b a) w1 wx:=fun⟨_,_,_,_,_,h,_⟩=>h
 refine gQ (sp1 x b g p) (IG x b g p) [1,2] [3,6,9] (fun k wx=>∃a' X c',Hid (X=l++(List.take k [int8 x.id.1,int8 x.size.1,eH x.keep]).flatten)∧Wr base wx b a' X c' 0∧Save (Off b a) w1 wx∧dP w1.heap.size a a') AB AB AB ⟨rfl,rfl,trivial⟩ (fun w' hb hh=>⟨a,l,c,by simp[Hid],HWS.o.stay hb,Save.of hb,dP.refl _ _⟩) ?_ ?_
 ·refine ah ?_ (ah ?_ (ah ?_ (ah ?_ (ah ?_ (ah ?_ (ah ?_ (ah ?_ (ah ?_ (ah ?_ dL)))))))))
  all_goals intro ac hk
  ·exact⟨aj rfl, .inr ⟨by decide,fun k wx hk9 hst=>bP (.tmp 1) rfl (show ac.eval (.tmp 1)=(.pointer (some ⟨g,0,none⟩)) from hk.old 1 AB) (v:= .pointer (some ⟨b,0,none⟩)) (bg (fun w=>AB) (G0 wx (St_save hst))) ⟨rfl,rfl⟩⟩⟩
  ·exact⟨aj rfl, .inr ⟨by decide,fun k wx hk9 hst=>dh (.tmp 2) rfl (show ac.eval (.tmp 2)=(.pointer (some ⟨p,0,none⟩)) from hk.old 2 AB) (v:= .pointer (some ⟨p,0,none⟩)) (fun w=>AB) ⟨rfl,rfl⟩⟩⟩
  ·exact⟨aj rfl, .inr ⟨by decide,fun k wx hk9 hst=>bP (.tmp 6) rfl (show ac.eval (.tmp 6)=(.pointer (some ⟨p,0,none⟩)) from hk.slot 6 AB) (v:= .int .i64 x.id.1) (bg (fun w=>AB) (C0 wx (St_save hst))) ⟨rfl,rfl⟩⟩⟩
  ·refine⟨aj rfl, .inl ⟨0,rfl,fun wx hst=> ?_⟩⟩
   have hst0:=hst
   obtain⟨a',X,c',HX,hW,hS,hN⟩:=hst
   have hlen:X.length=l.length+0:=by rw[HX.o];simp[int8,aF,eH,aO]
   refine dw rfl rfl #[.pointer (some ⟨b,0,none⟩), .int .i64 x.id.1] (fun w=>AB) (by simp only[List.map_toArray,List.map_cons,List.map_nil,(show ac.eval (.tmp 5)=(.pointer (some ⟨b,0,none⟩)) from hk.slot 5 AB),(show ac.eval (.tmp 7)=(.int .i64 x.id.1) from hk.slot 7 AB)]) ((bH hW (Nat.le_trans hbs hS.size) x.id.1 AL).mono ?_)
   rintro e w' ⟨a2,X2,c2,H2,rfl,hW2,hS2,hN2⟩
   exact⟨_,rfl,⟨a2,X2,c2,by rw[Hid,H2.o,HX.o];simp[int8],hW2,Save.off hS hN hS2,hN.trans hN2 hS.size⟩,rfl⟩
  ·exact⟨aj rfl, .inr ⟨by decide,fun k wx hk9 hst=>dh (.tmp 2) rfl (show ac.eval (.tmp 2)=(.pointer (some ⟨p,0,none⟩)) from hk.old 2 AB) (v:= .pointer (some ⟨p,1,none⟩)) (fun w=>AB) ⟨rfl,rfl⟩⟩⟩
  ·exact⟨aj rfl, .inr ⟨by decide,fun k wx hk9 hst=>bP (.tmp 9) rfl (show ac.eval (.tmp 9)=(.pointer (some ⟨p,1,none⟩)) from hk.slot 9 AB) (v:= .int .i64 x.size.1) (bg (fun w=>AB) (C1 wx (St_save hst))) ⟨rfl,rfl⟩⟩⟩
  ·refine⟨aj rfl, .inl ⟨1,rfl,fun wx hst=> ?_⟩⟩
   have hst0:=hst
   obtain⟨a',X,c',HX,hW,hS,hN⟩:=hst
   have hlen:X.length=l.length+0+8:=by rw[HX.o];simp[int8,aF,eH,aO]
   refine dw rfl rfl #[.pointer (some ⟨b,0,none⟩), .int .i64 x.size.1] (fun w=>AB) (by simp only[List.map_toArray,List.map_cons,List.map_nil,(show ac.eval (.tmp 8)=(.pointer (some ⟨b,0,none⟩)) from hk.slot 8 AB),(show ac.eval (.tmp 10)=(.int .i64 x.size.1) from hk.slot 10 AB)]) ((bH hW (Nat.le_trans hbs hS.size) x.size.1 AL).mono ?_)
   rintro e w' ⟨a2,X2,c2,H2,rfl,hW2,hS2,hN2⟩
   exact⟨_,rfl,⟨a2,X2,c2,by rw[Hid,H2.o,HX.o];simp[int8],hW2,Save.off hS hN hS2,hN.trans hN2 hS.size⟩,rfl⟩
  ·exact⟨aj rfl, .inr ⟨by decide,fun k wx hk9 hst=>dh (.tmp 2) rfl (show ac.eval (.tmp 2)=(.pointer (some ⟨p,0,none⟩)) from hk.old 2 AB) (v:= .pointer (some ⟨p,2,none⟩)) (fun w=>AB) ⟨rfl,rfl⟩⟩⟩
  ·exact⟨aj rfl, .inr ⟨by decide,fun k wx hk9 hst=>bP (.tmp 12) rfl (show ac.eval (.tmp 12)=(.pointer (some ⟨p,2,none⟩)) from hk.slot 12 AB) (v:= .bool x.keep) (bg (fun w=>AB) (C2 wx (St_save hst))) ⟨rfl,rfl⟩⟩⟩
  ·refine⟨aj rfl, .inl ⟨2,rfl,fun wx hst=> ?_⟩⟩
   have hst0:=hst
   obtain⟨a',X,c',HX,hW,hS,hN⟩:=hst
   have hlen:X.length=l.length+0+8+8:=by rw[HX.o];simp[int8,aF,eH,aO]
   refine dw rfl rfl #[.pointer (some ⟨b,0,none⟩), .bool x.keep] (fun w=>AB) (by simp only[List.map_toArray,List.map_cons,List.map_nil,(show ac.eval (.tmp 11)=(.pointer (some ⟨b,0,none⟩)) from hk.slot 11 AB),(show ac.eval (.tmp 13)=(.bool x.keep) from hk.slot 13 AB)]) ((uS hW (Nat.le_trans hbs hS.size) x.keep AL).mono ?_)
   rintro e w' ⟨a2,X2,c2,H2,rfl,hW2,hS2,hN2⟩
   exact⟨_,rfl,⟨a2,X2,c2,by rw[Hid,H2.o,HX.o];simp[int8],hW2,Save.off hS hN hS2,hN.trans hN2 hS.size⟩,rfl⟩
 intro a9 w2 hst hsame hall
 obtain⟨a2,X2,c2,HXw2,hWw2,hSw2,hNw2⟩:=hst
 have he:=fB hsame [5,6,7,8,9,10,11,12,13,14] AB
 simp only[List.foldl_cons,List.foldl_nil] at he
 generalize a9.eval (.tmp 5)=y5 at he
 generalize a9.eval (.tmp 6)=y6 at he
 generalize a9.eval (.tmp 7)=y7 at he
 generalize a9.eval (.tmp 8)=y8 at he
 generalize a9.eval (.tmp 9)=y9 at he
 generalize a9.eval (.tmp 10)=y10 at he
 generalize a9.eval (.tmp 11)=y11 at he
 generalize a9.eval (.tmp 12)=y12 at he
 generalize a9.eval (.tmp 13)=y13 at he
 generalize a9.eval (.tmp 14)=y14 at he
 simp only[iK] at he
 dsimp only[List.set_cons_zero,List.set_cons_succ] at he
 subst he
 clear hsame hall St_save
 have HX2:Hid (X2=l++(int8 x.id.1++(int8 x.size.1++eH x.keep))):=by rw[Hid,HXw2.o];simp
 have HGw2:=AQ ((hSw2.block g (Array.getElem?_eq_some_iff.1 HGw1.o).1 ⟨HGB.o,fun e=>own_ne HWS.o.own HGw1.o AP e.symm⟩).trans HGw1.o)
 have HPw2:=AQ ((hSw2.block p (Array.getElem?_eq_some_iff.1 HPw1.o).1 ⟨HPB.o,fun e=>own_ne HWS.o.own HPw1.o AP e.symm⟩).trans HPw1.o)
 have HS2:=AQ (And.intro hSw2 hNw2)
 have HOLD2:=AQ (HOLD.o.trans (hSw2.below HOLD.o.size (HBEL.o _ _ _ _ HWS.o)))
 have HBS2:=AQ (Nat.le_trans hbs hSw2.size)
 have HWS:=AQ hWw2
 have LR:=AQ (DT w2 p x fun k v hv=>cellP HPw2.o hv)
 obtain⟨C,hC⟩:=AU ((x.r.1.map vw).toArray)
 rw[←hC.o] at LR
 have hCs:Hid (C.size=8):=by rw[Hid,hC.o];simp[x.r.2]
 have hx2l:Hid (X2.length=l.length+17):=by rw[Hid,HX2.o];simp[int8,aF,eH]
 clear hWw2 hSw2 hNw2 HXw2 G0 C0 C1 C2 hbs
 go_upto_region 3 with (with_reducible refine ku (o:=⟨some 16, .load _ (.tmp 15),_,_,_,_⟩) LR.o ?_)
 go_loopw [17] (fun i wr=>∃(k:Nat) (a':Option Addr) (X:List UInt8) (c':Nat),i= .int .i64 (k:Int)∧k≤8∧Hid (X=X2++(x.r.1.take k).flatMap oC)∧Wr base wr b a' X c' 0∧Save (Off b a2) w2 wr∧dP w2.heap.size a2 a') (fun i _=>8-(intOf i).toNat)
 case atStart=>exact⟨0,a2,X2,c2,rfl,Nat.zero_le _,by simp[Hid],HWS.o,Save.refl _ _,dP.refl _ _⟩
 case round=>
  obtain⟨k,a3,X3,c3,rfl,hk,H3,hW3,hS3,hN3⟩:=hrel
  have HW3:=AQ (And.intro hW3 (And.intro hS3 hN3))
  by_cases hlt:k<8
  ·have hkl:k<x.r.1.length:=by rw[x.r.2];exact hlt
   obtain⟨y,hy⟩:∃y,Hid (y=x.r.1[k]):=⟨x.r.1[k],rfl⟩
   have ix:∀W:World,(Instr.index 39 (.agg C) (.int .i64 (k:Int))).run Tryz.prog W= .ok (vw y) W:=fun W=>by
    have h1:=qN (P:=Tryz.prog) (n:=8) (k:=k) (C:=C) W Tryz.underlying39 AB (Iy W) hCs.o hlt
    rw[h1]
    have h2:C[k]'(by rw[hCs.o];exact hlt)=vw y:=by
     have h3:C[k]? =some (vw y):=by rw[hC.o,hy.o];simp[List.getElem?_eq_getElem hkl]
     exact(Array.getElem?_eq_some_iff.1 h3).2
    rw[h2]
   have c0:wr.cell? ⟨g,0,none⟩=some (.pointer (some ⟨b,0,none⟩)):=(hS3.cell (p:=⟨g,0,none⟩) (Array.getElem?_eq_some_iff.1 HGw2.o).1 ⟨HGB.o,fun e=>own_ne HWS.o.own HGw2.o AP e.symm⟩).trans (ak HGw2.o 0 rfl)
   have hl3:X3.length=X2.length+8*k:=by rw[H3.o,List.length_append,kG,List.length_take,x.r.2];omega
   have HK:=AQ (bH hW3 (Nat.le_trans HBS2.o hS3.size) (y.toNat:Int) (by have:=hx2l.o;omega))
   have HT:=AQ (jY oC x.r.1 k hkl)
   have HLT:=AQ hlt
   have hwr:wrap64 (y.toNat:Int)=(y.toNat:Int):=by have:=y.toNat_lt;unfold wrap64;omega
   clear hW3 hS3 hN3 hl3
   go_wp2_with fail
   refine(HK.o).mono ?_
   rintro e w5 ⟨a5,X5,c5,H5,rfl,hW5,hS5,hN5⟩
   have HW5:=AQ (And.intro hW5 (And.intro (Save.off HW3.o.2.1 HW3.o.2.2 hS5) (HW3.o.2.2.trans hN5 HW3.o.2.1.size)))
   have HN5:Hid (X5=X2++(x.r.1.take (k+1)).flatMap oC):=by rw[Hid,H5.o,H3.o,HT.o,hy.o];simp[oC,int8]
   clear hW5 hS5 hN5 HK ix c0
   go_wp2_with fail
   go_roundw
   case rel=>exact⟨k+1,a5,X5,c5,by go_num,HLT.o,HN5.o,HW5.o.1,HW5.o.2.1,HW5.o.2.2⟩
   case measure=>have:=HLT.o;simp[intOf];omega
  ·have hk8:k=8:=by omega
   have H38:Hid (X3=X2++x.r.1.flatMap oC):=by rw[Hid,H3.o,hk8,List.take_of_length_le (by rw[x.r.2];exact Nat.le_refl _)]
   obtain⟨w3,hw3⟩:=AV (wr)
   rw[←hw3] at HW3 ⊢
   have HGw3:=AQ ((HW3.o.2.1.block g (Array.getElem?_eq_some_iff.1 HGw2.o).1 ⟨HGB.o,fun e=>own_ne HWS.o.own HGw2.o AP e.symm⟩).trans HGw2.o)
   have HPw3:=AQ ((HW3.o.2.1.block p (Array.getElem?_eq_some_iff.1 HPw2.o).1 ⟨HPB.o,fun e=>own_ne HWS.o.own HPw2.o AP e.symm⟩).trans HPw2.o)
   have HOLD3:=AQ (HOLD2.o.trans (HW3.o.2.1.below HOLD2.o.size (HBEL.o _ _ _ _ HWS.o)))
   have HS3:=AQ (And.intro (Save.off HS2.o.1 HS2.o.2 HW3.o.2.1) (HS2.o.2.trans HW3.o.2.2 HS2.o.1.size))
   have HWS:=AQ HW3.o.1
   have hbs:=Nat.le_trans HBS2.o HW3.o.2.1.size
   have hx3l:X3.length=l.length+81:=by rw[H38.o,List.length_append,kG,hx2l.o,x.r.2]
   have HROW:∀wx,Save (Off b a3) w3 wx→Row wx x.a x.mem x.c:=fun wx hs=>HROW0.o wx (HOLD3.o.trans (hs.below HOLD3.o.size (HBEL.o _ _ _ _ HWS.o)))
   have G0:∀wx,Save (Off b a3) w3 wx→wx.cell? ⟨g,0,none⟩=some (.pointer (some ⟨b,0,none⟩)):=fun wx hs=>(hs.cell (p:=⟨g,0,none⟩) (Array.getElem?_eq_some_iff.1 HGw3.o).1 ⟨HGB.o,fun e=>own_ne HWS.o.own HGw3.o AP e.symm⟩).trans (ak HGw3.o 0 rfl)
   have C11:∀wx,Save (Off b a3) w3 wx→wx.cell? ⟨p,11,none⟩=some (vw x.pc):=fun wx hs=>(hs.cell (p:=⟨p,11,none⟩) (Array.getElem?_eq_some_iff.1 HPw3.o).1 ⟨HPB.o,fun e=>own_ne HWS.o.own HPw3.o AP e.symm⟩).trans (cellP HPw3.o (iF x (k:=0) rfl))
   have C12:∀wx,Save (Off b a3) w3 wx→wx.cell? ⟨p,12,none⟩=some (vb x.st):=fun wx hs=>(hs.cell (p:=⟨p,12,none⟩) (Array.getElem?_eq_some_iff.1 HPw3.o).1 ⟨HPB.o,fun e=>own_ne HWS.o.own HPw3.o AP e.symm⟩).trans (cellP HPw3.o (iF x (k:=1) rfl))
   have C13:∀wx,Save (Off b a3) w3 wx→wx.cell? ⟨p,13,none⟩=some (.slice x.a x.mem.length x.c):=fun wx hs=>(hs.cell (p:=⟨p,13,none⟩) (Array.getElem?_eq_some_iff.1 HPw3.o).1 ⟨HPB.o,fun e=>own_ne HWS.o.own HPw3.o AP e.symm⟩).trans (cellP HPw3.o (iF x (k:=2) rfl))
   clear hW3 hS3 hN3 hk8 hw3 H3
   go_upto_region 7 with fail
   have St_save:∀ {k wx},(∃a' X c',Hid (X=X3++(List.take k [int8 (x.pc.toNat:Int),[x.st],jm x.mem]).flatten)∧Wr base wx b a' X c' 0∧Save (Off b a3) w3 wx∧dP w3.heap.size a3 a')→Save (Off b a3) w3 wx:=fun⟨_,_,_,_,_,h,_⟩=>h
   refine gQ (Je x b g p) (Iz x b g p) [1,2] [4,7,10] (fun k wx=>∃a' X c',Hid (X=X3++(List.take k [int8 (x.pc.toNat:Int),[x.st],jm x.mem]).flatten)∧Wr base wx b a' X c' 0∧Save (Off b a3) w3 wx∧dP w3.heap.size a3 a') AB AB AB ⟨rfl,rfl,trivial⟩ (fun w' hb hh=>⟨a3,X3,c3,by simp[Hid],HWS.o.stay hb,Save.of hb,dP.refl _ _⟩) ?_ ?_
   ·refine ah ?_ (ah ?_ (ah ?_ (ah ?_ (ah ?_ (ah ?_ (ah ?_ (ah ?_ (ah ?_ (ah ?_ (ah ?_ dL))))))))))
    all_goals intro ac hk
    ·exact⟨aj rfl, .inr ⟨by decide,fun k wx hk9 hst=>bP (.tmp 1) rfl (show ac.eval (.tmp 1)=(.pointer (some ⟨g,0,none⟩)) from hk.old 1 AB) (v:= .pointer (some ⟨b,0,none⟩)) (bg (fun w=>AB) (G0 wx (St_save hst))) ⟨rfl,rfl⟩⟩⟩
    ·exact⟨aj rfl, .inr ⟨by decide,fun k wx hk9 hst=>dh (.tmp 2) rfl (show ac.eval (.tmp 2)=(.pointer (some ⟨p,0,none⟩)) from hk.old 2 AB) (v:= .pointer (some ⟨p,11,none⟩)) (fun w=>AB) ⟨rfl,rfl⟩⟩⟩
    ·exact⟨aj rfl, .inr ⟨by decide,fun k wx hk9 hst=>bP (.tmp 26) rfl (show ac.eval (.tmp 26)=(.pointer (some ⟨p,11,none⟩)) from hk.slot 26 AB) (v:=vw x.pc) (bg (fun w=>AB) (C11 wx (St_save hst))) ⟨rfl,rfl⟩⟩⟩
    ·exact⟨aj rfl, .inr ⟨by decide,fun k wx hk9 hst=>Gx rfl (show ac.eval (.tmp 27)=(vw x.pc) from hk.slot 27 AB) ⟨rfl,rfl⟩⟩⟩
    ·refine⟨aj rfl, .inl ⟨0,rfl,fun wx hst=> ?_⟩⟩
     have hst0:=hst
     obtain⟨a',X,c',HX,hW,hS,hN⟩:=hst
     have hlen:X.length=X3.length+0:=by rw[HX.o];simp[int8,aF,eH,aO]
     refine dw rfl rfl #[.pointer (some ⟨b,0,none⟩), .int .i64 (x.pc.toNat:Int)] (fun w=>AB) (by simp only[List.map_toArray,List.map_cons,List.map_nil,(show ac.eval (.tmp 25)=(.pointer (some ⟨b,0,none⟩)) from hk.slot 25 AB),(show ac.eval (.tmp 28)=(.int .i64 (x.pc.toNat:Int)) from hk.slot 28 AB)]) ((bH hW (Nat.le_trans hbs hS.size) (x.pc.toNat:Int) AL).mono ?_)
     rintro e w' ⟨a2,X2,c2,H2,rfl,hW2,hS2,hN2⟩
     exact⟨_,rfl,⟨a2,X2,c2,by rw[Hid,H2.o,HX.o];simp[int8],hW2,Save.off hS hN hS2,hN.trans hN2 hS.size⟩,rfl⟩
    ·exact⟨aj rfl, .inr ⟨by decide,fun k wx hk9 hst=>dh (.tmp 2) rfl (show ac.eval (.tmp 2)=(.pointer (some ⟨p,0,none⟩)) from hk.old 2 AB) (v:= .pointer (some ⟨p,12,none⟩)) (fun w=>AB) ⟨rfl,rfl⟩⟩⟩
    ·exact⟨aj rfl, .inr ⟨by decide,fun k wx hk9 hst=>bP (.tmp 30) rfl (show ac.eval (.tmp 30)=(.pointer (some ⟨p,12,none⟩)) from hk.slot 30 AB) (v:=vb x.st) (bg (fun w=>AB) (C12 wx (St_save hst))) ⟨rfl,rfl⟩⟩⟩
    ·refine⟨aj rfl, .inl ⟨1,rfl,fun wx hst=> ?_⟩⟩
     have hst0:=hst
     obtain⟨a',X,c',HX,hW,hS,hN⟩:=hst
     have hlen:X.length=X3.length+0+8:=by rw[HX.o];simp[int8,aF,eH,aO]
     refine dw rfl rfl #[.pointer (some ⟨b,0,none⟩),vb x.st] (fun w=>AB) (by simp only[List.map_toArray,List.map_cons,List.map_nil,(show ac.eval (.tmp 29)=(.pointer (some ⟨b,0,none⟩)) from hk.slot 29 AB),(show ac.eval (.tmp 31)=(vb x.st) from hk.slot 31 AB)]) ((jU hW (Nat.le_trans hbs hS.size) x.st AL).mono ?_)
     rintro e w' ⟨a2,X2,c2,H2,rfl,hW2,hS2,hN2⟩
     exact⟨_,rfl,⟨a2,X2,c2,by rw[Hid,H2.o,HX.o];simp[int8],hW2,Save.off hS hN hS2,hN.trans hN2 hS.size⟩,rfl⟩
    ·exact⟨aj rfl, .inr ⟨by decide,fun k wx hk9 hst=>dh (.tmp 2) rfl (show ac.eval (.tmp 2)=(.pointer (some ⟨p,0,none⟩)) from hk.old 2 AB) (v:= .pointer (some ⟨p,13,none⟩)) (fun w=>AB) ⟨rfl,rfl⟩⟩⟩
    ·exact⟨aj rfl, .inr ⟨by decide,fun k wx hk9 hst=>bP (.tmp 33) rfl (show ac.eval (.tmp 33)=(.pointer (some ⟨p,13,none⟩)) from hk.slot 33 AB) (v:= .slice x.a x.mem.length x.c) (bg (fun w=>AB) (C13 wx (St_save hst))) ⟨rfl,rfl⟩⟩⟩
    ·refine⟨aj rfl, .inl ⟨2,rfl,fun wx hst=> ?_⟩⟩
     have hst0:=hst
     obtain⟨a',X,c',HX,hW,hS,hN⟩:=hst
     have hlen:X.length=X3.length+0+8+1:=by rw[HX.o];simp[int8,aF,eH,aO]
     refine dw rfl rfl #[.pointer (some ⟨b,0,none⟩), .slice x.a x.mem.length x.c] (fun w=>AB) (by simp only[List.map_toArray,List.map_cons,List.map_nil,(show ac.eval (.tmp 32)=(.pointer (some ⟨b,0,none⟩)) from hk.slot 32 AB),(show ac.eval (.tmp 34)=(.slice x.a x.mem.length x.c) from hk.slot 34 AB)]) ((lW hW (Nat.le_trans hbs hS.size) (HROW wx (St_save hst0)) AL).mono ?_)
     rintro e w' ⟨a2,X2,c2,H2,rfl,hW2,hS2,hN2⟩
     exact⟨_,rfl,⟨a2,X2,c2,by rw[Hid,H2.o,HX.o];simp[int8],hW2,Save.off hS hN hS2,hN.trans hN2 hS.size⟩,rfl⟩
   intro a9 w4 hst hsame hall
   obtain⟨a4,X4,c4,HXw4,hWw4,hSw4,hNw4⟩:=hst
   have he:=fB hsame [25,26,27,28,29,30,31,32,33,34,35] AB
   simp only[List.foldl_cons,List.foldl_nil] at he
   generalize a9.eval (.tmp 25)=y25 at he
   generalize a9.eval (.tmp 26)=y26 at he
   generalize a9.eval (.tmp 27)=y27 at he
   generalize a9.eval (.tmp 28)=y28 at he
   generalize a9.eval (.tmp 29)=y29 at he
   generalize a9.eval (.tmp 30)=y30 at he
   generalize a9.eval (.tmp 31)=y31 at he
   generalize a9.eval (.tmp 32)=y32 at he
   generalize a9.eval (.tmp 33)=y33 at he
   generalize a9.eval (.tmp 34)=y34 at he
   generalize a9.eval (.tmp 35)=y35 at he
   simp only[iK] at he
   dsimp only[List.set_cons_zero,List.set_cons_succ] at he
   subst he
   clear hsame hall St_save
   have HZ:Hid (∃a' X c',Hid (X=l++qJ x.prt)∧Wr base w4 b a' X c' 0∧Save (Off b a) w w4∧dP w.heap.size a a'):=⟨a4,X4,c4,by rw[Hid,HXw4.o,H38.o,HX2.o];simp[qJ,aK.prt,oC],hWw4,(Save.of HB1.o).trans (Save.off HS3.o.1 HS3.o.2 hSw4),fun g hg=>((HS3.o.2.trans hNw4 HS3.o.1.size) g hg).imp id (fun h=>Nat.le_trans HB1.o.size h)⟩
   clear hWw4 hSw4 hNw4 HXw4 G0 C11 C12 C13 hbs HROW
   go_wp2_with fail
   go_end0
   exact⟨rfl,HZ.o⟩
end Go.Proofs.YtlholdllibghbaaGreat
