/- Texts of the proof, one behind the other: Plain12, Good, Fresh, StU. No condition but those that each names. -/
import Derived.Test.YtlholdllibghbaaGreatG11
import Derived.Test.YtlholdllibghbaaGreatG06
import Derived.Test.YtlholdllibghbaaGreatG09
import Derived.Deep.CutBlock
import Derived.Deep.DeepCutAuto
import Derived.Test.YtlholdllibghbaaGreatG19
import Derived.Test.YtlholdllibghbaaGreatG17
import Derived.Test.YtlholdllibghbaaGreatKit
set_option maxRecDepth 100000
set_option maxHeartbeats 8000000
namespace Go.Proofs.YtlholdllibghbaaGreat
open Go Go.RowKit Go.Cit
def jv (ps:List fV) (i:Nat):Int:=(ps[i]?.map (·.id.1)).getD 0
theorem rW (ps:List fV) (k:Nat) (h:k<ps.length):jv ps k=ps[k].id.1:=by simp[jv,h]
theorem vK:∀(ps:List fV) (last:Int),jw last ps=true↔∀i,i<ps.length→(if i=0 then last else jv ps (i-1))<jv ps i∧jv ps i≤6
 | [],last=>by simp[jw]
 |
  x::r,last=>by
  rw[jw,Bool.and_eq_true,decide_eq_true_iff,vK r]
  constructor
  ·rintro⟨h1,h2⟩ i hi
   cases i with
   | zero=>simpa[jv] using h1
   |
    succ j=>
    have:=h2 j (by simpa using hi)
    cases j with
    | zero=>simpa[jv] using this
    | succ j=>simpa[jv] using this
  ·intro h
   refine⟨by simpa[jv] using h 0 AO,fun i hi=> ?_⟩
   have:=h (i+1) (by simpa using hi)
   cases i with
   | zero=>simpa[jv] using this
   | succ j=>simpa[jv] using this
open Go Go.RowKit Go.Cit
structure Good (V:aZ):Prop where
 may:tq V.ws=true
 few:1≤V.ps.length∧V.ps.length≤6
 IE:jw 0 V.ps=true
 reg:∀x∈V.ps,dY x.reg=true∧(x.img.length:Int)≤x.reg.size.1
 apart:jX (V.ps.map (·.reg))=0
 win:∀x∈V.ws,x.part.1=0∨iC V.ps x.part.1=true
 IQ:V.cs.length≤8
 chk:kQ V.cs=0
 ends:∀x∈V.cs,iC V.ps x.src.1=true∧iC V.ps x.dst.1=true
theorem BZ {V:aZ}:errs V=[]↔dW V=false∧dV V.ps=false∧dQ V.ps=false∧dN V.ps=false∧dH V=false:=by
 unfold errs dM jP
 cases dW V<;>cases dV V.ps<;>cases dQ V.ps<;>cases dN V.ps<;>cases dH V<;>simp
theorem rU {ps:List fV} (h:∀x∈ps,dY x.reg=true):jd ps=ps.map (·.reg):=by
 unfold jd
 rw[List.filter_eq_self.2 h]
theorem oN {ps:List fV}:dQ ps=false↔∀x∈ps,dY x.reg=true∧(x.img.length:Int)≤x.reg.size.1:=by
 unfold dQ
 rw[List.any_eq_false]
 refine forall_congr' fun x=>forall_congr' fun _=> ?_
 unfold nM
 cases dY x.reg<;>simp
theorem qh {V:aZ}:errs V=[]↔Good V:=by
 rw[BZ]
 have e1:dW V=false↔tq V.ws=true∧∀x∈V.ws,x.part.1=0∨iC V.ps x.part.1=true:=by
  unfold dW
  rw[Bool.or_eq_false_iff,List.any_eq_false]
  refine and_congr AO (forall_congr' fun x=>forall_congr' fun _=> ?_)
  unfold jV
  cases iC V.ps x.part.1<;>simp
 have e2:dV V.ps=false↔(1≤V.ps.length∧V.ps.length≤6)∧jw 0 V.ps=true:=by
  unfold dV
  rw[Bool.or_eq_false_iff]
  refine and_congr ?_ AO
  rw[decide_eq_false_iff_not];omega
 have e5:dH V=false↔V.cs.length≤8∧kQ V.cs=0∧∀x∈V.cs,iC V.ps x.src.1=true∧iC V.ps x.dst.1=true:=by
  unfold dH
  rw[Bool.or_eq_false_iff,Bool.or_eq_false_iff,List.any_eq_false]
  refine and_congr AO (and_congr AO (forall_congr' fun x=>forall_congr' fun _=> ?_))
  unfold rH
  cases iC V.ps x.src.1<;>cases iC V.ps x.dst.1<;>simp
 rw[e1,e2,e5,oN]
 constructor
 ·rintro⟨⟨a,b⟩,⟨c,d⟩,e,f,g,h,i⟩
  refine⟨a,c,d,e, ?_,b,g,h,i⟩
  unfold dN at f
  rw[rU (fun x hx=>(e x hx).1)] at f
  simpa using f
 ·rintro⟨a,c,d,e,f,b,g,h,i⟩
  refine⟨⟨a,b⟩,⟨c,d⟩,e, ?_,g,h,i⟩
  unfold dN
  rw[rU (fun x hx=>(e x hx).1)]
  simpa using f
theorem yL:∀(ps:List fV) (last:Int),jw last ps=true→∀x∈ps,last<x.id.1∧x.id.1≤6
 | [],_,_,x,hx=>by simp at hx
 |
  y::r,last,h,x,hx=>by
  rw[jw,Bool.and_eq_true,decide_eq_true_eq] at h
  rcases List.mem_cons.1 hx with rfl |hx
  ·exact h.1
  ·have:=yL r _ h.2 x hx;omega
theorem uY:∀(ps:List fV) (last:Int),jw last ps=true→∀k (hk:k<ps.length),ps.find? (fun x=>decide (x.id.1=ps[k].id.1))=some ps[k]
 | [],_,_,k,hk=>by simp at hk
 |
  y::r,last,h,k,hk=>by
  rw[jw,Bool.and_eq_true,decide_eq_true_eq] at h
  cases k with
  | zero=>simp
  |
   succ k=>
   have hk':k<r.length:=by simpa using hk
   have:=yL r _ h.2 r[k] (List.getElem_mem hk')
   rw[List.find?_cons_of_neg]
   ·simpa using uY r _ h.2 k hk'
   ·simp;omega
theorem Good.part {V:aZ} (h:Good V) (k:Nat) (hk:k<V.ps.length):zl V.ps V.ps[k].id.1=V.ps[k].pt:=by
 unfold zl;rw[uY _ _ h.IE k hk];rfl
open Go Go.RowKit Go.Cit
def fM (x:Pt):qg:=⟨x.id,x.reg.size,x.keep,r0,0,0,jJ x.reg.size.1.toNat x.img⟩
def jS (c:Ch):yP:=⟨c,[]⟩
def fU (c:GV):Ah:=⟨iZ 0,c.parts.map fM,c.chans.map jS⟩
@[reducible] def jL:bU:=⟨iZ 0,none,[],0,none,[],0⟩
theorem DU:(42:Nat)≠32:=by decide
theorem Gh:(51:Nat)≠32:=by decide
theorem dF:dJ Tryz.prog 32 3:=⟨⟨_,Tryz.underlying32,rfl⟩,by kernel_rfl⟩
theorem Bv {w w':World} {a b:Option Addr} {l:List UInt8} {c:Nat} (h:Row w a l c) (hg:w.grownBy w' (blk b)) (hn:l≠ []→∀g,blk a=some g→blk b≠some g):Row w' a l c:=
 h.save' (Save.grown hg) fun h0 g hg' e=>hn h0 g hg' e.symm
theorem rM {w w':World} {row:Option Nat} {k:Nat} {o:Obj} (hg:w.grownBy w' row) (h:w.heap[k]? =some o) (hn:row≠some k):w'.heap[k]? =some o:=((Save.grown hg).block k (Array.getElem?_eq_some_iff.1 h).1 (fun e=>hn e.symm)).trans h
theorem iq {T:Nat→Prop} {w w1 w2:World} (h:Save T w w1) (hb:Below w.heap.size w1 w2):Save T w w2:=
 ⟨hb.os.trans h.os,hb.tape.trans h.tape,hb.output.trans h.output,Nat.le_trans h.size hb.size,fun k hk ht=>(hb.block k hk).trans (h.block k hk ht)⟩
theorem nX (w:World) (V:aZ) (hV:V.At w) (hm:fA V):Calls Tryz.prog 10 #[.agg #[.slice V.wa V.ws.length V.wc, .slice V.pa V.ps.length V.pc, .slice V.ca V.cs.length V.cc]] w fun e w'=>∃s:bU,e= .returned (.tuple #[.agg (dO s).toArray, .int .i64 (if fitsV V then 0 else 2)])∧s.fG=(if fitsV V then fU V.cfg else jL.fG)∧s.At w'∧Below w.heap.size w w':=by
 obtain⟨B,hB⟩:=AV (w.heap.size)
 obtain⟨w0,hw0⟩:=AV ((w.alloc (.cells #[.slice V.wa V.ws.length V.wc, .slice V.pa V.ps.length V.pc, .slice V.ca V.cs.length V.cc] 26)).alloc (.cells #[.int .i64 0, .slice none 0 0, .slice none 0 0] 32))
 have B0:Below w.heap.size w w0:=by rw[hw0];exact((Below.refl _ w).alloc (Nat.le_refl _) _).alloc AO _
 have hx1:w0.heap[B]? =some (.cells #[.slice V.wa V.ws.length V.wc, .slice V.pa V.ps.length V.pc, .slice V.ca V.cs.length V.cc] 26 (0,0)):=by rw[hw0,hB];exact(Below.heap_alloc _ _ _ AO).trans (heap_alloc_new w _)
 have hx2:w0.heap[B+1]? =some (.cells #[.int .i64 0, .slice none 0 0, .slice none 0 0] 32 (0,0)):=by
  have:=heap_alloc_new (w.alloc (.cells #[.slice V.wa V.ws.length V.wc, .slice V.pa V.ps.length V.pc, .slice V.ca V.cs.length V.cc] 26)) (.cells #[.int .i64 0, .slice none 0 0, .slice none 0 0] 32)
  rw[World.size_alloc] at this
  rw[hw0,hB];exact this
 have HV:=AQ (hV.stay B0)
 obtain⟨f,hf⟩:=AU (fitsV V)
 have hk:=lg w0 V (hV.stay B0) hm
 rw[←hf.o] at hk ⊢
 have HK:=AQ hk
 have H0:=AQ (And.intro hx1 (And.intro hx2 B0))
 have L1:=AQ (show(Instr.loadAt 26 (.pointer (some ⟨B,0,none⟩))).run Tryz.prog w0= .ok (.agg #[.slice V.wa V.ws.length V.wc, .slice V.pa V.ps.length V.pc, .slice V.ca V.cs.length V.cc]) w0 from jG (fun w=>AB) (fun w=>AB) (ak hx1 0 rfl) (ak hx1 1 rfl) (ak hx1 2 rfl))
 have hl1:=hV.pts.aI
 have hl2:=hV.BU.aI
 clear hV hx1 hx2 B0 hk
 go_enter Tryz.func10,Tryz.ntmps10
 go_upto_region 1 with fail
 rw[←hw0,←hB]
 have HBB:=AQ hB
 clear hw0 hB
 go_wp2_with (with_reducible refine ku (o:=⟨some 11, .load _ (.tmp 1),_,_,_,_⟩) L1.o ?_)
 refine(HK.o).mono ?_
 rintro e w1 ⟨rfl,hb1⟩
 have H1:=AQ (And.intro (ay H0.o.1 hb1) (And.intro (ay H0.o.2.1 hb1) (H0.o.2.2.trans (hb1.mono H0.o.2.2.size))))
 have HV1:=AQ (HV.o.stay hb1)
 clear hb1 HK L1
 cases f with
 |
  false=>
  go_wp2_with ((with_reducible refine aV (o:=⟨none, .store _ (.tmp 2) _,_,_,_,_⟩) dF (.tmp 2) (.tmp 14) AA AA AA AA AA H1.o.2.1 AA AA AA ?_);intro w4 hg4 hs4)
  refine bodyPost_ret (lN dF rfl (by rfl) hg4 rfl) rfl ⟨jL,rfl,rfl,⟨Vec.nil_ _,fun x hx=>by simp at hx,Vec.nil_ _,fun x hx=>by simp at hx⟩,H1.o.2.2.trans (hs4.below H1.o.2.2.size fun k hk=>by have:=HBB.o;omega)⟩
 |
  true=>
  have HG:=AQ (qh.1 (of_decide_eq_true (show decide (errs V=[])=true from hf.o.symm)))
  obtain⟨S,hS⟩:=AV (w1.heap.size)
  obtain⟨w3,hw3⟩:=AV (w1.alloc (.cells #[.int .i64 0, .slice none 0 0, .slice none 0 0] 32))
  have hb3:Below w1.heap.size w1 w3:=by rw[hw3];exact(Below.refl _ _).alloc (Nat.le_refl _) _
  have hS3:w3.heap[S]? =some (.cells #[.int .i64 0, .slice none 0 0, .slice none 0 0] 32 (0,0)):=by rw[hw3,hS];exact heap_alloc_new _ _
  have HS:=AQ hS
  have H3:=AQ (And.intro (ay H1.o.1 hb3) (And.intro (ay H1.o.2.1 hb3) (And.intro (H1.o.2.2.trans (hb3.mono H1.o.2.2.size)) hS3)))
  have HV3:=AQ (HV1.o.stay hb3)
  have hSB:Hid (B+1<S∧w.heap.size≤S):=by
   have:=(Array.getElem?_eq_some_iff.1 H1.o.2.1).1
   have:=HBB.o
   exact⟨by omega,by omega⟩
  have c1:=ak H3.o.1 1 rfl
  have HB3:=AQ hb3
  clear hb3 hS3
  go_upto_region 4 with fail
  rw[←hw3,←hS]
  clear hw3 hS
  go_wp2_with fail
  go_loopw [18] (fun i wr=>∃(k:Nat) (a:Option Addr) (L:List aK) (c:Nat),i= .int .i64 (k:Int)∧k≤V.ps.length∧Hid (L.map aK.prt=(V.ps.take k).map fun x=>fM x.pt)∧wr.heap[S]? =some (.cells #[.int .i64 0, .slice a L.length c, .slice none 0 0] 32 (0,0))∧aW bG 14 42 w3.heap.size wr a L c∧(∀x∈L,Row wr x.a x.mem x.c∧(x.mem≠ []→∀g,blk x.a=some g→w3.heap.size≤g∧blk a≠some g))∧Save (· ≠S) w3 wr) (fun i _=>V.ps.length-(intOf i).toNat)
  case atStart=>exact⟨0,none,[],0,rfl,Nat.zero_le _,rfl,H3.o.2.2.2,aW.nil_ _ _ _ _ _,fun x hx=>by simp at hx,Save.refl _ _⟩
  case round=>
   obtain⟨k,a,L,c,rfl,hk,HL,hSr,hO,hI,hSv⟩:=hrel
   by_cases hlt:k<V.ps.length
   ·have hB1:Below w1.heap.size w1 wr:=HB3.o.trans (hSv.below HB3.o.size fun j hj=>by have:=HS.o;omega)
    have i0:=HV1.o.pts.index Eh k hlt
    obtain⟨u0,u1,u2,u3,u4⟩:=eU HV1.o.pts hB1 k hlt
    have hrow:=(HV1.o.img V.ps[k] (List.getElem_mem hlt)).stay hB1
    have hreg:=HG.o.reg V.ps[k] (List.getElem_mem hlt)
    obtain⟨x,hx⟩:∃x:fV,Hid (x=V.ps[k]):=⟨V.ps[k],rfl⟩
    rw[←hx.o] at u0 u1 u2 u3 u4 hrow hreg
    have hr:=of_decide_eq_true hreg.1
    obtain⟨n,hn⟩:∃n:Nat,Hid (x.reg.size.1=(n:Int)):=⟨x.reg.size.1.toNat,by rw[Hid];omega⟩
    have hn5:n≤512:=by have:=hn.o;omega
    have hni:x.img.length≤n:=by have:=hn.o;have:=hreg.2;omega
    obtain⟨p,hp⟩:=AV (wr.heap.size)
    obtain⟨wb,hwb⟩:=AV (wr.alloc (.cells #[.int .i64 x.id.1, .int .i64 x.reg.base.1, .int .i64 x.reg.size.1, .bool x.keep, .slice x.a x.img.length x.c] 46))
    have hbb:Below wr.heap.size wr wb:=by rw[hwb];exact(Below.refl _ _).alloc (Nat.le_refl _) _
    have hpb:wb.heap[p]? =some (.cells #[.int .i64 x.id.1, .int .i64 x.reg.base.1, .int .i64 x.reg.size.1, .bool x.keep, .slice x.a x.img.length x.c] 46 (0,0)):=by rw[hwb,hp];exact heap_alloc_new _ _
    have hk1:=yG wb n (hrow.stay hbb) hn5 hni
    rw[←hn.o] at hk1
    have HK:=AQ hk1
    have HP:=AQ (And.intro hp (And.intro hpb hbb))
    have HR:=AQ (And.intro hSr (And.intro hO (And.intro hI hSv)))
    have d1:=ak hpb 2 rfl
    have d4:=ak hpb 4 rfl
    have HL9:Hid (L.length≤100):=by
     have h2:=congrArg List.length HL.o
     simp only[List.length_map,List.length_take] at h2
     have:=HG.o.few.2
     rw[Hid];omega
    have HLT:=AQ hlt
    clear hB1 hrow hreg hr hn5 hni hbb hpb hk1 hSr hO hI hSv
    go_upto_region 7 with fail
    rw[←hwb,←hp]
    clear hwb hp u0 u1 u2 u3 u4 i0
    go_wp2_with fail
    refine(HK.o).mono ?_
    rintro e w5 ⟨b,d,X,hX,rfl,hM,hb5⟩
    have hp5:=ay HP.o.2.1 hb5
    have hbr5:Below wr.heap.size wr w5:=HP.o.2.2.trans (hb5.mono HP.o.2.2.size)
    have hS5:=ay HR.o.1 hbr5
    have HX5:=AQ (And.intro hX (And.intro hM hbr5))
    have HP5:=AQ hp5
    have HS5:=AQ hS5
    have HO5:=AQ (HR.o.2.1.stay hbr5)
    have hsz:w3.heap.size≤w5.heap.size:=Nat.le_trans HR.o.2.2.2.size hbr5.size
    have HSZ:=AQ hsz
    have e0:=ak hp5 0 rfl
    have e2:=ak hp5 2 rfl
    have e3:=ak hp5 3 rfl
    have s1:=ak hS5 1 rfl
    obtain⟨y,hy⟩:∃y:aK,Hid (y=⟨x.id,x.reg.size,x.keep,r0,0,0,b,X,d⟩):=⟨_,rfl⟩
    have hcy:Hid ((#[.int .i64 x.id.1, .int .i64 x.reg.size.1, .bool x.keep, .int .u32 0, .int .u32 0, .int .u32 0, .int .u32 0, .int .u32 0, .int .u32 0, .int .u32 0, .int .u32 0, .int .u32 0, .int .u8 0, .slice b X.length d]:Array Value)=(bG y).toArray):=by rw[hy.o];rfl
    clear HK hX hM hbr5 hb5 hp5 hS5 hsz d1 d4
    go_wp2_with (first
     | ((with_reducible refine aP (o:=⟨some 42, .buildSlice _ _ _,_,_,_,_⟩) AA (lT dD (.tmp 41) (.agg #[.int .i64 x.id.1, .int .i64 x.reg.size.1, .bool x.keep, .int .u32 0, .int .u32 0, .int .u32 0, .int .u32 0, .int .u32 0, .int .u32 0, .int .u32 0, .int .u32 0, .int .u32 0, .int .u8 0, .slice b X.length d]) #[.int .i64 x.id.1, .int .i64 x.reg.size.1, .bool x.keep, .int .u32 0, .int .u32 0, .int .u32 0, .int .u32 0, .int .u32 0, .int .u32 0, .int .u32 0, .int .u32 0, .int .u32 0, .int .u8 0, .slice b X.length d] rfl AA AA AA AP _) ?_))
     | ((with_reducible refine bn (o:=⟨some 43, .call _,_,_,_,_⟩) dD aH gu (y:=y) (.tmp 32) (.tmp 42) AA AA HO5.o hcy.o (by have:=HL9.o;omega) HSZ.o AA AA ?_);intro a4 k4 w6 hO4 hg4 hn4;have hS6:=rM hg4 HS5.o (fun e=>iJ HO5.o HS5.o DU S e rfl);have s1:=ak hS6 1 rfl;have f1:=cu hS6 1;have HO4:=AQ (And.intro hO4 (And.intro hg4 (And.intro hn4 hS6)));clear hO4 hg4 hn4 hS6))
    have hg9:Hid (∀z∈L++ [y],Row w6 z.a z.mem z.c∧(z.mem≠ []→∀g,blk z.a=some g→w3.heap.size≤g∧blk a4≠some g)):=fun z hz=>by
     have hz5:Row w5 z.a z.mem z.c∧(z.mem≠ []→∀g,blk z.a=some g→w3.heap.size≤g∧blk a≠some g):=by
      rcases List.mem_append.1 hz with hz |hz
      ·exact⟨(HR.o.2.2.1 z hz).1.stay HX5.o.2.2,(HR.o.2.2.1 z hz).2⟩
      ·obtain rfl:z=y:=by simpa using hz
       rw[hy.o]
       refine⟨HX5.o.2.1.row,fun _ g hg=> ?_⟩
       have h1:=HX5.o.2.1.new g hg
       have h2:=HP.o.2.2.size
       have h3:=HR.o.2.2.2.size
       refine⟨by omega,fun e=> ?_⟩
       have:=(HR.o.2.1.aQ e).2
       omega
     refine⟨Bv hz5.1 HO4.o.2.1 fun h g hg=>(hz5.2 h g hg).2,fun h g hg=>⟨(hz5.2 h g hg).1,fun e=> ?_⟩⟩
     rcases HO4.o.2.2.1 g e with h1 |h1
     ·exact(hz5.2 h g hg).2 h1
     ·obtain⟨g2,off,e2⟩:=hz5.1.spot h
      have h2:=hz5.1.cell 0 (List.length_pos_iff.2 h)
      have h3:=World.block_lt_of_cell? w5 _ h2
      rw[e2] at hg h3
      simp[blk] at hg
      simp[ad] at h3
      omega
    have HSS:Hid (S<w3.heap.size):=(Array.getElem?_eq_some_iff.1 H3.o.2.2.2).1
    have HSv:Hid (Save (· ≠S) w3 w6):=iq (HR.o.2.2.2.trans (Save.of HX5.o.2.2)) (HO5.o.grown HO4.o.2.1 HSZ.o)
    have HN:Hid ((L++ [y]).map aK.prt=(V.ps.take (k+1)).map fun x=>fM x.pt):=by
     rw[Hid,List.map_append,HL.o,List.take_succ_eq_append_getElem HLT.o,List.map_append,←hx.o]
     congr 1
     rw[List.map_cons,List.map_nil,List.map_cons,List.map_nil,hy.o,HX5.o.1.o]
     have e1:x.reg.size.1.toNat=n:=by rw[hn.o];rfl
     unfold aK.prt fM fV.pt
     dsimp only
     rw[e1]
    go_roundw
    case rel=>
     have h8:=HV1.o.pts.aI
     have h9:=HLT.o
     refine⟨k+1,a4,L++ [y],k4,by go_num,HLT.o,HN.o,by rw[List.length_append];exact bT _ HO4.o.2.2.2,HO4.o.1.save Save.set (fun g hg=>iJ HO4.o.1 HO4.o.2.2.2 DU g hg),fun z hz=>⟨(hg9.o z hz).1.save' Save.set (fun h g hg=> ?_),(hg9.o z hz).2⟩,HSv.o.trans Save.set⟩
     have h1:=((hg9.o z hz).2 h g hg).1
     have h2:=HSS.o
     show g≠S
     omega
    case measure=>have h9:=HLT.o;simp[intOf];omega
   ·have hk2:k=V.ps.length:=by omega
    have HL2:Hid (L.map aK.prt=V.ps.map fun x=>fM x.pt):=by rw[Hid,HL.o,hk2,List.take_length]
    obtain⟨wl,hwl⟩:=AV (wr)
    have HR:=AQ (And.intro hSr (And.intro hO (And.intro hI hSv)))
    rw[←hwl] at HR ⊢
    have HSS:Hid (S<w3.heap.size):=(Array.getElem?_eq_some_iff.1 H3.o.2.2.2).1
    have HB1:Hid (Below w1.heap.size w1 wl):=HB3.o.trans (HR.o.2.2.2.below HB3.o.size fun j hj=>by have:=HS.o;omega)
    have hB9:=(HR.o.2.2.2.block B (Array.getElem?_eq_some_iff.1 H3.o.1).1 (by have:=hSB.o;omega)).trans H3.o.1
    have c2:=ak hB9 2 rfl
    clear hSr hO hI hSv HL hk2 hwl c1 hB9
    go_upto_region 11 with fail
    go_loopw [49] (fun i wr=>∃(k:Nat) (a2:Option Addr) (M:List bF) (m2:Nat),i= .int .i64 (k:Int)∧k≤V.cs.length∧Hid (M=(V.cs.take k).map fun x=>⟨x,none,[],0⟩)∧wr.heap[S]? =some (.cells #[.int .i64 0, .slice a L.length c, .slice a2 M.length m2] 32 (0,0))∧aW bZ 6 51 wl.heap.size wr a2 M m2∧Save (· ≠S) wl wr) (fun i _=>V.cs.length-(intOf i).toNat)
    case atStart=>exact⟨0,none,[],0,rfl,Nat.zero_le _,rfl,HR.o.1,aW.nil_ _ _ _ _ _,Save.refl _ _⟩
    case round=>
     obtain⟨k,a2,M,m2,rfl,hk,HM,hSr,hO,hSv⟩:=hrel
     by_cases hlt:k<V.cs.length
     ·have hB1:Below w1.heap.size w1 wr:=HB1.o.trans (hSv.below HB1.o.size fun j hj=>by have:=HS.o;omega)
      have i0:=HV1.o.BU.index Gq k hlt
      obtain⟨u0,u1,u2,u3,u4⟩:=iQ HV1.o.BU hB1 k hlt
      obtain⟨x,hx⟩:∃x:Ch,Hid (x=V.cs[k]):=⟨V.cs[k],rfl⟩
      rw[←hx.o] at u0 u1 u2 u3 u4
      obtain⟨p,hp⟩:=AV (wr.heap.size)
      obtain⟨wb,hwb⟩:=AV (wr.alloc (.cells #[.int .i64 x.id.1, .int .i64 x.src.1, .int .i64 x.dst.1, .int .i64 x.cap.1, .int .i64 x.size.1] 48))
      have hbb:Below wr.heap.size wr wb:=by rw[hwb];exact(Below.refl _ _).alloc (Nat.le_refl _) _
      have hpb:wb.heap[p]? =some (.cells #[.int .i64 x.id.1, .int .i64 x.src.1, .int .i64 x.dst.1, .int .i64 x.cap.1, .int .i64 x.size.1] 48 (0,0)):=by rw[hwb,hp];exact heap_alloc_new _ _
      have L1:=AQ (show(Instr.loadAt 48 (.pointer (some ⟨p,0,none⟩))).run Tryz.prog wb= .ok (.agg #[.int .i64 x.id.1, .int .i64 x.src.1, .int .i64 x.dst.1, .int .i64 x.cap.1, .int .i64 x.size.1]) wb from Cm (fun w=>AB) (fun w=>AB) (ak hpb 0 rfl) (ak hpb 1 rfl) (ak hpb 2 rfl) (ak hpb 3 rfl) (ak hpb 4 rfl))
      have HSb:=AQ (ay hSr hbb)
      have HOb:=AQ (hO.stay hbb)
      have hsz:wl.heap.size≤wb.heap.size:=Nat.le_trans hSv.size hbb.size
      have HSZ:=AQ hsz
      have HSvb:=AQ (hSv.trans (Save.of hbb))
      have s2:=ak HSb.o 2 rfl
      obtain⟨y,hy⟩:∃y:bF,Hid (y=⟨x,none,[],0⟩):=⟨_,rfl⟩
      have hcy:Hid ((#[.int .i64 x.id.1, .int .i64 x.src.1, .int .i64 x.dst.1, .int .i64 x.cap.1, .int .i64 x.size.1, .slice none 0 0]:Array Value)=(bZ y).toArray):=by rw[hy.o];rfl
      have HL9:Hid (M.length≤100):=by
       have h2:=congrArg List.length HM.o
       simp only[List.length_map,List.length_take] at h2
       have:=HG.o.IQ
       rw[Hid];omega
      have HXP:=AQ hp
      have HLT:=AQ hlt
      clear hB1 hSr hO hSv hbb hpb hsz
      go_upto_region 13 with fail
      rw[←hwb,←hp]
      clear hwb hp u0 u1 u2 u3 u4 i0
      go_wp2_with (first
       | (with_reducible refine ku (o:=⟨some 55, .load _ (.tmp 10),_,_,_,_⟩) L1.o ?_)
       | ((with_reducible refine aP (o:=⟨some 57, .buildSlice _ _ _,_,_,_,_⟩) AA (lT fF (.tmp 56) (.agg #[.int .i64 x.id.1, .int .i64 x.src.1, .int .i64 x.dst.1, .int .i64 x.cap.1, .int .i64 x.size.1, .slice none 0 0]) #[.int .i64 x.id.1, .int .i64 x.src.1, .int .i64 x.dst.1, .int .i64 x.cap.1, .int .i64 x.size.1, .slice none 0 0] rfl AA AA AA AP _) ?_))
       | ((with_reducible refine bn (o:=⟨some 58, .call _,_,_,_,_⟩) fF aT fZ (y:=y) (.tmp 54) (.tmp 57) AA AA HOb.o hcy.o (by have:=HL9.o;omega) HSZ.o AA AA ?_);intro a4 k4 w6 hO4 hg4 hn4;have hS6:=rM hg4 HSb.o (fun e=>iJ HOb.o HSb.o Gh S e rfl);have s2:=ak hS6 2 rfl;have f2:=cu hS6 2;have HO4:=AQ (And.intro hO4 (And.intro hg4 (And.intro hn4 hS6)));clear hO4 hg4 hn4 hS6))
      have HSv:Hid (Save (· ≠S) wl w6):=iq HSvb.o (HOb.o.grown HO4.o.2.1 HSZ.o)
      have HN:Hid (M++ [y]=(V.cs.take (k+1)).map fun x=>(⟨x,none,[],0⟩:bF)):=by
       rw[Hid,HM.o,List.take_succ_eq_append_getElem HLT.o,List.map_append,←hx.o,hy.o]
       rfl
      go_roundw
      case rel=>
       have h8:=HV1.o.BU.aI
       have h9:=HLT.o
       exact⟨k+1,a4,M++ [y],k4,by go_num,HLT.o,HN.o,by rw[List.length_append];exact bT _ HO4.o.2.2.2,HO4.o.1.save Save.set (fun g hg=>iJ HO4.o.1 HO4.o.2.2.2 Gh g hg),HSv.o.trans Save.set⟩
      case measure=>have h9:=HLT.o;simp[intOf];omega
     ·have hk2:k=V.cs.length:=by omega
      have HM2:Hid (M=V.cs.map fun x=>(⟨x,none,[],0⟩:bF)):=by rw[Hid,HM.o,hk2,List.take_length]
      have L9:=AQ (show(Instr.loadAt 32 (.pointer (some ⟨S,0,none⟩))).run Tryz.prog wr= .ok (.agg #[.int .i64 0, .slice a L.length c, .slice a2 M.length m2]) wr from jG (fun w=>AB) (fun w=>AB) (ak hSr 0 rfl) (ak hSr 1 rfl) (ak hSr 2 rfl))
      have HB9:=AQ ((hSv.block (B+1) (Nat.lt_of_lt_of_le (Array.getElem?_eq_some_iff.1 H3.o.2.1).1 HR.o.2.2.2.size) (by have:=hSB.o;omega)).trans ((HR.o.2.2.2.block (B+1) (Array.getElem?_eq_some_iff.1 H3.o.2.1).1 (by have:=hSB.o;omega)).trans H3.o.2.1))
      have HQ:=AQ (And.intro hO hSv)
      clear hSr hO hSv hk2 HM
      go_wp2_with (first
       | (with_reducible refine ku (o:=⟨some 61, .load _ (.tmp 4),_,_,_,_⟩) L9.o ?_)
       | ((with_reducible refine aV (o:=⟨none, .store _ (.tmp 2) _,_,_,_,_⟩) dF (.tmp 2) (.tmp 61) AA AA AA AA AA HB9.o AA AA AA ?_);intro w8 hg8 hs8))
      have hSl:=HR.o.2.2.2.size
      have hSr:=HQ.o.2.size
      have hss:=HSS.o
      have hsb:=hSB.o
      have hbb:=HBB.o
      have hw3:w.heap.size≤w3.heap.size:=H3.o.2.2.1.size
      refine bodyPost_ret (lN dF rfl (by rfl) hg8 AA) rfl ⟨⟨iZ 0,a,L,c,a2,M,m2⟩,rfl, ?_,⟨?_,fun x hx=> ?_, ?_,fun x hx=> ?_⟩, ?_⟩
      ·unfold bU.fG fU aZ.cfg
       dsimp only
       rw[HL2.o,HM2.o,List.map_map,List.map_map]
       rfl
      ·refine((HR.o.2.1.vec aH).save aH HQ.o.2 fun _ g hg=> ?_).save aH hs8 fun _ g hg=> ?_
       ·have:=(HR.o.2.1.aQ hg).1
        show g≠S
        omega
       ·have:=(HR.o.2.1.aQ hg).1
        show g≠B+1
        omega
      ·have hz:=HR.o.2.2.1 x hx
       refine(hz.1.save' HQ.o.2 fun h g hg=> ?_).save' hs8 fun h g hg=> ?_
       ·have:=(hz.2 h g hg).1
        show g≠S
        omega
       ·have:=(hz.2 h g hg).1
        show g≠B+1
        omega
      ·refine(HQ.o.1.vec aT).save aT hs8 fun _ g hg=> ?_
       have:=(HQ.o.1.aQ hg).1
       show g≠B+1
       omega
      ·rw[HM2.o] at hx
       obtain⟨z,_,rfl⟩:=List.mem_map.1 hx
       exact⟨gJ (Vec.nil_ _) fun d hd=>by simp at hd⟩
      ·have h1:Below w.heap.size w wl:=H3.o.2.2.1.trans (HR.o.2.2.2.below H3.o.2.2.1.size fun j hj=>by show j≠S;omega)
       have h2:Below w.heap.size w wr:=h1.trans (HQ.o.2.below h1.size fun j hj=>by show j≠S;omega)
       exact h2.trans (hs8.below h2.size fun j hj=>by show j≠B+1;omega)
open Go Go.RowKit Go.Cit
def mY {α:Type} (f:Rs→α×Rs):Nat→Rs→List α×Rs
 | 0,q=>([],q)
 | n+1,q=>((mY f n q).1++ [(f (mY f n q).2).1],(f (mY f n q).2).2)
def mQ {α:Type} (f:Rs→α×Rs) (most:Int) (q:Rs):List α×Rs:=mY f (q.count most).1.toNat (q.count most).2
theorem oL {α:Type} (f:Rs→α×Rs):∀(n:Nat) (q:Rs),(mY f n q).1.length=n
 | 0,_=>rfl
 | n+1,q=>by rw[mY,List.length_append,oL f n q];rfl
def Ef (w:World) (d:Sl UInt8):Prop:=Row w d.a d.l d.c
def Ee (d:Sl UInt8) (g:Nat):Prop:=d.l≠ []∧blk d.a=some g
theorem l7 {S:Nat→Prop} {w w':World} {d:Sl UInt8} (h:Ef w d) (hs:Save S w w') (hb:∀g,Ee d g→S g):Ef w' d:=Row.save' h hs fun h0 g hg=>hb g ⟨h0,hg⟩
theorem D5 {w:World} {a:Option Addr} {l:List UInt8} {c g:Nat} (h:Row w a l c) (h0:l≠ []) (hg:blk a=some g):g<w.heap.size:=by
 obtain⟨g2,off,rfl⟩:=h.spot h0
 have h3:=World.block_lt_of_cell? w _ (h.cell 0 (List.length_pos_iff.2 h0))
 simp[blk] at hg
 simp[ad] at h3
 omega
theorem Di {w:World} {d:Sl UInt8} {g:Nat} (h:Ef w d) (hg:Ee d g):g<w.heap.size:=D5 h hg.1 hg.2
def Ei (w:World) (x:aK):Prop:=Row w x.a x.mem x.c
def Ew (x:aK) (g:Nat):Prop:=x.mem≠ []∧blk x.a=some g
theorem jD {S:Nat→Prop} {w w':World} {x:aK} (h:Ei w x) (hs:Save S w w') (hb:∀g,Ew x g→S g):Ei w' x:=Row.save' h hs fun h0 g hg=>hb g ⟨h0,hg⟩
theorem Gg {w:World} {x:aK} {g:Nat} (h:Ei w x) (hg:Ew x g):g<w.heap.size:=D5 h hg.1 hg.2
def Es (w:World) (x:bF):Prop:=x.At w
def Fz (x:bF) (g:Nat):Prop:=(x.ms≠ []∧blk x.a=some g)∨∃d∈x.ms,Ee d g
theorem oO {S:Nat→Prop} {w w':World} {x:bF} (h:Es w x) (hs:Save S w w') (hb:∀g,Fz x g→S g):Es w' x:=
 ⟨gJ (h.rows.vec.save jh hs fun h0 g hg=>hb g (.inl ⟨h0,hg⟩)) fun d hd=>l7 (h.rows.row d hd) hs fun g hg=>hb g (.inr ⟨d,hd,hg⟩)⟩
theorem FM {w:World} {x:bF} {g:Nat} (h:Es w x) (hg:Fz x g):g<w.heap.size:=by
 rcases hg with⟨h0,hg⟩ |⟨d,hd,hg⟩
 ·obtain⟨g2,off,e⟩:=h.rows.vec.spot h0
  have h3:=World.block_lt_of_cell? w _ (h.rows.cell 0 (List.length_pos_iff.2 h0))
  rw[e] at hg h3
  simp[blk] at hg
  simp[ad] at h3
  omega
 ·exact Di (h.rows.row d hd) hg
theorem wM {base top w R b q} (h:fH base top w R b q):Calls Tryz.prog 60 #[.pointer (some ⟨b,0,none⟩)] w fun e w'=>∃d:Sl UInt8,e= .returned (.slice d.a d.l.length d.c)∧d.l=q.bytes.1∧Ef w' d∧(∀g,Ee d g→w.heap.size≤g)∧fH base top w' R b q.bytes.2∧Save (iw b R) w w':=
 (lX h).mono fun _ _ ⟨a,X,c,h0,h1,hm,h2,h3⟩=>⟨⟨a,c,X⟩,h1,h0.o,hm.row,fun g hg=>hm.new g hg.2,h2,h3⟩
def dB (q:Rs):yP×Rs:=
 (⟨⟨q.int.1,q.int.2.int.1,q.int.2.int.2.int.1,q.int.2.int.2.int.2.int.1,q.int.2.int.2.int.2.int.2.int.1⟩,(mQ Rs.bytes 4 q.int.2.int.2.int.2.int.2.int.2).1⟩,(mQ Rs.bytes 4 q.int.2.int.2.int.2.int.2.int.2).2)
theorem GZ {w:World} {o:Oper} {ρ:Operand→Value} {post:Value→World→Prop} {x:Operand} {p:Addr} (h:o.op= .makeFunc (.func 60) #[x] #[]) (hx:ρ x= .pointer (some p)) (hp:post (.func (.func 60) #[.pointer (some p)] #[]) w):bK Tryz.prog post ((execOp ρ o).run Tryz.prog w):=by
 refine jf (v:= .func (.func 60) #[.pointer (some p)] #[]) (w':=w) ?_ hp
 unfold execOp;rw[h];dsimp only
 simp only[List.map_toArray,List.map_cons,List.map_nil,hx]
 kernel_rfl
theorem Gz {w:World} {o:Oper} {ρ:Operand→Value} {post:Value→World→Prop} {x y:Operand} {a b c d e:Int} {u:Value} (h:o.op= .build 51 #[(0,x),(1,y)]) (hx:ρ x= .agg #[.int .i64 a, .int .i64 b, .int .i64 c, .int .i64 d, .int .i64 e]) (hy:ρ y=u) (hu:∃a n c,u= .slice a n c) (hp:post (.agg #[.int .i64 a, .int .i64 b, .int .i64 c, .int .i64 d, .int .i64 e,u]) w):bK Tryz.prog post ((execOp ρ o).run Tryz.prog w):=by
 obtain⟨a',n',c',rfl⟩:=hu
 refine jf (v:= .agg #[.int .i64 a, .int .i64 b, .int .i64 c, .int .i64 d, .int .i64 e, .slice a' n' c']) (w':=w) ?_ hp
 unfold execOp;rw[h];dsimp only
 simp only[List.map_toArray,List.map_cons,List.map_nil,hx,hy]
 kernel_rfl
theorem Dl {w:World} {p:Nat} {a b c d e:Value} {fr:Nat×Nat} (h:w.heap[p]? =some (.cells #[a,b,c,d,e] 48 fr)):(Instr.loadAt 48 (.pointer (some ⟨p,0,none⟩))).run Tryz.prog w= .ok (.agg #[a,b,c,d,e]) w:=
 Cm (fun w=>AB) (fun w=>AB) (ak h 0 rfl) (ak h 1 rfl) (ak h 2 rfl) (ak h 3 rfl) (ak h 4 rfl)
theorem PS.stay {base top:Nat} {w0 w w':World} {R b p pr:Nat} {T TR:TypeId} {C Z:Array Value} {q:Rs} (h:PS base top w0 w R b p pr T TR C Z q) (hb:Below w.heap.size w w'):PS base top w0 w' R b p pr T TR C Z q:=
 ⟨h.lD.stay hb,ay h.rO hb,ay h.res hb,h.sv.trans (Save.of hb),h.lp,h.lb,h.lR⟩
section
variable (base top:Nat) (w0:World) (R b p pr:Nat) (v0 v1 v2 v3 v4:I64) (q5:Rs)
def IV (a:Option Addr) (c:Nat) (L:List (Sl UInt8)) (wx:World):Prop:=L.map Sl.l=(mQ Rs.bytes 4 q5).1∧Vec sf 1 wx a L c∧(∀g,blk a=some g→p<g)∧∀d∈L,Ef wx d∧∀g,Ee d g→p<g
def Ih (Z:Array Value) (q:Rs) (wx:World):Prop:=PS base top w0 wx R b p pr 48 51 #[.int .i64 v0.1, .int .i64 v1.1, .int .i64 v2.1, .int .i64 v3.1, .int .i64 v4.1] Z q
def BX:List Value→World→Prop
 | [],wx=>Ih base top w0 R b p pr v0 v1 v2 v3 v4 #[.int .i64 0, .int .i64 0, .int .i64 0, .int .i64 0, .int .i64 0, .slice none 0 0] q5 wx
 | [v],wx=>∃a c,∃L:List (Sl UInt8),v= .slice a L.length c∧IV p q5 a c L wx∧Ih base top w0 R b p pr v0 v1 v2 v3 v4 #[.int .i64 0, .int .i64 0, .int .i64 0, .int .i64 0, .int .i64 0, .slice none 0 0] (mQ Rs.bytes 4 q5).2 wx
 | [v,_],wx=>∃a c,∃L:List (Sl UInt8),v= .slice a L.length c∧IV p q5 a c L wx∧Ih base top w0 R b p pr v0 v1 v2 v3 v4 #[.int .i64 v0.1, .int .i64 v1.1, .int .i64 v2.1, .int .i64 v3.1, .int .i64 v4.1, .slice a L.length c] (mQ Rs.bytes 4 q5).2 wx
 | _,_=>False
end
section
variable {base top:Nat} {w0 wx:World} {R b p pr:Nat} {v0 v1 v2 v3 v4:I64} {q5:Rs} {vs:List Value}
theorem CB (h:BX base top w0 R b p pr v0 v1 v2 v3 v4 q5 vs wx):∃Z q,Ih base top w0 R b p pr v0 v1 v2 v3 v4 Z q wx:=by
 match vs,h with
 | [],h=>exact⟨_,_,h⟩
 | [_],⟨_,_,_,_,_,h⟩=>exact⟨_,_,h⟩
 | [_,_],⟨_,_,_,_,_,h⟩=>exact⟨_,_,h⟩
theorem EC (h:BX base top w0 R b p pr v0 v1 v2 v3 v4 q5 vs wx):wx.heap[p]? =some (.cells #[.int .i64 v0.1, .int .i64 v1.1, .int .i64 v2.1, .int .i64 v3.1, .int .i64 v4.1] 48 (0,0)):=by
 obtain⟨_,_,h⟩:=CB h;exact h.rO
theorem FX (h:BX base top w0 R b p pr v0 v1 v2 v3 v4 q5 vs wx):wx.cell? ⟨R,0,none⟩=some (.pointer (some ⟨b,0,none⟩)):=by
 obtain⟨_,_,h⟩:=CB h;exact h.lD.c0
theorem EJ (h:BX base top w0 R b p pr v0 v1 v2 v3 v4 q5 vs wx) (h0:0<vs.length):∃a n c,wZ vs 0= .slice a n c:=by
 match vs,h with
 | [],_=>exact absurd h0 AP
 | [_],⟨a,c,L,rfl,_⟩=>exact⟨a,_,c,rfl⟩
 | [_,_],⟨a,c,L,rfl,_⟩=>exact⟨a,_,c,rfl⟩
theorem F7 (h:BX base top w0 R b p pr v0 v1 v2 v3 v4 q5 [] wx):fH base top wx R b q5:=PS.lD h
theorem Dj (h:BX base top w0 R b p pr v0 v1 v2 v3 v4 q5 [] wx) {w':World} {a:Option Addr} {c:Nat} {L:List (Sl UInt8)} (hL:L.map Sl.l=(mQ Rs.bytes 4 q5).1) (hO:aW sf 1 40 wx.heap.size w' a L c) (hI:∀x∈L,Ef w' x∧∀g,Ee x g→wx.heap.size≤g∧blk a≠some g) (hR:fH base top w' R b (mQ Rs.bytes 4 q5).2) (hS:Save (iw b R) wx w'):BX base top w0 R b p pr v0 v1 v2 v3 v4 q5 [.slice a L.length c] w':=by
 have h:PS base top w0 wx R b p pr _ _ _ _ q5:=h
 have hs:=h.size
 exact⟨a,c,L,rfl,⟨hL,hO.vec jh,fun g hg=>by have:=(hO.aQ hg).1;omega,fun d hd=>⟨(hI d hd).1,fun g hg=>by have:=((hI d hd).2 g hg).1;omega⟩⟩,h.call hR hS⟩
theorem zQ {v:Value} (h:BX base top w0 R b p pr v0 v1 v2 v3 v4 q5 [v] wx):wx.heap[pr]? =some (.cells #[.int .i64 0, .int .i64 0, .int .i64 0, .int .i64 0, .int .i64 0, .slice none 0 0] 51 (0,0))∧(#[.int .i64 0, .int .i64 0, .int .i64 0, .int .i64 0, .int .i64 0, .slice none 0 0]:Array Value).size=6∧True:=by
 obtain⟨_,_,_,_,_,h⟩:=h;exact⟨h.res,rfl,trivial⟩
theorem Fe {v:Value} (h:BX base top w0 R b p pr v0 v1 v2 v3 v4 q5 [v] wx):(#[.int .i64 v0.1, .int .i64 v1.1, .int .i64 v2.1, .int .i64 v3.1, .int .i64 v4.1,v]:Array Value).all (·.oneCell')=true:=by
 obtain⟨_,_,_,rfl,_⟩:=h;simp[Value.oneCell']
theorem zW {v u:Value} (h:BX base top w0 R b p pr v0 v1 v2 v3 v4 q5 [v] wx) {w':World} (h1:w'.heap[pr]? =some (.cells #[.int .i64 v0.1, .int .i64 v1.1, .int .i64 v2.1, .int .i64 v3.1, .int .i64 v4.1,v] 51 (0,0))) (h2:Save (· ≠pr) wx w'):BX base top w0 R b p pr v0 v1 v2 v3 v4 q5 [v,u] w':=by
 obtain⟨a,c,L,rfl,hF,hP⟩:=h
 have hP:PS base top w0 wx R b p pr _ _ _ _ _:=hP
 have hpp:=hP.lp
 have h3:=hP.lb
 have h4:=hP.lR
 exact⟨a,c,L,rfl,⟨hF.1,hF.2.1.save jh h2 fun _ g hg=>by have:=hF.2.2.1 g hg;show g≠pr;omega,hF.2.2.1,fun d hd=>⟨l7 (hF.2.2.2 d hd).1 h2 fun g hg=>by have:=(hF.2.2.2 d hd).2 g hg;show g≠pr;omega,(hF.2.2.2 d hd).2⟩⟩,
  ⟨hP.lD.newer h2 (by have:=hP.lD.tp;omega) AL AL,(h2.block p hP.size (by show p≠pr;omega)).trans hP.rO,h1,pU hP.sv h2 hpp.1,hpp,h3,h4⟩⟩
end
theorem uw {base top w R b q} (h:fH base top w R b q) (most:Int) (hm:0≤most∧most≤100):Calls Tryz.prog 175 #[.pointer (some ⟨R,0,none⟩), .int .i64 most, .func (.func 60) #[.pointer (some ⟨b,0,none⟩)] #[]] w fun e w'=>∃a c,∃L:List (Sl UInt8),e= .returned (.slice a L.length c)∧L.map Sl.l=(mQ Rs.bytes most q).1∧aW sf 1 40 w.heap.size w' a L c∧(∀x∈L,Ef w' x∧∀g,Ee x g→w.heap.size≤g∧blk a≠some g)∧fH base top w' R b (mQ Rs.bytes most q).2∧Save (iw b R) w w':=by
 have hRlt:=h.lt
 have hblt:=h.rd.lt
 have htp:=h.tp
 obtain⟨n,hn⟩:∃n:Nat,Hid ((q.count most).1=(n:Int)):=⟨(q.count most).1.toNat,by have:=(count_range q.s most hm.1).1;show(q.s.count most).1=(((q.s.count most).1.toNat:Nat):Int);omega⟩
 have hn9:n≤100:=by have h1:(q.s.count most).1≤most:=(count_range q.s most hm.1).2;have h2:(q.s.count most).1=(n:Int):=hn.o;omega
 obtain⟨q1,hq1⟩:=AU ((q.count most).2)
 have hk:=ji h most
 rw[hn.o,←hq1.o] at hk
 have HK:=AQ hk
 have HRD:Hid (mQ Rs.bytes most q=mY Rs.bytes n q1):=by rw[Hid,mQ,hn.o,hq1.o];rfl
 rw[HRD.o]
 have c0:=h.c0
 have HLT:=AQ (And.intro hRlt (And.intro hblt htp))
 clear h hk hRlt hblt htp
 go_enter Tryz.func175,Tryz.ntmps175
 go_wp2_with fail
 refine(HK.o).mono ?_
 rintro e w1 ⟨rfl,hR,hS⟩
 have HS1:=AQ (And.intro hR hS)
 clear hR hS HK c0
 go_wp2_with fail
 go_loopw [7,14] (fun v i wr=>∃(k:Nat) (a:Option Addr) (L:List (Sl UInt8)) (c:Nat),v= .slice a L.length c∧i= .int .i64 (k:Int)∧k≤n∧Hid (L.map Sl.l=(mY Rs.bytes k q1).1)∧aW sf 1 40 w.heap.size wr a L c∧(∀x∈L,Ef wr x∧∀g,Ee x g→w.heap.size≤g∧blk a≠some g)∧fH base top wr R b (mY Rs.bytes k q1).2∧Save (iw b R) w wr) (fun _ i _=>n-(intOf i).toNat)
 case atStart=>exact⟨0,none,[],0,rfl,rfl,Nat.zero_le _,rfl,aW.nil_ _ _ _ _ _,fun x hx=>by simp at hx,HS1.o.1,HS1.o.2⟩
 case round=>
  obtain⟨k,a,L,c,rfl,rfl,hk,HL,hO,hI,hR,hS⟩:=hrel
  by_cases hlt:k<n
  ·obtain⟨q2,hq2⟩:=AU ((mY Rs.bytes k q1).2)
   rw[←hq2.o] at hR
   have HKC:=AQ (wM hR)
   have HL9:Hid (L.length≤100):=by
    have h1:=oL Rs.bytes k q1
    rw[←HL.o,List.length_map] at h1
    rw[Hid];omega
   have HW:=AQ (And.intro hO (And.intro hI hS))
   have HLTk:=AQ hlt
   clear hO hI hR hS
   go_wp2_with fail
   refine(HKC.o).mono ?_
   rintro e w5 ⟨x,rfl,hx,hin,hnew,hR5,hS5⟩
   have hsz5:w.heap.size≤w5.heap.size:=Nat.le_trans HW.o.2.2.size hS5.size
   have hO5:=HW.o.1.save hS5 (fun g hg=>by have h1:=(HW.o.1.aQ hg).1;have h2:=HLT.o;exact⟨by omega,by omega⟩)
   have H5:=AQ (And.intro hx (And.intro hin (And.intro hnew (And.intro hR5 hS5))))
   have HO5:=AQ (And.intro hO5 hsz5)
   clear hx hin hnew hR5 hS5 hO5 hsz5 HKC
   go_wp2_with (first
    | ((with_reducible refine aP (o:=⟨some 19, .buildSlice _ _ _,_,_,_,_⟩) AA (lT rZ (.tmp 18) (.slice x.a x.l.length x.c) (#[.slice x.a x.l.length x.c]) rfl AA AA rfl AP _) ?_))
    | ((with_reducible refine bn (o:=⟨some 20, .call _,_,_,_,_⟩) rZ jh F5 (y:=x) (.tmp 16) (.tmp 19) AA AA HO5.o.1 rfl (by have:=HL9.o;omega) HO5.o.2 AA AA ?_);intro a4 k4 w6 hO4 hg4 hn4;have HO4:=AQ (And.intro hO4 (And.intro hg4 hn4));clear hO4 hg4 hn4))
   have hB6:=HO5.o.1.grown HO4.o.2.1 HO5.o.2
   have hs6:Save (· <w.heap.size) w5 w6:=⟨hB6.os,hB6.tape,hB6.output,hB6.size,fun j _ hj=>hB6.block j hj⟩
   have HN:Hid ((L++ [x]).map Sl.l=(mY Rs.bytes (k+1) q1).1):=by rw[Hid,List.map_append,HL.o,mY,←hq2.o,List.map_cons,List.map_nil,H5.o.1]
   have HIM:Hid (∀z∈L++ [x],Ef w6 z∧∀g,Ee z g→w.heap.size≤g∧blk a4≠some g):=fun z hz=>by
    have hz5:Ef w5 z∧∀g,Ee z g→w.heap.size≤g∧blk a≠some g:=by
     rcases List.mem_append.1 hz with hz |hz
     ·have hy:=HW.o.2.1 z hz
      exact⟨l7 hy.1 H5.o.2.2.2.2 fun g hg=>by have h1:=(hy.2 g hg).1;have h2:=HLT.o;exact⟨by omega,by omega⟩,hy.2⟩
     ·obtain rfl:z=x:=by simpa using hz
      refine⟨H5.o.2.1,fun g hg=> ?_⟩
      have h1:=H5.o.2.2.1 g hg
      refine⟨Nat.le_trans HW.o.2.2.size h1,fun e=> ?_⟩
      have:=(HW.o.1.aQ e).2
      omega
    refine⟨l7 hz5.1 (Save.grown HO4.o.2.1) fun g hg e=>(hz5.2 g hg).2 e.symm,fun g hg=>⟨(hz5.2 g hg).1,fun e=> ?_⟩⟩
    rcases HO4.o.2.2 g e with h1 |h1
    ·exact(hz5.2 g hg).2 h1
    ·have:=Di hz5.1 hg
     omega
   go_roundw
   case rel=>exact⟨k+1,a4,L++ [x],k4,by simp,by go_num,HLTk.o,HN.o,HO4.o.1,HIM.o,by rw[mY,←hq2.o];exact H5.o.2.2.2.1.save hs6 HLT.o.2.1 HLT.o.1 (fun g _ ht=>by have:=HLT.o;show g<w.heap.size;omega),iq (HW.o.2.2.trans H5.o.2.2.2.2) hB6⟩
   case measure=>have:=HLTk.o;simp[intOf];omega
  ·have hk2:k=n:=by omega
   have HF:=AQ (And.intro hO (And.intro hI (And.intro hR hS)))
   clear hO hI hR hS
   subst hk2
   go_wp2_with fail
   go_ret
   exact⟨a,c,L,rfl,HL.o,HF.o.1,HF.o.2.1,HF.o.2.2.1,HF.o.2.2.2⟩
def Ib (v0 v1 v2 v3 v4:I64) (_ _ R b:Nat) (f:Nat→Value):Nat→Value
 | 34=>(.agg #[.int .i64 v0.1, .int .i64 v1.1, .int .i64 v2.1, .int .i64 v3.1, .int .i64 v4.1])
 | 35=>(.pointer (some ⟨R,0,none⟩))
 | 36=>(.pointer (some ⟨R,0,none⟩))
 | 37=>(.pointer (some ⟨R,0,none⟩))
 | 38=>(.pointer (some ⟨R,0,none⟩))
 | 39=>(.pointer (some ⟨b,0,none⟩))
 | 40=>(.func (.func 60) #[.pointer (some ⟨b,0,none⟩)] #[])
 | 42=>(.agg #[.int .i64 v0.1, .int .i64 v1.1, .int .i64 v2.1, .int .i64 v3.1, .int .i64 v4.1,(f 0)])
 | _=>undef
def GI:Nat→Nat
 | 42=>1
 | _=>0
def Iu (_ _ _ _ _:I64) (p pr R _:Nat):Nat→Value
 | 0=>(.pointer (some ⟨R,0,none⟩))
 | 2=>(.pointer (some ⟨pr,0,none⟩))
 | 3=>(.pointer (some ⟨p,0,none⟩))
 | _=>undef
theorem F9 (v0 v1 v2 v3 v4:I64) (p pr R b:Nat):∀d (f g:Nat→Value),(∀j,j<GI d→f j=g j)→Ib v0 v1 v2 v3 v4 p pr R b f d=Ib v0 v1 v2 v3 v4 p pr R b g d:=by
 intro d f g h
 unfold Ib
 split
 ·rfl
 ·rfl
 ·rfl
 ·rfl
 ·rfl
 ·rfl
 ·rfl
 ·rw[h 0 AP]
 ·rfl
theorem qO {base top w R b q0} (h:fH base top w R b q0):Calls Tryz.prog 97 #[.pointer (some ⟨R,0,none⟩)] w fun e w'=>∃x:bF,∃X,Hid (X=(bZ x).toArray)∧e= .returned (.agg X)∧x.kC=(dB q0).1∧Es w' x∧(∀g,Fz x g→w.heap.size≤g)∧fH base top w' R b (dB q0).2∧Save (iw b R) w w':=by
 have htop:top≤w.heap.size:=Nat.le_trans h.tp (Nat.le_of_lt h.lt)
 obtain⟨pr,hpr⟩:=AV (w.heap.size)
 obtain⟨wa,hwa⟩:=AV (w.alloc (.cells #[.int .i64 0, .int .i64 0, .int .i64 0, .int .i64 0, .int .i64 0, .slice none 0 0] 51))
 have hba:Below w.heap.size w wa:=by rw[hwa];exact(Below.refl _ w).alloc (Nat.le_refl _) _
 have hpa:wa.heap[pr]? =some (.cells #[.int .i64 0, .int .i64 0, .int .i64 0, .int .i64 0, .int .i64 0, .slice none 0 0] 51 (0,0)):=by rw[hwa,hpr];exact heap_alloc_new _ _
 obtain⟨v0,hv0⟩:=AU q0.int.1
 obtain⟨q1,hq1⟩:=AU q0.int.2
 have hk:=dS (h.stay hba)
 rw[←hv0.o,←hq1.o] at hk
 have HK:=AQ hk
 have c0:=(h.stay hba).c0
 have HH:=AQ h
 have HA:=AQ (And.intro hba hpa)
 have HPR:=AQ hpr
 clear h hk hba hpa
 go_enter Tryz.func97,Tryz.ntmps97
 go_upto_region 1 with fail
 rw[←hwa,←hpr]
 clear hwa hpr
 go_wp2_with fail
 refine(HK.o).mono ?_
 rintro e w1 ⟨rfl,hR,hS⟩
 obtain⟨p,hp⟩:=AV (w1.heap.size)
 obtain⟨w2,hw2⟩:=AV (w1.alloc (.cells #[.int .i64 v0.1, .int .i64 0, .int .i64 0, .int .i64 0, .int .i64 0] 48))
 have hb2:Below w1.heap.size w1 w2:=by rw[hw2];exact(Below.refl _ _).alloc (Nat.le_refl _) _
 have hp2:w2.heap[p]? =some (.cells #[.int .i64 v0.1, .int .i64 0, .int .i64 0, .int .i64 0, .int .i64 0] 48 (0,0)):=by rw[hw2,hp];exact heap_alloc_new _ _
 have hpa:=HA.o.2
 have hpa1:w1.heap[pr]? =some (.cells #[.int .i64 0, .int .i64 0, .int .i64 0, .int .i64 0, .int .i64 0, .slice none 0 0] 51 (0,0)):=(hS.block pr (Array.getElem?_eq_some_iff.1 hpa).1 ⟨by have:=HPR.o;have:=HH.o.rd.lt;omega,by have:=HPR.o;have:=HH.o.lt;omega⟩).trans hpa
 have HP:Hid (PS base top w w2 R b p pr 48 51 #[.int .i64 v0.1, .int .i64 0, .int .i64 0, .int .i64 0, .int .i64 0] #[.int .i64 0, .int .i64 0, .int .i64 0, .int .i64 0, .int .i64 0, .slice none 0 0] q1):=⟨hR.stay hb2,hp2,ay hpa1 hb2,(((Save.of HA.o.1).trans hS).trans (Save.of hb2)),⟨by have:=HPR.o;omega,by have:=(Array.getElem?_eq_some_iff.1 hpa1).1;omega⟩,HH.o.rd.lt,HH.o.lt⟩
 clear hR hS hb2 hp2 hpa hpa1 HK c0
 go_upto_region 2 with fail
 rw[←hw2,←hp]
 clear hw2 hp
 obtain⟨v1,hv1⟩:=AU q1.int.1
 obtain⟨q2,hq2⟩:=AU q1.int.2
 have hk:=dS HP.o.lD
 rw[←hv1.o,←hq2.o] at hk
 have HK:=AQ hk
 have c0:=HP.o.lD.c0
 clear hk
 go_wp2_with fail
 refine(HK.o).mono ?_
 rintro e x1 ⟨rfl,hR,hS⟩
 have HP:=AQ (HP.o.call hR hS)
 have ck:=HP.o.ck 1 rfl
 have fk:=HP.o.fk 1
 clear hR hS HK c0
 go_upto_region 3 with fail
 have hp:=HP.o.set' (k:=1) (v:= .int .i64 v1.1) (C':= #[.int .i64 v0.1, .int .i64 v1.1, .int .i64 0, .int .i64 0, .int .i64 0]) rfl
 obtain⟨y1,hy1⟩:=AV (x1.setCell ⟨p,1,none⟩ (.int .i64 v1.1))
 rw[←hy1] at hp ⊢
 have HP:=AQ hp
 clear ck fk hy1 hp
 obtain⟨v2,hv2⟩:=AU q2.int.1
 obtain⟨q3,hq3⟩:=AU q2.int.2
 have hk:=dS HP.o.lD
 rw[←hv2.o,←hq3.o] at hk
 have HK:=AQ hk
 have c0:=HP.o.lD.c0
 clear hk
 go_wp2_with fail
 refine(HK.o).mono ?_
 rintro e x2 ⟨rfl,hR,hS⟩
 have HP:=AQ (HP.o.call hR hS)
 have ck:=HP.o.ck 2 rfl
 have fk:=HP.o.fk 2
 clear hR hS HK c0
 go_upto_region 4 with fail
 have hp:=HP.o.set' (k:=2) (v:= .int .i64 v2.1) (C':= #[.int .i64 v0.1, .int .i64 v1.1, .int .i64 v2.1, .int .i64 0, .int .i64 0]) rfl
 obtain⟨y2,hy2⟩:=AV (x2.setCell ⟨p,2,none⟩ (.int .i64 v2.1))
 rw[←hy2] at hp ⊢
 have HP:=AQ hp
 clear ck fk hy2 hp
 obtain⟨v3,hv3⟩:=AU q3.int.1
 obtain⟨q4,hq4⟩:=AU q3.int.2
 have hk:=dS HP.o.lD
 rw[←hv3.o,←hq4.o] at hk
 have HK:=AQ hk
 have c0:=HP.o.lD.c0
 clear hk
 go_wp2_with fail
 refine(HK.o).mono ?_
 rintro e x3 ⟨rfl,hR,hS⟩
 have HP:=AQ (HP.o.call hR hS)
 have ck:=HP.o.ck 3 rfl
 have fk:=HP.o.fk 3
 clear hR hS HK c0
 go_upto_region 5 with fail
 have hp:=HP.o.set' (k:=3) (v:= .int .i64 v3.1) (C':= #[.int .i64 v0.1, .int .i64 v1.1, .int .i64 v2.1, .int .i64 v3.1, .int .i64 0]) rfl
 obtain⟨y3,hy3⟩:=AV (x3.setCell ⟨p,3,none⟩ (.int .i64 v3.1))
 rw[←hy3] at hp ⊢
 have HP:=AQ hp
 clear ck fk hy3 hp
 obtain⟨v4,hv4⟩:=AU q4.int.1
 obtain⟨q5,hq5⟩:=AU q4.int.2
 have hk:=dS HP.o.lD
 rw[←hv4.o,←hq5.o] at hk
 have HK:=AQ hk
 have c0:=HP.o.lD.c0
 clear hk
 go_wp2_with fail
 refine(HK.o).mono ?_
 rintro e x4 ⟨rfl,hR,hS⟩
 have HP:=AQ (HP.o.call hR hS)
 have ck:=HP.o.ck 4 rfl
 have fk:=HP.o.fk 4
 clear hR hS HK c0
 go_upto_region 6 with fail
 have hp:=HP.o.set' (k:=4) (v:= .int .i64 v4.1) (C':= #[.int .i64 v0.1, .int .i64 v1.1, .int .i64 v2.1, .int .i64 v3.1, .int .i64 v4.1]) rfl
 obtain⟨y4,hy4⟩:=AV (x4.setCell ⟨p,4,none⟩ (.int .i64 v4.1))
 rw[←hy4] at hp ⊢
 have HP:=AQ hp
 clear ck fk hy4 hp
 refine jl (Ib v0 v1 v2 v3 v4 p pr R b) GI (Iu v0 v1 v2 v3 v4 p pr R b) [0,2,3] [7,9] (BX base top w R b p pr v0 v1 v2 v3 v4 q5) AB AB AB AB ⟨rfl,rfl,rfl,trivial⟩ (F9 v0 v1 v2 v3 v4 p pr R b) (fun w' ha=>HP.o.stay ha.1) ?_ ?_
 ·refine ah ?_ (ah ?_ (ah ?_ (ah ?_ (ah ?_ (ah ?_ (ah ?_ (ah ?_ (ah ?_ (ah ?_ dL)))))))))
  all_goals intro ac vs hk
  ·exact⟨aj rfl, .inr ⟨by decide,fun s1 s2 hle wx hst=>bP (.tmp 3) rfl (show ac.eval (.tmp 3)=(.pointer (some ⟨p,0,none⟩)) from hk.old 3 AB) (v:= .agg #[.int .i64 v0.1, .int .i64 v1.1, .int .i64 v2.1, .int .i64 v3.1, .int .i64 v4.1]) (Dl (EC hst)) ⟨hst,rfl⟩⟩⟩
  ·exact⟨aj rfl, .inr ⟨by decide,fun s1 s2 hle wx hst=>kF (.tmp 0) rfl ⟨hst,(show ac.eval (.tmp 0)=(.pointer (some ⟨R,0,none⟩)) from hk.old 0 AB)⟩⟩⟩
  ·exact⟨aj rfl, .inr ⟨by decide,fun s1 s2 hle wx hst=>kF (.tmp 0) rfl ⟨hst,(show ac.eval (.tmp 0)=(.pointer (some ⟨R,0,none⟩)) from hk.old 0 AB)⟩⟩⟩
  ·exact⟨aj rfl, .inr ⟨by decide,fun s1 s2 hle wx hst=>yR (.tmp 36) rfl (show ac.eval (.tmp 36)=(.pointer (some ⟨R,0,none⟩)) from hk.slot 36 AB AB) ⟨hst,rfl⟩⟩⟩
  ·exact⟨aj rfl, .inr ⟨by decide,fun s1 s2 hle wx hst=>dh (.tmp 37) rfl (show ac.eval (.tmp 37)=(.pointer (some ⟨R,0,none⟩)) from hk.slot 37 AB AB) (v:=(.pointer (some ⟨R,0,none⟩))) (fun w=>AB) ⟨hst,rfl⟩⟩⟩
  ·exact⟨aj rfl, .inr ⟨by decide,fun s1 s2 hle wx hst=>bP (.tmp 38) rfl (show ac.eval (.tmp 38)=(.pointer (some ⟨R,0,none⟩)) from hk.slot 38 AB AB) (v:= .pointer (some ⟨b,0,none⟩)) (bg (fun w=>AB) (FX hst)) ⟨hst,rfl⟩⟩⟩
  ·exact⟨aj rfl, .inr ⟨by decide,fun s1 s2 hle wx hst=>GZ rfl (show ac.eval (.tmp 39)=(.pointer (some ⟨b,0,none⟩)) from hk.slot 39 AB AB) ⟨hst,rfl⟩⟩⟩
  ·refine⟨aj rfl, .inl ⟨0,rfl,fun hvs wx hst=> ?_⟩⟩
   obtain rfl:vs=[]:=List.length_eq_zero_iff.1 hvs
   refine dw rfl (hk.fn _) #[.pointer (some ⟨R,0,none⟩), .int .i64 4, .func (.func 60) #[.pointer (some ⟨b,0,none⟩)] #[]] (fun w=>AB) (by simp only[List.map_toArray,List.map_cons,List.map_nil,show ∀v,ac.eval (.const v)=v from hk.lit,(show ac.eval (.tmp 35)=(.pointer (some ⟨R,0,none⟩)) from hk.slot 35 AB AB),(show ac.eval (.tmp 40)=(.func (.func 60) #[.pointer (some ⟨b,0,none⟩)] #[]) from hk.slot 40 AB AB)]) ((uw (F7 hst) 4 AP).mono ?_)
   rintro e w' ⟨a',c',L,rfl,hL,hO,hI,hR,hS⟩
   exact⟨_,rfl,Dj hst hL hO hI hR hS⟩
  ·exact⟨aj rfl, .inr ⟨by decide,fun s1 s2 hle wx hst=>Gz rfl (show ac.eval (.tmp 34)=(.agg #[.int .i64 v0.1, .int .i64 v1.1, .int .i64 v2.1, .int .i64 v3.1, .int .i64 v4.1]) from hk.slot 34 AB AB) (show ac.eval (.tmp 41)=wZ vs 0 from(hk.line 0 41 AB AB).2) (EJ hst (s1 0 7 rfl AB)) ⟨hst,rfl⟩⟩⟩
  ·refine⟨aj rfl, .inl ⟨1,rfl,fun hvs wx hst=> ?_⟩⟩
   have e2:=(show ac.eval (.tmp 2)=(.pointer (some ⟨pr,0,none⟩)) from hk.old 2 AB)
   have e42:=(show ac.eval (.tmp 42)=(.agg #[.int .i64 v0.1, .int .i64 v1.1, .int .i64 v2.1, .int .i64 v3.1, .int .i64 v4.1,(wZ vs 0)]) from hk.slot 42 AB AB)
   obtain⟨v,rfl⟩:∃v,vs=[v]:=List.length_eq_one_iff.1 hvs
   exact AX iM (.tmp 2) (.tmp 42) rfl e2 e42 (zQ hst).1 (zQ hst).2.1 rfl (Fe hst) fun w' h1 h2=>zW hst h1 h2
 intro ac vs wz hlen9 hfin hsame hall hline
 have he:=fB hsame [34,35,36,37,38,39,40,41,42] AB
 simp only[List.foldl_cons,List.foldl_nil] at he
 generalize ac.eval (.tmp 34)=y34 at he
 generalize ac.eval (.tmp 35)=y35 at he
 generalize ac.eval (.tmp 36)=y36 at he
 generalize ac.eval (.tmp 37)=y37 at he
 generalize ac.eval (.tmp 38)=y38 at he
 generalize ac.eval (.tmp 39)=y39 at he
 generalize ac.eval (.tmp 40)=y40 at he
 generalize ac.eval (.tmp 41)=y41 at he
 generalize ac.eval (.tmp 42)=y42 at he
 simp only[iK] at he
 dsimp only[List.set_cons_zero,List.set_cons_succ] at he
 subst he
 clear hsame hall hline
 obtain⟨u,v,rfl⟩:∃u v,vs=[u,v]:=by
  match vs,hlen9 with
  | [u,v],_=>exact⟨u,v,rfl⟩
 obtain⟨a',c',L,rfl,hQ,hP⟩:=hfin
 have hP:PS base top w wz R b p pr _ _ _ _ _:=hP
 have HQ:=AQ hQ
 have HPP:=AQ hP
 clear hQ hP HP
 go_wp2_with fail
 have hQ:=HQ.o
 have hP:=HPP.o
 refine bodyPost_ret (uV iM rfl (by rfl) hP.res rfl) rfl ⟨⟨⟨v0,v1,v2,v3,v4⟩,a',L,c'⟩,_,rfl,rfl, ?_,⟨gJ hQ.2.1 fun d hd=>(hQ.2.2.2 d hd).1⟩,fun g hg=> ?_, ?_,hP.sv⟩
 ·show(⟨⟨v0,v1,v2,v3,v4⟩,L.map Sl.l⟩:yP)=_
  rw[hQ.1,hq5.o,hv4.o,hq4.o,hv3.o,hq3.o,hv2.o,hq2.o,hv1.o,hq1.o,hv0.o]
  rfl
 ·have hpp:=hP.lp
  rcases hg with⟨_,hg⟩ |⟨d,hd,hg⟩
  ·have:=hQ.2.2.1 g hg;omega
  ·have:=(hQ.2.2.2 d hd).2 g hg;omega
 ·have e:(mQ Rs.bytes 4 q5).2=(dB q0).2:=by rw[hq5.o,hq4.o,hq3.o,hq2.o,hq1.o];rfl
  rw[←e]
  exact hP.lD
end Go.Proofs.YtlholdllibghbaaGreat
