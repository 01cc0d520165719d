/- Texts of the proof, one behind the other: Sched, Box, Part, Valid. No condition but those that each names. -/
import Derived.Test.YtlholdllibghbaaGreatG05
import Derived.Test.YtlholdllibghbaaGreatG00
import Derived.Deep.WholeRow
import Derived.Deep.MidRow
import Derived.Laws.Tables
import Derived.Lib.SliceRun
import Derived.WalkSpells
import Derived.Shelf.Abstract
import Derived.Test.YtlholdllibghbaaGreatKit
set_option maxRecDepth 100000
set_option maxHeartbeats 8000000
namespace Go.Proofs.YtlholdllibghbaaGreat
open Go Go.RowKit Go.Cit
def qX (x:uO):Bool:=decide (1≤x.len.1∧x.len.1≤64∧0≤x.part.1∧x.part.1≤6)
def tJ (l:List uO):Int:=(l.map (·.len.1)).sum
theorem BM (l:List uO) (k:Nat) (h:k<l.length):tJ (l.take (k+1))=tJ (l.take k)+l[k].len.1:=by
 rw[tJ,tJ,List.take_succ_eq_append_getElem h,List.map_append,List.sum_append];simp
def tq (l:List uO):Bool:=decide (1≤l.length∧l.length≤12) && (l.all qX && decide (tJ l≤64))
theorem xI (w:World) (a:Option Addr) (l:List uO) (c:Nat) (h:Vec xM 2 w a l c):Calls Tryz.prog 246 #[.slice a l.length c] w fun e w'=>e= .returned (.bool (tq l))∧Below w.heap.size w w':=by
 obtain⟨R,HR⟩:=AU (tq l)
 rw[←HR.o]
 have hlen:=h.aI
 have HH:=AQ h
 clear h
 by_cases h1:l.length<1
 ·have HF:Hid (R=false):=by rw[Hid,HR.o,tq,decide_eq_false AL];rfl
  go_enter Tryz.func246,Tryz.ntmps246
  go_wp2_with fail
  go_ret
  exact⟨au HF.o.symm,Below.refl _ _⟩
 by_cases h2:12<l.length
 ·have HF:Hid (R=false):=by rw[Hid,HR.o,tq,decide_eq_false AL];rfl
  go_enter Tryz.func246,Tryz.ntmps246
  go_wp2_with fail
  go_ret
  exact⟨au HF.o.symm,Below.refl _ _⟩
 have HR:Hid (R=(l.all qX && decide (tJ l≤64))):=by rw[Hid,HR.o,tq,decide_eq_true AL];rfl
 go_enter Tryz.func246,Tryz.ntmps246
 go_wp2_with fail
 go_loopw [3,16] (fun s i wr=>∃(k:Nat) (m:Int),Hid ((l.take k).all qX=true)∧Hid (m=tJ (l.take k))∧k≤l.length∧0≤m∧m≤64*k∧s= .int .i64 m∧i= .int .i64 k∧Below w.heap.size w wr) (fun _ i _=>l.length-(intOf i).toNat)
 case atStart=>exact⟨0,0,rfl,rfl,by omega,by omega,by omega,rfl,rfl,Below.refl _ _⟩
 case round=>
  obtain⟨k,m,ha,hm,hk,hm0,hm1,rfl,rfl,B⟩:=hrel
  by_cases hlt:k<l.length
  ·have i0:=HH.o.index II k hlt
   obtain⟨d0,d1⟩:=rP HH.o B k hlt
   have HB:Hid (∀C,Below w.heap.size w (wr.alloc (.cells C 77))):=fun C=>B.alloc B.size _
   obtain⟨x,hx⟩:=AV (l[k].len.1)
   obtain⟨y,hy⟩:=AV (l[k].part.1)
   have HW:Hid (qX l[k]=decide (1≤x∧x≤64∧0≤y∧y≤6)):=by rw[hx,hy];rfl
   have HS:Hid (m+x=tJ (l.take (k+1))):=by rw[Hid,BM _ _ hlt,hm.o,hx]
   rw[←hx] at d0
   rw[←hy] at d1
   clear hx hy B
   by_cases hq:1≤x∧x≤64∧0≤y∧y≤6
   ·obtain⟨q1,q2,q3,q4⟩:=hq
    have HA:Hid ((l.take (k+1)).all qX=true):=by rw[Hid,pG _ _ _ hlt,ha.o,HW.o,decide_eq_true ⟨q1,q2,q3,q4⟩];rfl
    go_wp2_with fail
    go_roundw
    case rel=>exact⟨k+1,m+x,HA.o,HS.o,by omega,by omega,by omega,rfl,by go_num,HB.o _⟩
    case measure=>simp[intOf];omega
   ·have HF:Hid (R=false):=by rw[Hid,HR.o,uy _ _ _ hlt (by rw[HW.o,decide_eq_false hq])];rfl
    have HQ:=AQ hq
    clear hq
    go_wp2_with fail
    all_goals first
     | (go_ret;exact⟨au HF.o.symm,HB.o _⟩)
     | (exfalso;have:=HQ.o;omega)
  ·have hk2:k=l.length:=by omega
   have HA:Hid (l.all qX=true):=by have:=ha.o;rw[hk2,List.take_length] at this;exact this
   have HM:Hid (m=tJ l):=by rw[Hid,hm.o,hk2,List.take_length]
   have HK:=AQ hk2
   clear hk2
   go_wp2_with fail
   all_goals
    go_ret
    refine⟨au ?_,B⟩
    rw[HR.o,HA.o,←HM.o,Bool.true_and]
    try simp only[*]
end Go.Proofs.YtlholdllibghbaaGreat
namespace Go.Cit
open Go Go.RowKit
theorem jB {w:World} {b:Nat} {C C':Array Value} {T:TypeId} {fr:Nat×Nat} (h:w.heap[b]? =some (.cells C T fr)):(w.setRow b C').heap[b]? =some (.cells C' T fr):=by
 simp[World.setRow,Array.getElem?_modify,h]
theorem jI (w:World) (b:Nat) (C':Array Value):Save (· ≠b) w (w.setRow b C'):=by
 refine⟨rfl,rfl,rfl,by simp[World.setRow],fun k _ hk=> ?_⟩
 simp[World.setRow,Array.getElem?_modify,Ne.symm hk]
section
variable {P:Program} {ops:Array Oper} {rest:List Oper} {o:Oper} {act:Act} {w w':World} {Q:Exit→Act→World→Prop}
theorem aP {v:Value} (hgd:o.guard=none) (hr:(execOp act.eval o).run P w= .ok (.value v) w')
 (h:wpList P ops Q rest (act.put o.dst v) w'):wpList P ops Q (o::rest) act w:=by
 refine wpList_plain hgd fun K hK=> ?_
 unfold Oper.wp
 rw[hr]
 exact hK _ _ h
theorem wpList_skip (hgd:o.guard=none) (hr:(execOp act.eval o).run P w= .ok .skip w')
 (h:wpList P ops Q rest (act.put o.dst undef) w'):wpList P ops Q (o::rest) act w:=by
 refine wpList_plain hgd fun K hK=> ?_
 unfold Oper.wp
 rw[hr]
 exact hK _ _ h
structure dJ (P:Program) (T:TypeId) (n:Nat):Prop where
 desc:∃d,P.underlying T=some d∧d.isRow=true
 info:(P.info? T).map (·.size)=some n
theorem nJ {T E:TypeId} {b:Nat} {C:Array Value} {fr:Nat×Nat} {d:TypeDesc} (hu:P.underlying T=some d) (hd:d.isRow=true) (hi:(P.info? T).map (·.size)=some C.size) (hb:w.heap[b]? =some (.cells C E fr)):
 (loadVar T ⟨b,0,none⟩).run P w= .ok (.agg C) w:=by
 have:=run_loadVar_mid (P:=P) w b 0 T C.toList d (fun j v hv=>by
  have hv':C[j]? =some v:=by simpa using hv
  rw[Nat.zero_add,World.cell?,hb]
  exact hv') hu hd (by simpa using hi)
 simpa using this
theorem sU {T E:TypeId} {n b:Nat} {C:Array Value} {fr:Nat×Nat} (hT:dJ P T n) (x:Operand) (hgd:o.guard=none) (ho:o.op= .load T x) (hx:act.eval x= .pointer (some ⟨b,0,none⟩)) (hb:w.heap[b]? =some (.cells C E fr)) (hn:C.size=n)
 (h:wpList P ops Q rest (act.put o.dst (.agg C)) w):wpList P ops Q (o::rest) act w:=by
 obtain⟨⟨d,hu,hd⟩,hi⟩:=hT
 have hr:=nJ (P:=P) hu hd (by rw[hi,hn]) hb
 refine aP (w':=w) (v:= .agg C) hgd ?_ h
 unfold execOp
 simp only[ho,hx,Sem.run_bind,Instr.loadAt,Instr.sureAddr,Sem.run_pure,Result.andThen,hr]
theorem aV {T E:TypeId} {n b:Nat} {C C':Array Value} (hT:dJ P T n) (x y:Operand) (hgd:o.guard=none) (ho:o.op= .store T x y) (hd:o.dst=none) (hx:act.eval x= .pointer (some ⟨b,0,none⟩)) (hy:act.eval y= .agg C') (hb:w.heap[b]? =some (.cells C E (0,0)))
 (hn:C.size=n) (hn':C'.size=n) (h1:C'.all (·.oneCell')=true)
 (h:∀w',w'.heap[b]? =some (.cells C' E (0,0))→Save (· ≠b) w w'→wpList P ops Q rest act w'):wpList P ops Q (o::rest) act w:=by
 have hr:=run_storeVar_row (P:=P) w b E T C C' hb (by rw[hT.info,hn']) (by rw[hn,hn']) h1
 refine wpList_skip (w':=w.setRow b C') hgd ?_ ?_
 ·unfold execOp
  simp only[ho,hx,hy,Sem.run_bind,Instr.storeAt,Instr.sureAddr,Sem.run_pure,Result.andThen,hr]
 ·rw[hd];exact h _ (jB hb) (jI _ _ _)
end
section
variable {P:Program} {w:World} {fn:Func} {tmps:Array Value}
theorem uV {T E:TypeId} {n b a:Nat} {C:Array Value} {fr:Nat×Nat} (hT:dJ P T n) (hf:fn.results= #[.cell a T]) (ha:tmps.getD a undef= .pointer (some ⟨b,0,none⟩)) (hb:w.heap[b]? =some (.cells C E fr)) (hn:C.size=n):
 (results fn tmps).run P w= .ok (.agg C) w:=by
 obtain⟨⟨d,hu,hd⟩,hi⟩:=hT
 have hr:=nJ (P:=P) hu hd (by rw[hi,hn]) hb
 have ha2:tmps[a]?.getD undef= .pointer (some ⟨b,0,none⟩):=by rw[←Array.getD_eq_getD_getElem?];exact ha
 simp[results,hf,ha2,asAddr,hr]
theorem lN {T E:TypeId} {n b a t:Nat} {C:Array Value} {fr:Nat×Nat} (hT:dJ P T n) (hf:fn.results= #[.cell a T, .tmp t]) (ha:tmps.getD a undef= .pointer (some ⟨b,0,none⟩)) (hb:w.heap[b]? =some (.cells C E fr)) (hn:C.size=n):
 (results fn tmps).run P w= .ok (.tuple #[.agg C,tmps.getD t undef]) w:=by
 obtain⟨⟨d,hu,hd⟩,hi⟩:=hT
 have hr:=nJ (P:=P) hu hd (by rw[hi,hn]) hb
 have ha2:tmps[a]?.getD undef= .pointer (some ⟨b,0,none⟩):=by rw[←Array.getD_eq_getD_getElem?];exact ha
 simp[results,hf,ha2,asAddr,hr]
end
end Go.Cit
namespace Go.Proofs.YtlholdllibghbaaGreat
open Go Go.RowKit Go.Cit
theorem uN:iV Tryz.prog 40 5:=⟨Tryz.underlying40,fun w=>AB,by kernel_rfl⟩
theorem mg (w:World) (a:Option Addr) (l:List UInt8) (c:Nat) (h:Row w a l c) (hl:l.length≤1000000000):
 Calls Tryz.prog 163 #[.slice a l.length c] w fun e w'=>∃a' c',e= .returned (.slice a' l.length c')∧Cit.Own 5 w.heap.size w' a' l c'∧Below w.heap.size w w':=by
 cases a with
 |
  none=>
  have h0:=h.nil rfl
  have h1:=h.le
  obtain rfl:l=[]:=List.eq_nil_of_length_eq_zero AL
  subst h0
  show Calls Tryz.prog 163 #[.slice none 0 0] w _
  have hq:=fun w:World=>Lib.run_eql_slice_nil (P:=Tryz.prog) w 40 5 none 0 0 0 0 Tryz.underlying40
  go_enter Tryz.func163,Tryz.ntmps163
  go_wp2_with fail
  go_ret
  exact⟨none,0,rfl,Cit.Own.nil _ _ _,Below.refl _ _⟩
 |
  some x=>
  have hq:=fun w:World=>Lib.run_eql_slice_nil (P:=Tryz.prog) w 40 5 (some x) l.length c 0 0 Tryz.underlying40
  have B0:Below w.heap.size w (w.alloc (.cells #[] 5)):=(Below.refl _ _).alloc (Nat.le_refl _) _
  have O0:=uh w #[] 5 [] rfl AO
  have HO:=AQ O0
  have HR:=AQ (h.stay B0)
  have HB:=AQ B0
  clear O0 B0 h
  go_enter Tryz.func163,Tryz.ntmps163
  go_wp2_with (first
   | ((with_reducible refine iO (o:=⟨some 7, .call _,_,_,_,_⟩) uN (.tmp 5) (.tmp 6) AA AA HO.o HR.o (by simp;omega) HB.o.size AA AA ?_);intro a2 c2 w2 hO2 hg2;rw[List.nil_append] at hO2;have HO2:=AQ hO2;have HB2:=AQ (HB.o.trans (grown_below hg2 HB.o.size (fun k hk=>(HO.o.aQ hk).1)));clear hO2 hg2))
  go_ret
  exact⟨a2,c2,rfl,HO2.o,HB2.o⟩
theorem BO (W:World) (x:fV) (B:Nat) (id:Int) (hc:W.cell? ⟨B,0,none⟩=some (.int .i64 id)):
 Calls Tryz.prog 240 (#[.agg #[.int .i64 x.id.1, .int .i64 x.reg.base.1, .int .i64 x.reg.size.1, .bool x.keep, .slice x.a x.img.length x.c]]++ #[.pointer (some ⟨B,0,none⟩)]) W fun e w'=>e= .returned (.bool (decide (x.id.1=id)))∧Below W.heap.size W w':=by
 have hB:=World.block_lt_of_cell? W _ hc
 have hne:B≠W.heap.size:=by have:B<W.heap.size:=hB;omega
 show Calls Tryz.prog 240 #[.agg #[.int .i64 x.id.1, .int .i64 x.reg.base.1, .int .i64 x.reg.size.1, .bool x.keep, .slice x.a x.img.length x.c], .pointer (some ⟨B,0,none⟩)] W _
 obtain⟨R,HR⟩:=AU (decide (x.id.1=id))
 rw[←HR.o]
 have HBL:Hid (∀C,Below W.heap.size W (W.alloc (.cells C 46))):=fun C=>(Below.refl _ W).alloc (Nat.le_refl _) _
 have c1:=keepA (.cells #[.int .i64 x.id.1, .int .i64 x.reg.base.1, .int .i64 x.reg.size.1, .bool x.keep, .slice x.a x.img.length x.c] 46) hc
 clear hc
 go_enter Tryz.func240,Tryz.ntmps240
 go_wp2_with fail
 go_ret
 exact⟨au (by rw[HR.o];rfl),HBL.o _⟩
structure fA (V:aZ):Prop where
 win:V.ws.length≤100
 pts:V.ps.length≤100
 BU:V.cs.length≤100
 img:∀x∈V.ps,x.img.length≤10000
def IJ:Pt:=⟨⟨0,by decide⟩,⟨⟨0,by decide⟩,⟨0,by decide⟩⟩,false,[]⟩
def iC (ps:List fV) (id:Int):Bool:=ps.any fun x=>decide (x.id.1=id)
def zl (ps:List fV) (id:Int):Pt:=((ps.find? fun x=>decide (x.id.1=id)).map fV.pt).getD IJ
theorem Au {ps:List fV} {id:Int} (h:iC ps id=false):zl ps id=IJ:=by
 have:ps.find? (fun x=>decide (x.id.1=id))=none:=by
  rw[List.find?_eq_none]
  intro x hx
  have:=List.any_eq_false.1 h x hx
  simpa using this
 rw[zl,this];rfl
theorem BG {α:Type} (p:α→Bool) (l:List α) (i:Nat) (hi:i<l.length) (h:bQ p l=i):l.find? p=some l[i]:=by
 cases hf:l.findIdx? p with
 | none=>rw[bQ,hf] at h;simp at h
 |
  some j=>
  rw[bQ,hf] at h
  obtain rfl:j=i:=by simp at h;omega
  rw[List.findIdx?_eq_some_iff_getElem] at hf
  obtain⟨_,hp,hn⟩:=hf
  rw[List.find?_eq_some_iff_getElem]
  exact⟨hp,j,hi,rfl,fun k hk=>by simpa using hn k hk⟩
theorem Az {ps:List fV} {id:Int} (h:bQ (fun x:fV=>decide (x.id.1=id)) ps= -1):iC ps id=false:=by
 rw[iC,←gX,h];rfl
theorem EG {ps:List fV} {id:Int} {i:Nat} (h:bQ (fun x:fV=>decide (x.id.1=id)) ps=i):iC ps id=true:=by
 rw[iC,←gX,h];simp
theorem rowP:dJ Tryz.prog 46 5:=⟨⟨_,Tryz.underlying46,rfl⟩,by kernel_rfl⟩
theorem Ii {w:World} {b:Nat} {x0 x1 x2 x3 x4:Value} (y0 y1 y2 y3 y4:Value) {T:TypeId} {fr:Nat×Nat} (h:w.heap[b]? =some (.cells #[x0,x1,x2,x3,x4] T fr)):
 (((((w.setCell ⟨b,0,none⟩ y0).setCell ⟨b,1,none⟩ y1).setCell ⟨b,2,none⟩ y2).setCell ⟨b,3,none⟩ y3).setCell ⟨b,4,none⟩ y4).heap[b]? =some (.cells #[y0,y1,y2,y3,y4] T fr):=by
 simp[World.setCell,Array.getElem?_modify,h]
theorem zZ (w:World) (b:Nat) (y0 y1 y2 y3 y4:Value):Save (· ≠b) w (((((w.setCell ⟨b,0,none⟩ y0).setCell ⟨b,1,none⟩ y1).setCell ⟨b,2,none⟩ y2).setCell ⟨b,3,none⟩ y3).setCell ⟨b,4,none⟩ y4):=
 ((((Save.set.trans Save.set).trans Save.set).trans Save.set).trans Save.set)
theorem ak {w:World} {b:Nat} {C:Array Value} {T:TypeId} {fr:Nat×Nat} (h:w.heap[b]? =some (.cells C T fr)) (i:Nat) {v:Value} (hv:C[i]? =some v):w.cell? ⟨b,i,none⟩=some v:=by rw[World.cell?,h];exact hv
theorem cu {w:World} {b:Nat} {C:Array Value} {T:TypeId} (h:w.heap[b]? =some (.cells C T (0,0))) (i:Nat):w.frozen? ⟨b,i,none⟩=false:=by rw[World.frozen?,h];simp
theorem Fg (w:World) (x y z:Value) (T:TypeId):(w.alloc (.cells #[x,y,z] T)).cell? ⟨w.heap.size,0,none⟩=some x∧(w.alloc (.cells #[x,y,z] T)).cell? ⟨w.heap.size,1,none⟩=some y∧(w.alloc (.cells #[x,y,z] T)).cell? ⟨w.heap.size,2,none⟩=some z:=by
 refine⟨?_, ?_, ?_⟩<;>(rw[World.cell?,heap_alloc_new];rfl)
theorem DR (w:World) (V:aZ) (h:V.At w) (hs:fA V) (id:Int):Calls Tryz.prog 212 #[.agg #[.slice V.wa V.ws.length V.wc, .slice V.pa V.ps.length V.pc, .slice V.ca V.cs.length V.cc], .int .i64 id] w fun e w'=>
 ∃x:fV,e= .returned (.tuple #[.agg #[.int .i64 x.id.1, .int .i64 x.reg.base.1, .int .i64 x.reg.size.1, .bool x.keep, .slice x.a x.img.length x.c], .bool (iC V.ps id)])∧x.pt=zl V.ps id∧Cit.Own 5 w.heap.size w' x.a x.img x.c∧Below w.heap.size w w':=by
 obtain⟨w3,hw3⟩:=AV (((w.alloc (.cells #[.slice V.wa V.ws.length V.wc, .slice V.pa V.ps.length V.pc, .slice V.ca V.cs.length V.cc] 26)).alloc (.cells #[.int .i64 id] 3)).alloc (.cells #[.int .i64 0, .int .i64 0, .int .i64 0, .bool false, .slice none 0 0] 46))
 have HB3:Hid (Below w.heap.size w w3):=by rw[Hid,hw3];exact(((Below.refl _ w).alloc (Nat.le_refl _) _).alloc AO _).alloc (by simp;omega) _
 have hsz3:w3.heap.size=w.heap.size+3:=by rw[hw3];simp
 have d0:w3.cell? ⟨w.heap.size,0,none⟩=some (.slice V.wa V.ws.length V.wc)∧w3.cell? ⟨w.heap.size,1,none⟩=some (.slice V.pa V.ps.length V.pc)∧w3.cell? ⟨w.heap.size,2,none⟩=some (.slice V.ca V.cs.length V.cc):=by
  obtain⟨a1,a2,a3⟩:=Fg w (.slice V.wa V.ws.length V.wc) (.slice V.pa V.ps.length V.pc) (.slice V.ca V.cs.length V.cc) 26
  rw[hw3]
  exact⟨keepA _ (keepA _ a1),keepA _ (keepA _ a2),keepA _ (keepA _ a3)⟩
 have d1:w3.cell? ⟨w.heap.size+1,0,none⟩=some (.int .i64 id):=by
  rw[hw3]
  refine keepA _ ?_
  rw[World.cell?,show w.heap.size+1=(w.alloc (.cells #[.slice V.wa V.ws.length V.wc, .slice V.pa V.ps.length V.pc, .slice V.ca V.cs.length V.cc] 26)).heap.size by simp,heap_alloc_new];rfl
 have d2:w3.heap[w.heap.size+1+1]? =some (.cells #[.int .i64 0, .int .i64 0, .int .i64 0, .bool false, .slice none 0 0] 46 (0,0)):=by
  rw[hw3,show w.heap.size+1+1=((w.alloc (.cells #[.slice V.wa V.ws.length V.wc, .slice V.pa V.ps.length V.pc, .slice V.ca V.cs.length V.cc] 26)).alloc (.cells #[.int .i64 id] 3)).heap.size by simp,heap_alloc_new]
 have hV:=h.stay HB3.o
 have HI:=AQ (ru (p:=fun x=>decide (x.id.1=id)) 240 #[.pointer (some ⟨w.heap.size+1,0,none⟩)] (enters_of Tryz.func240 AB rfl) w3 V.pa V.ps V.pc hV.pts
  (fun W i hi hb=>(BO W V.ps[i] (w.heap.size+1) id (keep hb d1)).mono fun e w' ⟨he,hb'⟩=>⟨he,hb.trans (hb'.mono hb.size)⟩))
 have HV:=AQ hV
 have HD1:=AQ d2
 clear h hV d1 d2
 rcases wC (fun x:fV=>decide (x.id.1=id)) V.ps with hf |⟨i,hi,hf,hp⟩
 ·have HH:=Az hf
  have HG:=AQ (Au HH)
  rw[HH]
  rw[hf] at HI
  clear hf HH
  go_enter Tryz.func212,Tryz.ntmps212
  go_wp2_with fail
  rw[←hw3]
  clear hw3
  refine(HI.o).mono ?_
  rintro e w4 ⟨rfl,hb4⟩
  have d0:=And.intro (keep hb4 d0.1) (And.intro (keep hb4 d0.2.1) (keep hb4 d0.2.2))
  have e2:w4.heap[w.heap.size+1+1]? =some (.cells #[.int .i64 0, .int .i64 0, .int .i64 0, .bool false, .slice none 0 0] 46 (0,0)):=(hb4.block _ (by rw[hsz3];omega)).trans HD1.o
  have HV4:=AQ (HV.o.stay hb4)
  have HB4:=AQ (HB3.o.trans (hb4.mono HB3.o.size))
  have hsz4:w.heap.size+3≤w4.heap.size:=by rw[←hsz3];exact hb4.size
  clear hb4 HI
  obtain⟨d0,d0',d0''⟩:=d0
  have g0:=ak e2 0 rfl
  have g1:=ak e2 1 rfl
  have g2:=ak e2 2 rfl
  have g3:=ak e2 3 rfl
  have g4:=ak e2 4 rfl
  have f0:∀i,w4.frozen? ⟨w.heap.size+1+1,i,none⟩=false:=cu e2
  go_wp2_with fail
  refine bodyPost_ret (lN rowP rfl (by rfl) (Ii _ _ _ _ _ e2) rfl) rfl ⟨⟨⟨0,by decide⟩,⟨⟨0,by decide⟩,⟨0,by decide⟩⟩,false,none,[],0⟩,rfl, ?_,Cit.Own.nil _ _ _, ?_⟩
  ·rw[HG.o];rfl
  ·exact HB4.o.trans ((zZ _ _ _ _ _ _ _).below HB4.o.size (fun k hk=>by omega))
 ·have HH:=EG hf
  have HX:=HV.o.img V.ps[i] (List.getElem_mem hi)
  have HG:Hid (zl V.ps id=V.ps[i].pt):=by rw[Hid,zl,BG _ V.ps i hi hf];rfl
  have HL:V.ps[i].img.length≤10000:=hs.img _ (List.getElem_mem hi)
  have HPL:=HV.o.pts.aI
  rw[HH]
  rw[hf] at HI
  clear hf HH hp
  go_enter Tryz.func212,Tryz.ntmps212
  go_wp2_with fail
  rw[←hw3]
  clear hw3
  refine(HI.o).mono ?_
  rintro e w4 ⟨rfl,hb4⟩
  have d0:=And.intro (keep hb4 d0.1) (And.intro (keep hb4 d0.2.1) (keep hb4 d0.2.2))
  have e2:w4.heap[w.heap.size+1+1]? =some (.cells #[.int .i64 0, .int .i64 0, .int .i64 0, .bool false, .slice none 0 0] 46 (0,0)):=(hb4.block _ (by rw[hsz3];omega)).trans HD1.o
  have HV4:=AQ (HV.o.stay hb4)
  have HB4:=AQ (HB3.o.trans (hb4.mono HB3.o.size))
  have hsz4:w.heap.size+3≤w4.heap.size:=by rw[←hsz3];exact hb4.size
  clear hb4 HI
  obtain⟨d0,d0',d0''⟩:=d0
  have HX:=AQ (HV4.o.img V.ps[i] (List.getElem_mem hi))
  have i0:=HV4.o.pts.index Eh i hi
  obtain⟨u0,u1,u2,u3,u4⟩:=eU HV4.o.pts (Below.refl _ _) i hi
  obtain⟨x,hx⟩:∃x:fV,Hid (x=V.ps[i]):=⟨V.ps[i],rfl⟩
  rw[←hx.o] at u0 u1 u2 u3 u4 HX HL HG
  have HN:Hid ((w4.alloc (.cells #[.int .i64 0, .int .i64 0, .int .i64 0, .bool false, .slice none 0 0] 46)).heap[w4.heap.size]? =some (.cells #[.int .i64 0, .int .i64 0, .int .i64 0, .bool false, .slice none 0 0] 46 (0,0))):=heap_alloc_new _ _
  have HE2:=AQ e2
  clear e2
  go_wp2_with ((with_reducible refine aV (o:=⟨none, .store _ (.tmp 7) (.tmp 19),_,_,_,_⟩) rowP (.tmp 7) (.tmp 19) AA AA AA AA AA HN.o AA AA AA ?_);intro w5 hb5 hS5;have k4:=ak hb5 4 rfl;have HB5:=AQ hb5;have HS5:=AQ hS5;clear hb5 hS5)
  have hsz5:w4.heap.size+1≤w5.heap.size:=by have:=HS5.o.size;rwa[World.size_alloc] at this
  have B45:Below w4.heap.size w4 w5:=((Below.refl _ w4).alloc (Nat.le_refl _) _).trans (HS5.o.below AO (fun k hk=>by omega))
  have HCL:=AQ (mg w5 x.a x.img x.c (HX.o.stay B45) AL)
  have HB45:=AQ B45
  clear B45
  go_wp2_with fail
  refine(HCL.o).mono ?_
  rintro e w6 ⟨a6,c6,rfl,hO6,hb6⟩
  have hsz6:=hb6.size
  have e6:w6.heap[w4.heap.size]? =_:=(hb6.block _ AL).trans HB5.o
  have r6:w6.heap[w.heap.size+1+1]? =some (.cells #[.int .i64 0, .int .i64 0, .int .i64 0, .bool false, .slice none 0 0] 46 (0,0)):=(hb6.block _ AL).trans ((HB45.o.block _ AL).trans HE2.o)
  have k0:=ak e6 0 rfl
  have k1:=ak e6 1 rfl
  have k2:=ak e6 2 rfl
  have k3:=ak e6 3 rfl
  have k4:=ak e6 4 rfl
  have f6:=cu e6
  have HO6:=AQ hO6
  have HB6:=AQ (HB4.o.trans ((HB45.o.mono HB4.o.size).trans (hb6.mono (by have:=HB4.o.size;have:=HB45.o.size;omega))))
  have HR7:Hid ((w6.setCell ⟨w4.heap.size,4,none⟩ (.slice a6 x.img.length c6)).heap[w.heap.size+1+1]? =some (.cells #[.int .i64 0, .int .i64 0, .int .i64 0, .bool false, .slice none 0 0] 46 (0,0))):=(Below.heap_setCell _ _ _ _ (by show w.heap.size+1+1≠w4.heap.size;omega)).trans r6
  clear hO6 hb6 e6 r6 HCL
  go_wp2_with ((with_reducible refine aV (o:=⟨none, .store _ (.tmp 4) (.tmp 24),_,_,_,_⟩) rowP (.tmp 4) (.tmp 24) AA AA AA AA AA HR7.o AA AA AA ?_);intro w7 hb7 hS7;have HB7:=AQ hb7;have HS7:=AQ hS7;clear hb7 hS7)
  refine bodyPost_ret (lN rowP rfl (by rfl) HB7.o rfl) rfl ⟨⟨x.id,x.reg,x.keep,a6,x.img,c6⟩,rfl, ?_, ?_, ?_⟩
  ·rw[HG.o];rfl
  ·refine((HO6.o.save (S:=(· ≠w4.heap.size)) Save.set (fun g hg=> ?_)).save HS7.o (fun g hg=> ?_)).low (by have:=HB4.o.size;omega)
   ·have:=(HO6.o.aQ hg).1;omega
   ·have:=(HO6.o.aQ hg).1;omega
  ·exact(HB6.o.setCell (p:=⟨w4.heap.size,4,none⟩) (by have:=HB4.o.size;exact this) _).trans (HS7.o.below (by simp[World.setCell];exact HB6.o.size) (fun k hk=>by omega))
theorem nK (w:World) (V:aZ) (h:V.At w) (hs:fA V) (id:Int):Calls Tryz.prog 249 #[.agg #[.slice V.wa V.ws.length V.wc, .slice V.pa V.ps.length V.pc, .slice V.ca V.cs.length V.cc], .int .i64 id] w fun e w'=>
 e= .returned (.bool (iC V.ps id))∧Below w.heap.size w w':=by
 have B0:Below w.heap.size w (w.alloc (.cells #[.slice V.wa V.ws.length V.wc, .slice V.pa V.ps.length V.pc, .slice V.ca V.cs.length V.cc] 26)):=(Below.refl _ w).alloc (Nat.le_refl _) _
 have HC:=AQ (DR _ V (h.stay B0) hs id)
 have HB0:=AQ B0
 obtain⟨R,HR⟩:=AU (iC V.ps id)
 rw[←HR.o] at HC ⊢
 clear h B0
 go_enter Tryz.func249,Tryz.ntmps249
 go_wp2_with fail
 refine(HC.o).mono ?_
 rintro e w2 ⟨x,rfl,hx,hO,hb2⟩
 have HB2:=AQ (HB0.o.trans (hb2.mono HB0.o.size))
 clear hx hO hb2 HC
 go_wp2_with fail
 go_ret
 exact⟨rfl,HB2.o.alloc HB2.o.size _⟩
open Go Go.RowKit Go.Cit
structure iU (W:World) (B:Nat) (V:aZ):Prop where
 c0:W.cell? ⟨B,0,none⟩=some (.slice V.wa V.ws.length V.wc)
 c1:W.cell? ⟨B,1,none⟩=some (.slice V.pa V.ps.length V.pc)
 c2:W.cell? ⟨B,2,none⟩=some (.slice V.ca V.cs.length V.cc)
theorem iU.keep {W W':World} {B:Nat} {V:aZ} (h:iU W B V) (hb:Below W.heap.size W W'):iU W' B V:=⟨Go.Cit.keep hb h.c0,Go.Cit.keep hb h.c1,Go.Cit.keep hb h.c2⟩
theorem iU.lt {W:World} {B:Nat} {V:aZ} (h:iU W B V):B<W.heap.size:=World.block_lt_of_cell? W _ h.c0
theorem fK (w:World) (V:aZ) (T:TypeId):iU (w.alloc (.cells #[.slice V.wa V.ws.length V.wc, .slice V.pa V.ps.length V.pc, .slice V.ca V.cs.length V.cc] T)) w.heap.size V:=⟨(Fg w _ _ _ T).1,(Fg w _ _ _ T).2.1,(Fg w _ _ _ T).2.2⟩
def jV (V:aZ) (x:uO):Bool:=decide (x.part.1≠0) && !iC V.ps x.part.1
theorem sV (W:World) (V:aZ) (h:V.At W) (hs:fA V) (B:Nat) (hB:iU W B V) (x:uO):
 Calls Tryz.prog 248 (#[.agg #[.int .i64 x.len.1, .int .i64 x.part.1]]++ #[.pointer (some ⟨B,0,none⟩)]) W fun e w'=>e= .returned (.bool (jV V x))∧Below W.heap.size W w':=by
 show Calls Tryz.prog 248 #[.agg #[.int .i64 x.len.1, .int .i64 x.part.1], .pointer (some ⟨B,0,none⟩)] W _
 obtain⟨R,HR⟩:=AU (jV V x)
 obtain⟨m,hm⟩:=AU (iC V.ps x.part.1)
 rw[←HR.o]
 have hlt:=hB.lt
 have hne:B≠W.heap.size:=by omega
 have B0:∀C,Below W.heap.size W (W.alloc (.cells C 77)):=fun C=>(Below.refl _ W).alloc (Nat.le_refl _) _
 have HC:=AQ (nK _ V (h.stay (B0 #[.int .i64 x.len.1, .int .i64 x.part.1])) hs x.part.1)
 rw[←hm.o] at HC
 have hk:=hB.keep (B0 #[.int .i64 x.len.1, .int .i64 x.part.1])
 obtain⟨c0,c1,c2⟩:=hk
 have HB0:=AQ B0
 clear B0 hB h
 by_cases hp:x.part.1=0
 ·have HP:=AQ hp
  go_enter Tryz.func248,Tryz.ntmps248
  go_wp2_with fail
  go_ret
  exact⟨au (by rw[HR.o,jV,decide_eq_false (by simpa using HP.o)];rfl),by first |exact HB0.o _ |(rw[←HP.o];exact HB0.o _)⟩
 ·have HP:=AQ hp
  go_enter Tryz.func248,Tryz.ntmps248
  go_wp2_with fail
  refine(HC.o).mono ?_
  rintro e w2 ⟨rfl,hb2⟩
  have HB2:=AQ ((HB0.o _).trans (hb2.mono (HB0.o _).size))
  clear hb2
  go_wp2_with fail
  go_ret
  exact⟨au (by rw[HR.o,jV,←hm.o,show(x.part.1 !=0)=true from bne_iff_ne.2 HP.o,decide_eq_true HP.o]),HB2.o⟩
def dW (V:aZ):Bool:= !tq V.ws || V.ws.any (jV V)
theorem qK (w:World) (V:aZ) (h:V.At w) (hs:fA V):Calls Tryz.prog 225 #[.agg #[.slice V.wa V.ws.length V.wc, .slice V.pa V.ps.length V.pc, .slice V.ca V.cs.length V.cc]] w fun e w'=>e= .returned (.bool (dW V))∧Below w.heap.size w w':=by
 obtain⟨R,HR⟩:=AU (dW V)
 obtain⟨m,hm⟩:=AU (tq V.ws)
 obtain⟨n,hn⟩:=AU (V.ws.any (jV V))
 rw[←HR.o]
 have B0:Below w.heap.size w (w.alloc (.cells #[.slice V.wa V.ws.length V.wc, .slice V.pa V.ps.length V.pc, .slice V.ca V.cs.length V.cc] 26)):=(Below.refl _ w).alloc (Nat.le_refl _) _
 have hI:=fK w V 26
 have hV:=h.stay B0
 have HC:=AQ (xI _ V.wa V.ws V.wc hV.win)
 rw[←hm.o] at HC
 have HI:=AQ (And.intro hI (And.intro hV B0))
 obtain⟨c0,c1,c2⟩:=hI
 clear h hV B0
 have HF:Hid (R=(!m || n)):=by rw[Hid,HR.o,hm.o,hn.o];rfl
 cases m with
 |
  false=>
  go_enter Tryz.func225,Tryz.ntmps225
  go_wp2_with fail
  refine(HC.o).mono ?_
  rintro e w2 ⟨rfl,hb2⟩
  have HB2:=AQ (HI.o.2.2.trans (hb2.mono HI.o.2.2.size))
  clear hb2
  go_wp2_with fail
  go_ret
  exact⟨au (by rw[HF.o];rfl),HB2.o⟩
 |
  true=>
  go_enter Tryz.func225,Tryz.ntmps225
  go_wp2_with fail
  refine(HC.o).mono ?_
  rintro e w2 ⟨rfl,hb2⟩
  have hI2:=HI.o.1.keep hb2
  have hV2:=HI.o.2.1.stay hb2
  have HD:=AQ (tN (p:=jV V) 248 #[.pointer (some ⟨w.heap.size,0,none⟩)] (enters_of Tryz.func248 AB rfl) w2 V.wa V.ws V.wc hV2.win
   (fun W i hi hb=>(sV W V (hV2.stay hb) hs w.heap.size (hI2.keep hb) V.ws[i]).mono fun e w' ⟨he,hb'⟩=>⟨he,hb.trans (hb'.mono hb.size)⟩))
  rw[←hn.o] at HD
  have HB2:=AQ (HI.o.2.2.trans (hb2.mono HI.o.2.2.size))
  obtain⟨c0,c1,c2⟩:=hI2
  clear hb2 hV2
  go_wp2_with fail
  refine(HD.o).mono ?_
  rintro e w3 ⟨rfl,hb3⟩
  have HB3:=AQ (HB2.o.trans (hb3.mono HB2.o.size))
  clear hb3
  go_wp2_with fail
  go_ret
  exact⟨au (by rw[HF.o];simp),HB3.o⟩
def nM (x:fV):Bool:= !dY x.reg || decide (x.reg.size.1<x.img.length)
theorem sW (W:World) (x:fV):Calls Tryz.prog 250 (#[.agg #[.int .i64 x.id.1, .int .i64 x.reg.base.1, .int .i64 x.reg.size.1, .bool x.keep, .slice x.a x.img.length x.c]]++ #[]) W fun e w'=>e= .returned (.bool (nM x))∧Below W.heap.size W w':=by
 show Calls Tryz.prog 250 #[.agg #[.int .i64 x.id.1, .int .i64 x.reg.base.1, .int .i64 x.reg.size.1, .bool x.keep, .slice x.a x.img.length x.c]] W _
 obtain⟨R,HR⟩:=AU (nM x)
 obtain⟨m,hm⟩:=AU (dY x.reg)
 rw[←HR.o]
 have B0:Below W.heap.size W (W.alloc (.cells #[.int .i64 x.id.1, .int .i64 x.reg.base.1, .int .i64 x.reg.size.1, .bool x.keep, .slice x.a x.img.length x.c] 46)):=(Below.refl _ W).alloc (Nat.le_refl _) _
 have HC:=AQ (eu (W.alloc (.cells #[.int .i64 x.id.1, .int .i64 x.reg.base.1, .int .i64 x.reg.size.1, .bool x.keep, .slice x.a x.img.length x.c] 46)) x.reg)
 rw[←hm.o] at HC
 have HN:Hid ((W.alloc (.cells #[.int .i64 x.id.1, .int .i64 x.reg.base.1, .int .i64 x.reg.size.1, .bool x.keep, .slice x.a x.img.length x.c] 46)).heap[W.heap.size]? =some (.cells #[.int .i64 x.id.1, .int .i64 x.reg.base.1, .int .i64 x.reg.size.1, .bool x.keep, .slice x.a x.img.length x.c] 46 (0,0))):=heap_alloc_new _ _
 have HB0:=AQ B0
 clear B0
 have HF:Hid (R=(!m || decide (x.reg.size.1<x.img.length))):=by rw[Hid,HR.o,hm.o];rfl
 cases m with
 |
  false=>
  go_enter Tryz.func250,Tryz.ntmps250
  go_wp2_with fail
  refine(HC.o).mono ?_
  rintro e w2 ⟨rfl,hb2⟩
  have HB2:=AQ (HB0.o.trans (hb2.mono HB0.o.size))
  clear hb2
  go_wp2_with fail
  go_ret
  exact⟨au (by rw[HF.o];rfl),HB2.o⟩
 |
  true=>
  go_enter Tryz.func250,Tryz.ntmps250
  go_wp2_with fail
  refine(HC.o).mono ?_
  rintro e w2 ⟨rfl,hb2⟩
  have e2:=(hb2.block W.heap.size AO).trans HN.o
  have k2:=ak e2 2 rfl
  have k4:=ak e2 4 rfl
  have HB2:=AQ (HB0.o.trans (hb2.mono HB0.o.size))
  clear hb2 e2
  go_wp2_with fail
  all_goals
   go_ret
   refine⟨au ?_,HB2.o⟩
   rw[HF.o]
   simp
def dQ (ps:List fV):Bool:=ps.any nM
theorem qQ (w:World) (V:aZ) (h:V.At w):Calls Tryz.prog 227 #[.agg #[.slice V.wa V.ws.length V.wc, .slice V.pa V.ps.length V.pc, .slice V.ca V.cs.length V.cc]] w fun e w'=>e= .returned (.bool (dQ V.ps))∧Below w.heap.size w w':=by
 have B0:Below w.heap.size w (w.alloc (.cells #[.slice V.wa V.ws.length V.wc, .slice V.pa V.ps.length V.pc, .slice V.ca V.cs.length V.cc] 26)):=(Below.refl _ w).alloc (Nat.le_refl _) _
 obtain⟨c0,c1,c2⟩:=fK w V 26
 have HD:=AQ (uj (p:=nM) 250 #[] (enters_of Tryz.func250 AB rfl) _ V.pa V.ps V.pc (h.stay B0).pts
  (fun W i hi hb=>(sW W V.ps[i]).mono fun e w' ⟨he,hb'⟩=>⟨he,hb.trans (hb'.mono hb.size)⟩))
 obtain⟨n,hn⟩:=AU (dQ V.ps)
 rw[show V.ps.any nM=n from hn.o.symm] at HD
 rw[←hn.o]
 have HB0:=AQ B0
 clear B0 h
 go_enter Tryz.func227,Tryz.ntmps227
 go_wp2_with fail
 refine(HD.o).mono ?_
 rintro e w3 ⟨rfl,hb3⟩
 have HB3:=AQ (HB0.o.trans (hb3.mono HB0.o.size))
 clear hb3
 go_wp2_with fail
 go_ret
 exact⟨rfl,HB3.o⟩
def rH (V:aZ) (x:Ch):Bool:= !iC V.ps x.src.1 || !iC V.ps x.dst.1
theorem vC (W:World) (V:aZ) (h:V.At W) (hs:fA V) (B:Nat) (hB:iU W B V) (x:Ch):
 Calls Tryz.prog 254 (#[.agg #[.int .i64 x.id.1, .int .i64 x.src.1, .int .i64 x.dst.1, .int .i64 x.cap.1, .int .i64 x.size.1]]++ #[.pointer (some ⟨B,0,none⟩)]) W fun e w'=>e= .returned (.bool (rH V x))∧Below W.heap.size W w':=by
 show Calls Tryz.prog 254 #[.agg #[.int .i64 x.id.1, .int .i64 x.src.1, .int .i64 x.dst.1, .int .i64 x.cap.1, .int .i64 x.size.1], .pointer (some ⟨B,0,none⟩)] W _
 obtain⟨R,HR⟩:=AU (rH V x)
 obtain⟨m,hm⟩:=AU (iC V.ps x.src.1)
 obtain⟨n,hn⟩:=AU (iC V.ps x.dst.1)
 rw[←HR.o]
 have hlt:=hB.lt
 have hne:B≠W.heap.size:=by omega
 have B0:Below W.heap.size W (W.alloc (.cells #[.int .i64 x.id.1, .int .i64 x.src.1, .int .i64 x.dst.1, .int .i64 x.cap.1, .int .i64 x.size.1] 48)):=(Below.refl _ W).alloc (Nat.le_refl _) _
 have HN:Hid ((W.alloc (.cells #[.int .i64 x.id.1, .int .i64 x.src.1, .int .i64 x.dst.1, .int .i64 x.cap.1, .int .i64 x.size.1] 48)).heap[W.heap.size]? =some (.cells #[.int .i64 x.id.1, .int .i64 x.src.1, .int .i64 x.dst.1, .int .i64 x.cap.1, .int .i64 x.size.1] 48 (0,0))):=heap_alloc_new _ _
 have hV:=h.stay B0
 have HC:=AQ (nK _ V hV hs x.src.1)
 rw[←hm.o] at HC
 have hk:=hB.keep B0
 have HI:=AQ (And.intro hk (And.intro hV B0))
 obtain⟨c0,c1,c2⟩:=hk
 clear B0 hB h hV
 have HF:Hid (R=(!m || !n)):=by rw[Hid,HR.o,hm.o,hn.o];rfl
 cases m with
 |
  false=>
  go_enter Tryz.func254,Tryz.ntmps254
  go_wp2_with fail
  refine(HC.o).mono ?_
  rintro e w2 ⟨rfl,hb2⟩
  have HB2:=AQ (HI.o.2.2.trans (hb2.mono HI.o.2.2.size))
  clear hb2
  go_wp2_with fail
  go_ret
  exact⟨au (by rw[HF.o];rfl),HB2.o⟩
 |
  true=>
  go_enter Tryz.func254,Tryz.ntmps254
  go_wp2_with fail
  refine(HC.o).mono ?_
  rintro e w2 ⟨rfl,hb2⟩
  have HB2:=AQ (HI.o.2.2.trans (hb2.mono HI.o.2.2.size))
  have HD:=AQ (nK w2 V (HI.o.2.1.stay hb2) hs x.dst.1)
  rw[←hn.o] at HD
  have e2:=(hb2.block W.heap.size AO).trans HN.o
  have k2:=ak e2 2 rfl
  obtain⟨c0,c1,c2⟩:=HI.o.1.keep hb2
  clear hb2 e2
  go_wp2_with fail
  refine(HD.o).mono ?_
  rintro e w3 ⟨rfl,hb3⟩
  have HB3:=AQ (HB2.o.trans (hb3.mono HB2.o.size))
  clear hb3
  go_wp2_with fail
  go_ret
  exact⟨au (by rw[HF.o];rfl),HB3.o⟩
def dH (V:aZ):Bool:=decide (8<V.cs.length) || (decide (kQ V.cs≠0) || V.cs.any (rH V))
theorem qp (w:World) (V:aZ) (h:V.At w) (hs:fA V):Calls Tryz.prog 229 #[.agg #[.slice V.wa V.ws.length V.wc, .slice V.pa V.ps.length V.pc, .slice V.ca V.cs.length V.cc]] w fun e w'=>e= .returned (.bool (dH V))∧Below w.heap.size w w':=by
 obtain⟨R,HR⟩:=AU (dH V)
 obtain⟨m,hm⟩:=AU (kQ V.cs)
 obtain⟨n,hn⟩:=AU (V.cs.any (rH V))
 rw[←HR.o]
 have B0:Below w.heap.size w (w.alloc (.cells #[.slice V.wa V.ws.length V.wc, .slice V.pa V.ps.length V.pc, .slice V.ca V.cs.length V.cc] 26)):=(Below.refl _ w).alloc (Nat.le_refl _) _
 have hI:=fK w V 26
 have hV:=h.stay B0
 have HC:=AQ (wS _ V.ca V.cs V.cc hV.BU)
 rw[←hm.o] at HC
 have HI:=AQ (And.intro hI (And.intro hV B0))
 have hlen:=hV.BU.aI
 obtain⟨c0,c1,c2⟩:=hI
 clear h hV B0
 have HF:Hid (R=(decide (8<V.cs.length) || (decide (m≠0) || n))):=by rw[Hid,HR.o,hm.o,hn.o];rfl
 by_cases h8:8<V.cs.length
 ·go_enter Tryz.func229,Tryz.ntmps229
  go_wp2_with fail
  go_ret
  exact⟨au (by rw[HF.o,decide_eq_true h8];rfl),HI.o.2.2⟩
 have H8:=AQ h8
 by_cases h0:m=0
 ·have H0:=AQ h0
  subst h0
  go_enter Tryz.func229,Tryz.ntmps229
  go_wp2_with fail
  refine(HC.o).mono ?_
  rintro e w2 ⟨rfl,hb2⟩
  have hI2:=HI.o.1.keep hb2
  have hV2:=HI.o.2.1.stay hb2
  have HD:=AQ (uF (p:=rH V) 254 #[.pointer (some ⟨w.heap.size,0,none⟩)] (enters_of Tryz.func254 AB rfl) w2 V.ca V.cs V.cc hV2.BU
   (fun W i hi hb=>(vC W V (hV2.stay hb) hs w.heap.size (hI2.keep hb) V.cs[i]).mono fun e w' ⟨he,hb'⟩=>⟨he,hb.trans (hb'.mono hb.size)⟩))
  rw[←hn.o] at HD
  have HB2:=AQ (HI.o.2.2.trans (hb2.mono HI.o.2.2.size))
  obtain⟨c0,c1,c2⟩:=hI2
  clear hb2 hV2
  go_wp2_with fail
  refine(HD.o).mono ?_
  rintro e w3 ⟨rfl,hb3⟩
  have HB3:=AQ (HB2.o.trans (hb3.mono HB2.o.size))
  clear hb3
  go_wp2_with fail
  go_ret
  exact⟨au (by rw[HF.o,show decide ((8:Int)<(V.cs.length:Int))=decide (8<V.cs.length) from decide_eq_decide.2 AL];simp),HB3.o⟩
 ·have H0:=AQ h0
  go_enter Tryz.func229,Tryz.ntmps229
  go_wp2_with fail
  refine(HC.o).mono ?_
  rintro e w2 ⟨rfl,hb2⟩
  have HB2:=AQ (HI.o.2.2.trans (hb2.mono HI.o.2.2.size))
  clear hb2
  go_wp2_with fail
  go_ret
  exact⟨au (by rw[HF.o,decide_eq_false H8.o,decide_eq_true H0.o];rfl),HB2.o⟩
def jw:Int→List fV→Bool
 | _,[]=>true
 | last,x::r=>decide (last<x.id.1∧x.id.1≤6) && jw x.id.1 r
def dV (ps:List fV):Bool:=decide (ps.length<1∨6<ps.length) || !jw 0 ps
theorem Ak (ps:List fV) (m:Int) (k:Nat) (h:k<ps.length):jw m (ps.drop k)=(decide (m<ps[k].id.1∧ps[k].id.1≤6) && jw ps[k].id.1 (ps.drop (k+1))):=by
 rw[List.drop_eq_getElem_cons h];rfl
theorem vT (w:World) (V:aZ) (h:V.At w):Calls Tryz.prog 226 #[.agg #[.slice V.wa V.ws.length V.wc, .slice V.pa V.ps.length V.pc, .slice V.ca V.cs.length V.cc]] w fun e w'=>e= .returned (.bool (dV V.ps))∧Below w.heap.size w w':=by
 obtain⟨R,HR⟩:=AU (dV V.ps)
 rw[←HR.o]
 obtain⟨w0,hw0⟩:=AV (w.alloc (.cells #[.slice V.wa V.ws.length V.wc, .slice V.pa V.ps.length V.pc, .slice V.ca V.cs.length V.cc] 26))
 have B0:Below w.heap.size w w0:=by rw[hw0];exact(Below.refl _ w).alloc (Nat.le_refl _) _
 have hI:iU w0 w.heap.size V:=by rw[hw0];exact fK w V _
 have hlen:=h.pts.aI
 have HV:=AQ (h.stay B0)
 have HI:=AQ (And.intro hI B0)
 obtain⟨c0,c1,c2⟩:=hI
 clear h B0
 by_cases h1:V.ps.length<1
 ·have HF:Hid (R=true):=by rw[Hid,HR.o,dV,decide_eq_true AL];rfl
  go_enter Tryz.func226,Tryz.ntmps226
  go_wp2_with fail
  rw[←hw0]
  clear hw0
  go_wp2_with fail
  go_ret
  exact⟨au HF.o.symm,HI.o.2⟩
 by_cases h2:6<V.ps.length
 ·have HF:Hid (R=true):=by rw[Hid,HR.o,dV,decide_eq_true AL];rfl
  go_enter Tryz.func226,Tryz.ntmps226
  go_wp2_with fail
  rw[←hw0]
  clear hw0
  go_wp2_with fail
  go_ret
  exact⟨au HF.o.symm,HI.o.2⟩
 have HR:Hid (R= !jw 0 V.ps):=by rw[Hid,HR.o,dV,decide_eq_false AL];rfl
 go_enter Tryz.func226,Tryz.ntmps226
 go_wp2_with fail
 rw[←hw0]
 clear hw0
 go_wp2_with fail
 go_loopw [3,19] (fun s i wr=>∃(k:Nat) (m:Int),Hid (jw 0 V.ps=jw m (V.ps.drop k))∧k≤V.ps.length∧s= .int .i64 m∧i= .int .i64 k∧Below w0.heap.size w0 wr) (fun _ i _=>V.ps.length-(intOf i).toNat)
 case atStart=>exact⟨0,0,rfl,by omega,rfl,rfl,Below.refl _ _⟩
 case round=>
  obtain⟨k,m,ha,hk,rfl,rfl,B⟩:=hrel
  by_cases hlt:k<V.ps.length
  ·have i0:=HV.o.pts.index Eh k hlt
   obtain⟨u0,u1,u2,u3,u4⟩:=eU HV.o.pts B k hlt
   have HD:=AQ (Ak V.ps m k hlt)
   obtain⟨x,hx⟩:∃x:fV,Hid (x=V.ps[k]):=⟨V.ps[k],rfl⟩
   rw[←hx.o] at u0 u1 u2 u3 u4 HD
   have HB:Hid (∀C,Below w0.heap.size w0 (wr.alloc (.cells C 46))):=fun C=>B.alloc B.size _
   clear B
   by_cases hq:m<x.id.1∧x.id.1≤6
   ·obtain⟨q1,q2⟩:=hq
    have HA:Hid (jw 0 V.ps=jw x.id.1 (V.ps.drop (k+1))):=by rw[Hid,ha.o,HD.o,decide_eq_true ⟨q1,q2⟩];rfl
    go_wp2_with fail
    go_roundw
    case rel=>exact⟨k+1,x.id.1,HA.o,by omega,rfl,by go_num,HB.o _⟩
    case measure=>simp[intOf];omega
   ·have HF:Hid (R=true):=by rw[Hid,HR.o,ha.o,HD.o,decide_eq_false hq];rfl
    have HQ:=AQ hq
    clear hq
    go_wp2_with fail
    all_goals first
     | (go_ret;exact⟨au HF.o.symm,HI.o.2.trans ((HB.o _).mono HI.o.2.size)⟩)
     | (exfalso;have:=HQ.o;omega)
  ·have hk2:k=V.ps.length:=by omega
   have HF:Hid (R=false):=by rw[Hid,HR.o,ha.o,hk2,List.drop_length];rfl
   clear hk2
   go_wp2_with fail
   go_ret
   exact⟨au HF.o.symm,HI.o.2.trans (B.mono HI.o.2.size)⟩
end Go.Proofs.YtlholdllibghbaaGreat
