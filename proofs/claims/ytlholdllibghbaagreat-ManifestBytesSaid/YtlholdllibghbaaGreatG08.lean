/- Texts of the proof, one behind the other: WireTag, WireTag2, After, Region. No condition but those that each names. -/
import Derived.Test.YtlholdllibghbaaGreatG06
import Derived.Test.YtlholdllibghbaaGreatG07
import Derived.Laws.Cover3
import Derived.Test.YtlholdllibghbaaGreatG00
import Derived.Test.YtlholdllibghbaaGreatG02
import Derived.Test.YtlholdllibghbaaGreatKit
set_option maxRecDepth 100000
set_option maxHeartbeats 8000000
namespace Go.Proofs.YtlholdllibghbaaGreat
open Go Go.RowKit Go.Cit
def aH:List UInt8:=List.replicate 32 0
theorem dP:fO Tryz.prog 53 32:=⟨⟨_,Tryz.underlying53,rfl⟩,by kernel_rfl⟩
theorem jO (ρ:Operand→Value) (d:Option Tmp) (ty:TypeId) (ps:String) {af} (w:World):
 (execOp ρ {dst:=d,op:=Op.alloc 53,type:=ty,pos:=ps,after:=af,guard:=none}).run Tryz.prog w= .ok (.value (.pointer (some ⟨w.heap.size,0,none⟩))) (w.alloc (.cells (aH.map vb).toArray 53)):=by
 kernel_rfl
theorem bP (t:List UInt8) (h:t.length=32):(t.map vb).toArray.size=32∧(t.map vb).toArray.all (·.oneCell')=true:=by simp[h,Value.oneCell']
theorem RQ (w:World) {a:Option Addr} {X:List UInt8} {c:Nat} (r:Row w a X c) (h:X.length=32):
 Calls Tryz.prog 132 #[.slice a X.length c] w fun e w'=>e= .returned (.tuple #[.agg (X.map vb).toArray, .bool true])∧Below w.heap.size w w':=by
 obtain⟨b,o,rfl⟩:=r.spot (by intro h0;simp[h0] at h)
 have hb:Below w.heap.size w (w.alloc (.cells (aH.map vb).toArray 53)):=(Below.refl _ _).alloc (Nat.le_refl _) _
 have hl:=AQ (uT (w.alloc (.cells (aH.map vb).toArray 53)) b o X h (fun k hk=>(r.stay hb).cell k hk))
 have hat:∀w,(Instr.arrayAt 53 (.slice (some ⟨b,o,none⟩) X.length c)).run Tryz.prog w= .ok (.pointer (some ⟨b,o,none⟩)) w:=fun w=>run_arrayAt w 53 _ 32 _ X.length c Tryz.underlying53 AL
 have HC:=AQ (bP X h)
 have HZ:=AQ (bP aH rfl)
 have HA:=AQ (fun ρ d ty ps af=>jO ρ d ty ps (af:=af) w)
 clear h r
 generalize (X.map vb).toArray=T at *
 generalize (aH.map vb).toArray=Z at *
 go_enter Tryz.func132,Tryz.ntmps132
 go_wp2_with (first |((with_reducible refine aj (o:=⟨some 2, .alloc _,_,_,_,_⟩) AA (HA.o _ _ _ _ _) ?_)) |((with_reducible refine aN (o:=⟨some 6, .load 53 (.tmp 5),_,_,_,_⟩) AA AA AA hl.o ?_)) |((with_reducible refine ay (o:=⟨none, .store 53 (.tmp 2) (.tmp 6),_,_,_,_⟩) dP (.tmp 2) (.tmp 6) AA AA AA AA AA (heap_alloc_new w _) HZ.o.1 HC.o.1 HC.o.2 ?_);intro w2 hb2 hS2))
 exact bodyPost_ret (jS dP rfl rfl hb2 HC.o.1) rfl ⟨rfl,hb.trans (hS2.below AO (fun k hk=>by omega))⟩
def pW (x:List UInt8):List UInt8×Bool:=(x,true)
theorem zA (s:St):(s.read 32 pW aH).1.length=32:=by
 unfold St.read St.next
 split
 ·rename_i x s' h
  split at h
  ·simp at h
  ·split at h
   ·rename_i h2
    simp only[Prod.mk.injEq,Option.some.injEq] at h
    rw[←h.1];simp[pW];omega
   ·simp at h
 ·rfl
theorem Ce {base top w b a l c} (h:Rd base top w b a l c 0) (hn:32≤l.length) (ht:top≤w.heap.size):
 Calls Tryz.prog 131 #[.pointer (some ⟨b,0,none⟩), .int .i64 32, .func (.func 132) #[] #[]] w fun r w'=>r= .returned (.agg ((St.read ⟨l,0⟩ 32 pW aH).1.map vb).toArray)∧dU base top w' b (St.read ⟨l,0⟩ 32 pW aH).2∧Save (· ≠b) w w':=by
 have HZ:=AQ (bP aH rfl)
 have HA:=AQ (fun ρ d ty ps af w=>jO ρ d ty ps (af:=af) w)
 obtain⟨Z,hZ⟩:=AU ((aH.map vb).toArray)
 rw[←hZ.o] at HZ HA
 have hlt:=h.lt
 have g1:Below w.heap.size w (w.alloc (.cells Z 53)):=(Below.refl _ _).alloc (Nat.le_refl _) _
 have g2:Below w.heap.size w ((w.alloc (.cells Z 53)).alloc (.cells Z 53)):=g1.alloc AO _
 have k6:((w.alloc (.cells Z 53)).alloc (.cells Z 53)).heap[w.heap.size]? =some (.cells Z 53 (0,0)):=(Below.heap_alloc _ _ _ AO).trans (heap_alloc_new w _)
 have k7:((w.alloc (.cells Z 53)).alloc (.cells Z 53)).heap[w.heap.size+1]? =some (.cells Z 53 (0,0)):=by
  have:=heap_alloc_new (w.alloc (.cells Z 53)) (.cells Z 53);simpa using this
 have H2:=h.stay g2
 have K6:=AQ k6
 have K7:=AQ k7
 have sz:((w.alloc (.cells Z 53)).alloc (.cells Z 53)).heap.size=w.heap.size+2:=by simp
 have SZ:=AQ sz
 clear k6 k7 g1 sz
 have rt:∀(L:List UInt8),L.length=32→(L.map vb).toArray.size=32∧(L.map vb).toArray.all (·.oneCell')=true:=bP
 have hk:=oz H2 32 hn
 rw[show((32:Nat):Int)=32 from rfl] at hk
 have HR:Hid (St.read ⟨l,0⟩ 32 pW aH=(l.take 32,⟨l.drop 32,0⟩)):=mZ hn rfl
 have HN:=AQ hn
 clear hn
 go_enter Tryz.func131,Tryz.ntmps131
 go_wp2_with (first |((with_reducible refine aj (o:=⟨some 6, .alloc _,_,_,_,_⟩) AA (HA.o _ _ _ _ _ _) ?_)) |((with_reducible refine aj (o:=⟨some 7, .alloc _,_,_,_,_⟩) AA (HA.o _ _ _ _ _ _) ?_)))
 refine Calls.mono hk ?_
 rintro r w1 ⟨a1,X,c1,HX,rfl,r1,hR,hS⟩
 have hX:X.length=32:=by have:=HN.o;rw[HX.o,List.length_take];omega
 have hi:=RQ w1 r1 hX
 have HC:=AQ (rt X hX)
 obtain⟨T,hT⟩:=AU ((X.map vb).toArray)
 rw[←hT.o] at HC hi
 clear hX hk
 go_wp2_with fail
 refine Calls.mono hi ?_
 rintro r w2 ⟨rfl,hb2⟩
 have hs12:Save (· ≠b) _ w2:=hS.trans (Save.of hb2)
 have K6b:=AQ ((hs12.block w.heap.size (by rw[SZ.o];omega) AL).trans K6.o)
 have HZw:w.heap.size+2≤w2.heap.size:=by have:=hs12.size;rw[SZ.o] at this;exact this
 have hR2:=dU.stay hR hb2
 have hN10:=AQ (heap_alloc_new w2 (.cells Z 53))
 have hW2:w2.heap.size<(w2.alloc (.cells Z 53)).heap.size:=by simp
 go_wp2_with (first |((with_reducible refine aj (o:=⟨some 10, .alloc _,_,_,_,_⟩) AA (HA.o _ _ _ _ _ _) ?_)) |((with_reducible refine ay (o:=⟨none, .store 53 (.tmp 10) (.tmp 24),_,_,_,_⟩) dP (.tmp 10) (.tmp 24) AA AA AA AA AA hN10.o HZ.o.1 HC.o.1 HC.o.2 ?_);intro w3 hb3 hS3;have K6c:=AQ ((hS3.block w.heap.size AL AL).trans ((Below.heap_alloc w2 _ _ AL).trans K6b.o))) |((with_reducible refine dD (o:=⟨some 31, .load 53 (.tmp 10),_,_,_,_⟩) dP (.tmp 10) AA AA AA hb3 HC.o.1 ?_)) |((with_reducible refine ay (o:=⟨none, .store 53 (.tmp 6) (.tmp 31),_,_,_,_⟩) dP (.tmp 6) (.tmp 31) AA AA AA AA AA K6c.o HZ.o.1 HC.o.1 HC.o.2 ?_);intro w4 hb4 hS4))
 have hS24:Save (fun k=>k<w2.heap.size∧k≠w.heap.size) w2 w4:=(Save.alloc w2 _).trans ((hS3.less (fun k _ hk=>by omega)).trans (hS4.less (fun k _ hk=>hk.2)))
 refine bodyPost_ret (ig dP rfl rfl hb4 HC.o.1) rfl ⟨?_, ?_, ?_⟩
 ·rw[HR.o,←HX.o,hT.o]
 ·rw[HR.o]
  exact hR2.save hS24 ⟨by omega,by omega⟩ (fun g _ hg=>⟨by omega,by omega⟩)
 ·have hS5:Save (fun k=>k<w.heap.size∧k≠b) w w4:=(Save.of g2).trans ((hs12.less (fun k _ hk=>hk.2)).trans (hS24.less (fun k _ hk=>by omega)))
  exact hS5.less (fun k hk hkb=>⟨hk,hkb⟩)
theorem EN {base top w b a l c e} (h:Rd base top w b a l c e) (hno:e=0→(l.length:Int)<32) (ht:top≤w.heap.size):
 Calls Tryz.prog 131 #[.pointer (some ⟨b,0,none⟩), .int .i64 32, .func (.func 132) #[] #[]] w fun r w'=>r= .returned (.agg ((St.read ⟨l,e⟩ 32 pW aH).1.map vb).toArray)∧dU base top w' b (St.read ⟨l,e⟩ 32 pW aH).2∧Save (· ≠b) w w':=by
 have HZ:=AQ (bP aH rfl)
 have HA:=AQ (fun ρ d ty ps af w=>jO ρ d ty ps (af:=af) w)
 obtain⟨Z,hZ⟩:=AU ((aH.map vb).toArray)
 rw[←hZ.o] at HZ HA
 have hlt:=h.lt
 have g1:Below w.heap.size w (w.alloc (.cells Z 53)):=(Below.refl _ _).alloc (Nat.le_refl _) _
 have g2:Below w.heap.size w ((w.alloc (.cells Z 53)).alloc (.cells Z 53)):=g1.alloc AO _
 have k6:((w.alloc (.cells Z 53)).alloc (.cells Z 53)).heap[w.heap.size]? =some (.cells Z 53 (0,0)):=(Below.heap_alloc _ _ _ AO).trans (heap_alloc_new w _)
 have k7:((w.alloc (.cells Z 53)).alloc (.cells Z 53)).heap[w.heap.size+1]? =some (.cells Z 53 (0,0)):=by
  have:=heap_alloc_new (w.alloc (.cells Z 53)) (.cells Z 53);simpa using this
 have H2:=h.stay g2
 have K6:=AQ k6
 have K7:=AQ k7
 have sz:((w.alloc (.cells Z 53)).alloc (.cells Z 53)).heap.size=w.heap.size+2:=by simp
 have SZ:=AQ sz
 clear k6 k7 g1 sz
 have rt:∀(L:List UInt8),L.length=32→(L.map vb).toArray.size=32∧(L.map vb).toArray.all (·.oneCell')=true:=bP
 have hk:=rU H2 32 hno
 have HR:Hid (St.read ⟨l,e⟩ 32 pW aH=(aH,St.breaks ⟨l,e⟩)):=pR (fun he=>by have:=hno he;omega)
 clear hno
 go_enter Tryz.func131,Tryz.ntmps131
 go_wp2_with (first |((with_reducible refine aj (o:=⟨some 6, .alloc _,_,_,_,_⟩) AA (HA.o _ _ _ _ _ _) ?_)) |((with_reducible refine aj (o:=⟨some 7, .alloc _,_,_,_,_⟩) AA (HA.o _ _ _ _ _ _) ?_)))
 refine Calls.mono hk ?_
 rintro r w1 ⟨rfl,hR,hS⟩
 have K6b:=AQ ((hS.block w.heap.size (by rw[SZ.o];omega) AL).trans K6.o)
 have K7b:=AQ ((hS.block (w.heap.size+1) (by rw[SZ.o];omega) AL).trans K7.o)
 go_wp2_with (first |((with_reducible refine dD (o:=⟨some 19, .load 53 (.tmp 7),_,_,_,_⟩) dP (.tmp 7) AA AA AA K7b.o HZ.o.1 ?_)) |((with_reducible refine ay (o:=⟨none, .store 53 (.tmp 6) (.tmp 19),_,_,_,_⟩) dP (.tmp 6) (.tmp 19) AA AA AA AA AA K6b.o HZ.o.1 HZ.o.1 HZ.o.2 ?_);intro w4 hb4 hS4))
 have hs1:=hS.size
 rw[SZ.o] at hs1
 refine bodyPost_ret (ig dP rfl rfl hb4 HZ.o.1) rfl ⟨?_, ?_, ?_⟩
 ·rw[HR.o,hZ.o]
 ·rw[HR.o]
  exact hR.save hS4 AL (fun g _ hg=>by omega)
 ·have hS5:Save (fun k=>k<w.heap.size∧k≠b) w w4:=(Save.of g2).trans ((hS.less (fun k _ hk=>hk.2)).trans (hS4.less (fun k _ hk=>by omega)))
  exact hS5.less (fun k hk hkb=>⟨hk,hkb⟩)
open Go Go.RowKit Go.Cit
theorem Jd {base top w b a l c e} (h:Rd base top w b a l c e) (ht:top≤w.heap.size):
 Calls Tryz.prog 58 #[.pointer (some ⟨b,0,none⟩)] w fun r w'=>r= .returned (.agg ((St.read ⟨l,e⟩ 32 pW aH).1.map vb).toArray)∧dU base top w' b (St.read ⟨l,e⟩ 32 pW aH).2∧Save (· ≠b) w w':=by
 have HZ:=AQ (bP aH rfl)
 have HA:=AQ (fun ρ d ty ps af w=>jO ρ d ty ps (af:=af) w)
 obtain⟨Z,hZ⟩:=AU ((aH.map vb).toArray)
 rw[←hZ.o] at HZ HA
 have hlt:=h.lt
 have g1:Below w.heap.size w (w.alloc (.cells Z 53)):=(Below.refl _ _).alloc (Nat.le_refl _) _
 have SZ:Hid ((w.alloc (.cells Z 53)).heap.size=w.heap.size+1):=by simp[Hid]
 have K2:=AQ (heap_alloc_new w (.cells Z 53))
 obtain⟨s,hs⟩:=AU (St.read ⟨l,e⟩ 32 pW aH)
 have hk:Calls Tryz.prog 131 #[.pointer (some ⟨b,0,none⟩), .int .i64 32, .func (.func 132) #[] #[]] (w.alloc (.cells Z 53)) fun r w'=>r= .returned (.agg (s.1.map vb).toArray)∧dU base top w' b s.2∧Save (· ≠b) (w.alloc (.cells Z 53)) w':=by
  rw[hs.o]
  by_cases hy:e=0∧32≤l.length
  ·obtain⟨rfl,hn⟩:=hy
   exact Ce (h.stay g1) hn (by rw[SZ.o];omega)
  ·exact EN (h.stay g1) (fun he=>by have:=fun h=>hy ⟨he,h⟩;omega) (by rw[SZ.o];omega)
 have HC:=AQ (bP s.1 (by rw[hs.o];exact zA _))
 rw[←hs.o]
 obtain⟨T,hT⟩:=AU ((s.1.map vb).toArray)
 rw[←hT.o] at hk HC ⊢
 go_enter Tryz.func58,Tryz.ntmps58
 go_wp2_with ((with_reducible refine aj (o:=⟨some 2, .alloc _,_,_,_,_⟩) AA (HA.o _ _ _ _ _ _) ?_))
 refine Calls.mono hk ?_
 rintro r w1 ⟨rfl,hR,hS⟩
 have hs1:=hS.size
 rw[SZ.o] at hs1
 have K2b:=AQ ((hS.block w.heap.size (by rw[SZ.o];omega) AL).trans K2.o)
 clear hk
 go_wp2_with ((with_reducible refine ay (o:=⟨none, .store 53 (.tmp 2) (.tmp 4),_,_,_,_⟩) dP (.tmp 2) (.tmp 4) AA AA AA AA AA K2b.o HZ.o.1 HC.o.1 HC.o.2 ?_);intro w4 hb4 hS4)
 refine bodyPost_ret (ig dP rfl rfl hb4 HC.o.1) rfl ⟨rfl, ?_, ?_⟩
 ·exact hR.save hS4 AL (fun g _ hg=>by omega)
 ·have hS5:Save (fun k=>k<w.heap.size∧k≠b) w w4:=(Save.of g1).trans ((hS.less (fun k _ hk=>hk.2)).trans (hS4.less (fun k _ hk=>by omega)))
  exact hS5.less (fun k hk hkb=>⟨hk,hkb⟩)
end Go.Proofs.YtlholdllibghbaaGreat
namespace Go.Cit
open Go Go.RowKit
structure After (w:World) where
 to:World
 bel:Below w.heap.size w to
instance (w:World):Inhabited (After w):=⟨⟨w,Below.refl _ _⟩⟩
structure Wq (P:Program) (ops:Array Oper) (C:World→Prop) (Q:Act→Prop) (l:List Oper) (a:Act):Prop where
 o:wpQuiet P ops C Q l a
theorem gQ {P:Program} {ops:Array Oper} {C:World→Prop} {Q:Act→Prop} {a:Act} {o:Oper} {rest:List Oper}
 (h:∀K:Act→Prop,(∀a,Wq P ops C Q rest a→K a)→if Region.wanted o (yielded ops a.tmps) then o.quiet P a C K else K (a.put o.dst undef)):Wq P ops C Q (o::rest) a:=
 ⟨wpQuiet_step fun K hK=>h K fun a ha=>hK a ha.o⟩
theorem iY {P:Program} {ops:Array Oper} {C:World→Prop} {Q:Act→Prop} {a:Act} (h:Q a):Wq P ops C Q [] a:=⟨wpQuiet_nil h⟩
theorem aQ {P:Program} {id:Nat} {Q:Exit→Act→World→Prop} {a:Act} {w:World} {l:List Oper} (hm:P.follows .mixedOrders=true) (hB:Region.lexB .any l.toArray=true)
 (h:Wq P l.toArray (fun w'=>∃q:After w,w'=q.to) (fun a'=>∀w',(∃q:After w,w'=q.to)→Q .normal a' w') l a):(Code.region id l.toArray true).wp P Q a w:=
 wp_region_quiet (C:=fun w'=>∃q:After w,w'=q.to) hm hB ⟨⟨_,(Below.refl _ w).drew⟩,rfl⟩ (by simpa using h.o)
theorem aZ {P:Program} {f:FuncId} {args:Array Value} {w:World} {q:After w} {v:Value}
 (h:Calls P f args q.to fun e w'=>e= .returned v∧Below q.to.heap.size q.to w'):Calls P f args q.to fun e w''=>e= .returned v∧∃p:After w,w''=p.to:=
 h.mono fun _ _ ⟨he,hb⟩=>⟨he,⟨_,q.bel.trans (hb.mono q.bel.size)⟩,rfl⟩
theorem After.cell {w:World} {p:Addr} {v:Value} (h:w.cell? p=some v) (q:After w):q.to.cell? p=some v:=(q.bel.cell (World.block_lt_of_cell? w _ h)).trans h
theorem keep {w w':World} {p:Addr} {v:Value} (hb:Below w.heap.size w w') (h:w.cell? p=some v):w'.cell? p=some v:=(hb.cell (World.block_lt_of_cell? w _ h)).trans h
theorem keepA {w:World} {p:Addr} {v:Value} (o:Obj) (h:w.cell? p=some v):(w.alloc o).cell? p=some v:=keep ((Below.refl _ w).alloc (Nat.le_refl _) o) h
end Go.Cit
namespace Go.Proofs.YtlholdllibghbaaGreat
open Go Go.RowKit Go.Cit
def kE (r:Reg):Bool:=decide (0≤r.base.1∧r.base.1%4=0∧r.size.1%4=0∧16≤r.size.1∧r.size.1≤512∧r.base.1+r.size.1≤4096)
theorem Vl (z:Int):(z.tmod 4=0)=(z%4=0):=by
 apply propext
 exact⟨fun h=>Int.emod_eq_zero_of_dvd (Int.dvd_of_tmod_eq_zero h),fun h=>Int.tmod_eq_zero_of_dvd (Int.dvd_of_emod_eq_zero h)⟩
theorem kT (w:World) (r:Reg):Calls Tryz.prog 180 #[.agg #[.int .i64 r.base.1, .int .i64 r.size.1]] w fun e w'=>e= .returned (.bool (kE r))∧Below w.heap.size w w':=by
 obtain⟨R,HR⟩:=AU (kE r)
 rw[←HR.o]
 obtain⟨⟨x,hx⟩,⟨y,hy⟩⟩:=r
 have B:=AQ ((Below.refl _ w).alloc (Nat.le_refl _) (.cells #[.int .i64 x, .int .i64 y] 44))
 go_enter Tryz.func180,Tryz.ntmps180
 go_wp2_with fail
 all_goals
  go_ret
  refine⟨aJ ?_,B.o⟩
  rw[HR.o,kE]
  try simp only[Vl] at *
  first |(refine(decide_eq_false ?_).symm;omega) |(refine(decide_eq_true ?_).symm;omega) |(refine decide_eq_decide.2 ?_;omega)
def FB (r:Reg):Int:=if kE r then r.base.1+r.size.1 else 0
theorem LV {r:Reg} (h:kE r=true):0≤r.base.1∧r.base.1%4=0∧r.size.1%4=0∧16≤r.size.1∧r.size.1≤512∧r.base.1+r.size.1≤4096:=by
 unfold kE at h
 simpa using h
theorem Qr (w:World) (x y:Value) (T:TypeId):(w.alloc (.cells #[x,y] T)).cell? ⟨w.heap.size,0,none⟩=some x∧(w.alloc (.cells #[x,y] T)).cell? ⟨w.heap.size,1,none⟩=some y:=by
 constructor<;>(rw[World.cell?,heap_alloc_new];rfl)
theorem yZ (w:World) (r:Reg):Calls Tryz.prog 263 #[.agg #[.int .i64 r.base.1, .int .i64 r.size.1]] w fun e w'=>e= .returned (.int .i64 (FB r))∧Below w.heap.size w w':=by
 obtain⟨R,HR⟩:=AU (FB r)
 obtain⟨m,hm⟩:=AV (kE r)
 have HC:=AQ (kT (w.alloc (.cells #[.int .i64 r.base.1, .int .i64 r.size.1] 44)) r)
 have HB:=AQ (Qr w (.int .i64 r.base.1) (.int .i64 r.size.1) 44)
 have B:=AQ ((Below.refl _ w).alloc (Nat.le_refl _) (.cells #[.int .i64 r.base.1, .int .i64 r.size.1] 44))
 have HS:=AQ (fun h=>LV (r:=r) h)
 rw[←HR.o]
 rw[←hm] at HC HS
 have HM:=AQ hm
 clear hm
 go_enter Tryz.func263,Tryz.ntmps263
 go_wp2_with fail
 refine HC.o.mono ?_
 rintro e w' ⟨rfl,hb⟩
 have c0:=keep hb HB.o.1
 have c1:=keep hb HB.o.2
 have B2:=AQ (B.o.trans (hb.mono B.o.size))
 clear hb
 cases m with
 |
  false=>
  go_wp2_with fail
  go_ret
  exact⟨dX (by rw[HR.o,FB,←HM.o];rfl),B2.o⟩
 |
  true=>
  have hs:=HS.o rfl
  go_wp2_with fail
  go_ret
  exact⟨dX (by rw[HR.o,FB,←HM.o];rfl),B2.o⟩
def qK (a b:Reg):Bool:=kE a && kE b && (decide (FB a≤b.base.1) || decide (FB b≤a.base.1))
theorem EL (w:World) (r s:Reg):Calls Tryz.prog 259 #[.agg #[.int .i64 r.base.1, .int .i64 r.size.1], .agg #[.int .i64 s.base.1, .int .i64 s.size.1]] w fun e w'=>e= .returned (.bool (qK r s))∧Below w.heap.size w w':=by
 obtain⟨R,HR⟩:=AU (qK r s)
 obtain⟨m,hm⟩:=AU (kE r)
 obtain⟨n,hn⟩:=AU (kE s)
 obtain⟨x,hx⟩:=AU (FB r)
 obtain⟨y,hy⟩:=AU (FB s)
 have HC1:=AQ (fun w=>kT w r)
 have HC2:=AQ (fun w=>kT w s)
 have HE1:=AQ (fun w=>yZ w r)
 have HE2:=AQ (fun w=>yZ w s)
 rw[←hm.o] at HC1
 rw[←hn.o] at HC2
 rw[←hx.o] at HE1
 rw[←hy.o] at HE2
 rw[←HR.o]
 have hr:∃w0,w0=(w.alloc (.cells #[.int .i64 r.base.1, .int .i64 r.size.1] 44)).alloc (.cells #[.int .i64 s.base.1, .int .i64 s.size.1] 44):=⟨_,rfl⟩
 obtain⟨w0,hw0⟩:=hr
 have B:Below w.heap.size w w0:=by rw[hw0];exact((Below.refl _ w).alloc (Nat.le_refl _) _).alloc AO _
 have c1:=Qr w (.int .i64 r.base.1) (.int .i64 r.size.1) 44
 have c2:=Qr (w.alloc (.cells #[.int .i64 r.base.1, .int .i64 r.size.1] 44)) (.int .i64 s.base.1) (.int .i64 s.size.1) 44
 rw[←hw0] at c2
 simp only[World.size_alloc] at c2
 have c1a:∀q:After w0,q.to.cell? ⟨w.heap.size,0,none⟩=some (.int .i64 r.base.1):=fun q=>q.cell (by rw[hw0];exact keepA _ c1.1)
 have c1b:∀q:After w0,q.to.cell? ⟨w.heap.size,1,none⟩=some (.int .i64 r.size.1):=fun q=>q.cell (by rw[hw0];exact keepA _ c1.2)
 have c2a:∀q:After w0,q.to.cell? ⟨w.heap.size+1,0,none⟩=some (.int .i64 s.base.1):=fun q=>q.cell c2.1
 have c2b:∀q:After w0,q.to.cell? ⟨w.heap.size+1,1,none⟩=some (.int .i64 s.size.1):=fun q=>q.cell c2.2
 clear c1 c2
 go_enter Tryz.func259,Tryz.ntmps259
 go_wp2_with fail
 rw[←hw0]
 clear hw0
 have HF:Hid (R=(m && n && (decide (x≤s.base.1) || decide (y≤r.base.1)))):=by rw[Hid,HR.o,hm.o,hn.o,hx.o,hy.o];rfl
 cases m with
 |
  false=>
  refine aQ AB AB ?_
  iterate 21
   refine gQ (fun K hK=> ?_)
   go_simp
   first
    | (refine hK _ ?_;clear hK K)
    | (
     apply Exists.intro
     refine⟨fun _=> ?_,hK _ ?_⟩
     first |with_reducible exact aZ (HC1.o _) |with_reducible exact aZ (HC2.o _) |with_reducible exact aZ (HE1.o _) |with_reducible exact aZ (HE2.o _)
     clear hK K)
  refine iY ?_
  intro _ hw'
  obtain⟨⟨w1,hb1⟩,hw'⟩:=hw'
  subst hw'
  go_wp2_with fail
  go_ret
  exact⟨aJ (by rw[HF.o];rfl),B.trans (hb1.mono B.size)⟩
 |
  true=>
  cases n with
  |
   false=>
   refine aQ AB AB ?_
   iterate 21
    refine gQ (fun K hK=> ?_)
    go_simp
    first
     | (refine hK _ ?_;clear hK K)
     | (
      apply Exists.intro
      refine⟨fun _=> ?_,hK _ ?_⟩
      first |with_reducible exact aZ (HC1.o _) |with_reducible exact aZ (HC2.o _) |with_reducible exact aZ (HE1.o _) |with_reducible exact aZ (HE2.o _)
      clear hK K)
   refine iY ?_
   intro _ hw'
   obtain⟨⟨w1,hb1⟩,hw'⟩:=hw'
   subst hw'
   go_wp2_with fail
   go_ret
   exact⟨aJ (by rw[HF.o];rfl),B.trans (hb1.mono B.size)⟩
  |
   true=>
   by_cases h1:x≤s.base.1
   ·refine aQ AB AB ?_
    iterate 21
     refine gQ (fun K hK=> ?_)
     go_simp
     first
      | (refine hK _ ?_;clear hK K)
      | (
       apply Exists.intro
       refine⟨fun _=> ?_,hK _ ?_⟩
       first |with_reducible exact aZ (HC1.o _) |with_reducible exact aZ (HC2.o _) |with_reducible exact aZ (HE1.o _) |with_reducible exact aZ (HE2.o _)
       clear hK K)
    refine iY ?_
    intro _ hw'
    obtain⟨⟨w1,hb1⟩,hw'⟩:=hw'
    subst hw'
    go_wp2_with fail
    go_ret
    exact⟨aJ (by rw[HF.o];simp;omega),B.trans (hb1.mono B.size)⟩
   ·by_cases h2:y≤r.base.1
    ·refine aQ AB AB ?_
     iterate 21
      refine gQ (fun K hK=> ?_)
      go_simp
      first
       | (refine hK _ ?_;clear hK K)
       | (
        apply Exists.intro
        refine⟨fun _=> ?_,hK _ ?_⟩
        first |with_reducible exact aZ (HC1.o _) |with_reducible exact aZ (HC2.o _) |with_reducible exact aZ (HE1.o _) |with_reducible exact aZ (HE2.o _)
        clear hK K)
     refine iY ?_
     intro _ hw'
     obtain⟨⟨w1,hb1⟩,hw'⟩:=hw'
     subst hw'
     go_wp2_with fail
     go_ret
     exact⟨aJ (by rw[HF.o];simp;omega),B.trans (hb1.mono B.size)⟩
    ·refine aQ AB AB ?_
     iterate 21
      refine gQ (fun K hK=> ?_)
      go_simp
      first
       | (refine hK _ ?_;clear hK K)
       | (
        apply Exists.intro
        refine⟨fun _=> ?_,hK _ ?_⟩
        first |with_reducible exact aZ (HC1.o _) |with_reducible exact aZ (HC2.o _) |with_reducible exact aZ (HE1.o _) |with_reducible exact aZ (HE2.o _)
        clear hK K)
     refine iY ?_
     intro _ hw'
     obtain⟨⟨w1,hb1⟩,hw'⟩:=hw'
     subst hw'
     go_wp2_with fail
     go_ret
     exact⟨aJ (by rw[HF.o];simp;omega),B.trans (hb1.mono B.size)⟩
end Go.Proofs.YtlholdllibghbaaGreat
