/- Texts of the proof, one behind the other: ManRef, Tail. No condition but those that each names. -/
import Derived.Test.YtlholdllibghbaaGreatG33
import Derived.Test.YtlholdllibghbaaGreatG22
import Derived.Test.YtlholdllibghbaaGreatRefForm11
import Derived.Test.YtlholdllibghbaaGreatG08
import Derived.Test.YtlholdllibghbaaGreatG06
import Derived.Test.YtlholdllibghbaaGreatG21
import Derived.Test.YtlholdllibghbaaGreatG10
import Derived.Test.YtlholdllibghbaaGreatMan
import Derived.Test.YtlholdllibghbaaGreatKit
set_option maxRecDepth 100000
set_option maxHeartbeats 8000000
namespace Go.Proofs.YtlholdllibghbaaGreat
open Go Go.RowKit Go.Cit
theorem sV (w:World) (M:aW) (h:M.At w):Calls Tryz.prog 16 #[.agg (cM M)] w fun e w'=>e= .returned (.bool (jO M))∧Below w.heap.size w w':=by
 obtain⟨C,hC⟩:=AU (cM M)
 obtain⟨w0,hw0⟩:=AV (w.alloc (.cells C 55))
 have B0:Below w.heap.size w w0:=by rw[hw0];exact(Below.refl _ w).alloc (Nat.le_refl _) _
 have hI:dR w0 w.heap.size M:=by rw[hw0,hC.o];exact dR.new w h
 have c0:=hI.ver
 have c1:=hI.trial
 have d0:=hI.d0
 have d1:=hI.d1
 have d2:=hI.d2
 obtain⟨R,hR⟩:=AU (jO M)
 obtain⟨k,hk⟩:=AU (nP M.cfg)
 have hRK:Hid (R=((((decide (0<M.ver.1) && decide (M.ver.1≤1099511627776)) && decide (0<M.trial.1)) && decide (M.trial.1<9)) && k)):=by
  rw[Hid,hR.o,hk.o]
  unfold jO
  rw[show decide (0<M.ver.1)=decide (1≤M.ver.1) from decide_eq_decide.2 AL,show decide (0<M.trial.1)=decide (1≤M.trial.1) from decide_eq_decide.2 AL,show decide (M.trial.1<9)=decide (M.trial.1≤8) from decide_eq_decide.2 AL]
 have hc:=Dx w0 M.cfg (h.cfg.stay B0)
 rw[←hk.o] at hc
 have HC:=AQ hc
 have HB0:=AQ B0
 rw[←hR.o,←hC.o]
 have f0:=RN w.heap.size
 have f2:=mf2 w.heap.size
 have f3:=Po w.heap.size
 clear hc hI h B0
 go_enter Tryz.func16,Tryz.ntmps16
 go_upto_region 1 with fail
 rw[←hw0]
 clear hw0
 go_wp2_with fail
 all_goals first
  | (
   go_ret
   refine⟨aC ?_,HB0.o⟩
   rw[hRK.o]
   clear HC HB0 hRK hR hC hk
   first
    | (simp only[*,decide_true,decide_false,Bool.and_true,Bool.true_and,Bool.and_false,Bool.false_and];done)
    | (simp;intros;omega))
  | (
   refine HC.o.mono ?_
   rintro e w1 ⟨rfl,hb1⟩
   go_wp2_with fail
   go_ret
   refine⟨aC ?_,HB0.o.trans (hb1.mono HB0.o.size)⟩
   rw[hRK.o]
   simp only[*,decide_true,Bool.true_and])
instance:DecidableEq mO:=fun a b=>if h:a.ver=b.ver∧a.prev=b.prev∧a.trial=b.trial∧a.cfg=b.cfg∧a.tag=b.tag then isTrue (by cases a;cases b;simp_all) else isFalse (by rintro rfl;simp at h)
theorem xY:vg Tryz.prog 53 5 32 .u8:=⟨Tryz.underlying53,Tryz.underlying5,by kernel_rfl,by kernel_rfl,by kernel_rfl,by kernel_rfl⟩
def Va (B:Nat) (M N:aW) (S1 S2 T1 T2:Array Value) (x1 x2 x3 x4 x5:Bool):Nat→Value
 | 5=>(.pointer (some ⟨B,0,none⟩))
 | 6=>(.int .i64 M.ver.1)
 | 7=>(.pointer (some ⟨(B+1),0,none⟩))
 | 8=>(.int .i64 N.ver.1)
 | 9=>(.bool x1)
 | 10=>(.bool x1)
 | 11=>(bif x1 then (.pointer (some ⟨B,1,none⟩)) else undef)
 | 12=>(bif x1 then (.agg S1) else undef)
 | 13=>(bif x1 then (.pointer (some ⟨(B+1),1,none⟩)) else undef)
 | 14=>(bif x1 then (.agg S2) else undef)
 | 15=>(bif x1 then (.bool x2) else undef)
 | 16=>(.bool (x1 && x2))
 | 17=>(.bool (x1 && x2))
 | 18=>(bif (x1 && x2) then (.pointer (some ⟨B,33,none⟩)) else undef)
 | 19=>(bif (x1 && x2) then (.int .i64 M.trial.1) else undef)
 | 20=>(bif (x1 && x2) then (.pointer (some ⟨(B+1),33,none⟩)) else undef)
 | 21=>(bif (x1 && x2) then (.int .i64 N.trial.1) else undef)
 | 22=>(bif (x1 && x2) then (.bool x3) else undef)
 | 23=>(.bool ((x1 && x2) && x3))
 | 24=>(.bool ((x1 && x2) && x3))
 | 25=>(bif ((x1 && x2) && x3) then (.pointer (some ⟨B,37,none⟩)) else undef)
 | 26=>(bif ((x1 && x2) && x3) then (.agg T1) else undef)
 | 27=>(bif ((x1 && x2) && x3) then (.pointer (some ⟨(B+1),37,none⟩)) else undef)
 | 28=>(bif ((x1 && x2) && x3) then (.agg T2) else undef)
 | 29=>(bif ((x1 && x2) && x3) then (.bool x4) else undef)
 | 30=>(.bool (((x1 && x2) && x3) && x4))
 | 31=>(.bool (((x1 && x2) && x3) && x4))
 | 32=>(bif (((x1 && x2) && x3) && x4) then (.pointer (some ⟨B,34,none⟩)) else undef)
 | 33=>(bif (((x1 && x2) && x3) && x4) then (.agg #[.slice M.cfg.wa M.cfg.ws.length M.cfg.wc, .slice M.cfg.pa M.cfg.ps.length M.cfg.pc, .slice M.cfg.ca M.cfg.cs.length M.cfg.cc]) else undef)
 | 34=>(bif (((x1 && x2) && x3) && x4) then (.pointer (some ⟨(B+1),34,none⟩)) else undef)
 | 35=>(bif (((x1 && x2) && x3) && x4) then (.agg #[.slice N.cfg.wa N.cfg.ws.length N.cfg.wc, .slice N.cfg.pa N.cfg.ps.length N.cfg.pc, .slice N.cfg.ca N.cfg.cs.length N.cfg.cc]) else undef)
 | 36=>(bif (((x1 && x2) && x3) && x4) then (.bool x5) else undef)
 | 37=>(.bool ((((x1 && x2) && x3) && x4) && x5))
 | 4=>(.bool ((((x1 && x2) && x3) && x4) && x5))
 | _=>undef
def Um (B:Nat) (_ _:aW) (_ _ _ _:Array Value) (_ _ _ _ _:Bool):Nat→Value
 | 2=>(.pointer (some ⟨B,0,none⟩))
 | 3=>(.pointer (some ⟨(B+1),0,none⟩))
 | _=>undef
theorem wZ (w:World) (M N:aW) (h:M.At w) (h':N.At w):Calls Tryz.prog 31 #[.agg (cM M), .agg (cM N)] w fun e w'=>e= .returned (.bool (decide (M.man=N.man)))∧Below w.heap.size w w':=by
 obtain⟨C,hC⟩:=AU (cM M)
 obtain⟨D,hD⟩:=AU (cM N)
 obtain⟨w0,hw0⟩:=AV ((w.alloc (.cells C 55)).alloc (.cells D 55))
 have B1:Below (w.alloc (.cells C 55)).heap.size (w.alloc (.cells C 55)) w0:=by rw[hw0];exact(Below.refl _ _).alloc (Nat.le_refl _) _
 have Ba:Below w.heap.size w (w.alloc (.cells C 55)):=(Below.refl _ w).alloc (Nat.le_refl _) _
 have B0:Below w.heap.size w w0:=Ba.trans (B1.mono AO)
 have HI:Hid (dR w0 w.heap.size M∧dR w0 (w.heap.size+1) N):=by
  refine⟨?_, ?_⟩
  ·rw[hC.o] at B1;exact(dR.new w h).keep B1
  ·have:=dR.new (w.alloc (.cells C 55)) (h'.stay Ba)
   rw[hw0,hD.o]
   simpa using this
 have HC:Hid (∀q:After w0,Calls Tryz.prog 82 #[.agg #[.slice M.cfg.wa M.cfg.ws.length M.cfg.wc, .slice M.cfg.pa M.cfg.ps.length M.cfg.pc, .slice M.cfg.ca M.cfg.cs.length M.cfg.cc], .agg #[.slice N.cfg.wa N.cfg.ws.length N.cfg.wc, .slice N.cfg.pa N.cfg.ps.length N.cfg.pc, .slice N.cfg.ca N.cfg.cs.length N.cfg.cc]] q.to fun e w'=>e= .returned (.bool (decide (M.cfg.cfg=N.cfg.cfg)))∧Below q.to.heap.size q.to w'):=fun q=>Fb q.to M.cfg N.cfg ((h.stay B0).cfg.stay q.bel) ((h'.stay B0).cfg.stay q.bel)
 have HB0:=AQ B0
 obtain⟨x5,hx5⟩:=AU (decide (M.cfg.cfg=N.cfg.cfg))
 rw[←hx5.o] at HC
 obtain⟨x1,hx1⟩:=AU (decide (M.ver.1=N.ver.1))
 obtain⟨x2,hx2⟩:=AU (decide (M.prev=N.prev))
 obtain⟨x3,hx3⟩:=AU (decide (M.trial.1=N.trial.1))
 obtain⟨x4,hx4⟩:=AU (decide (M.tag=N.tag))
 obtain⟨R,hR⟩:=AU (decide (M.man=N.man))
 have HR:Hid (R=((((x1 && x2) && x3) && x4) && x5)):=by
  rw[Hid,hR.o,hx1.o,hx2.o,hx3.o,hx4.o,hx5.o,Bool.eq_iff_iff]
  simp only[Bool.and_eq_true,decide_eq_true_eq,aW.man,mO.mk.injEq]
  constructor
  ·rintro⟨e1,e2,e3,e4,e5⟩;exact⟨⟨⟨⟨by rw[e1],e2⟩,by rw[e3]⟩,e5⟩,e4⟩
  ·rintro⟨⟨⟨⟨e1,e2⟩,e3⟩,e5⟩,e4⟩;exact⟨Subtype.ext e1,e2,Subtype.ext e3,e4,e5⟩
 have HX1:Hid (((M.ver.1:Int)==N.ver.1)=x1):=by rw[Hid,hx1.o];rfl
 have HX3:Hid (((M.trial.1:Int)==N.trial.1)=x3):=by rw[Hid,hx3.o];rfl
 obtain⟨S1,hS1⟩:=AU ((M.prev.map vb).toArray)
 obtain⟨S2,hS2⟩:=AU ((N.prev.map vb).toArray)
 obtain⟨T1,hT1⟩:=AU ((M.tag.map vb).toArray)
 obtain⟨T2,hT2⟩:=AU ((N.tag.map vb).toArray)
 have HX2:Hid (∀w:World,(do eqGuard .eql 53 (.tmp 12) (.tmp 14) (.agg S1) (.agg S2);binOp .eql 53 (.agg S1) (.agg S2):Sem Value).run Tryz.prog w= .ok (.bool x2) w):=fun w=>by
  rw[hS1.o,hS2.o,hx2.o];exact jh xY.guard _ _ (jy xY _ _ HI.o.1.p32 HI.o.2.p32) w
 have HX4:Hid (∀w:World,(do eqGuard .eql 53 (.tmp 26) (.tmp 28) (.agg T1) (.agg T2);binOp .eql 53 (.agg T1) (.agg T2):Sem Value).run Tryz.prog w= .ok (.bool x4) w):=fun w=>by
  rw[hT1.o,hT2.o,hx4.o];exact jh xY.guard _ _ (jy xY _ _ HI.o.1.t32 HI.o.2.t32) w
 have L1:∀q:After w0,(Instr.loadAt 53 (.pointer (some ⟨w.heap.size,1,none⟩))).run Tryz.prog q.to= .ok (.agg S1) q.to:=fun q=>by rw[hS1.o];exact(HI.o.1.keep q.bel).prev
 have L2:∀q:After w0,(Instr.loadAt 53 (.pointer (some ⟨w.heap.size+1,1,none⟩))).run Tryz.prog q.to= .ok (.agg S2) q.to:=fun q=>by rw[hS2.o];exact(HI.o.2.keep q.bel).prev
 have L3:∀q:After w0,(Instr.loadAt 53 (.pointer (some ⟨w.heap.size,37,none⟩))).run Tryz.prog q.to= .ok (.agg T1) q.to:=fun q=>by rw[hT1.o];exact(HI.o.1.keep q.bel).tag
 have L4:∀q:After w0,(Instr.loadAt 53 (.pointer (some ⟨w.heap.size+1,37,none⟩))).run Tryz.prog q.to= .ok (.agg T2) q.to:=fun q=>by rw[hT2.o];exact(HI.o.2.keep q.bel).tag
 rw[←hC.o,←hD.o,←hR.o]
 clear h h' B0 B1 Ba
 go_enter Tryz.func31,Tryz.ntmps31
 go_upto_region 1 with fail
 rw[←hw0]
 clear hw0
 refine dY (Va w.heap.size M N S1 S2 T1 T2 x1 x2 x3 x4 x5) (Um w.heap.size M N S1 S2 T1 T2 x1 x2 x3 x4 x5) [2,3] AB ⟨rfl,rfl,trivial⟩ ?_ ?_
 ·repeat' (first |exact aO |refine aI ?_ ?_)
  all_goals intro a hk
  ·
   exact .inl ⟨ah rfl,bM (.tmp 2) rfl (hk.o 2) (v:=(.pointer (some ⟨w.heap.size,0,none⟩))) (fun w=>AB) rfl⟩
  ·
   exact .inl ⟨ah rfl,aX (.tmp 5) rfl (hk.s 5) (v:=(.int .i64 M.ver.1)) (fun q=>bH (fun w=>AB) (HI.o.1.keep q.bel).ver) rfl⟩
  ·
   exact .inl ⟨ah rfl,bM (.tmp 3) rfl (hk.o 3) (v:=(.pointer (some ⟨(w.heap.size+1),0,none⟩))) (fun w=>AB) rfl⟩
  ·
   exact .inl ⟨ah rfl,aX (.tmp 7) rfl (hk.s 7) (v:=(.int .i64 N.ver.1)) (fun q=>bH (fun w=>AB) (HI.o.2.keep q.bel).ver) rfl⟩
  ·
   exact .inl ⟨ah rfl,iq rfl (hk.s 6) (hk.s 8) (v:= .bool (((M.ver.1:Int)==N.ver.1))) (fun w=>AB) (congrArg Value.bool (HX1.o))⟩
  ·
   exact .inl ⟨ah rfl,aZ (.tmp 9) rfl (hk.s 9)⟩
  ·
   cases x1<;>first |exact hk.no 10 true |skip
   exact .inl ⟨hk.yes 10 true,bM (.tmp 2) rfl (hk.o 2) (v:=(.pointer (some ⟨w.heap.size,1,none⟩))) (fun w=>AB) rfl⟩
  ·
   cases x1<;>first |exact hk.no 10 true |skip
   exact .inl ⟨hk.yes 10 true,aX (.tmp 11) rfl (hk.s 11) (v:=(.agg S1)) (fun q=>L1 q) rfl⟩
  ·
   cases x1<;>first |exact hk.no 10 true |skip
   exact .inl ⟨hk.yes 10 true,bM (.tmp 3) rfl (hk.o 3) (v:=(.pointer (some ⟨(w.heap.size+1),1,none⟩))) (fun w=>AB) rfl⟩
  ·
   cases x1<;>first |exact hk.no 10 true |skip
   exact .inl ⟨hk.yes 10 true,aX (.tmp 13) rfl (hk.s 13) (v:=(.agg S2)) (fun q=>L2 q) rfl⟩
  ·
   cases x1<;>first |exact hk.no 10 true |skip
   exact .inl ⟨hk.yes 10 true,iq rfl (hk.s 12) (hk.s 14) (v:=(.bool x2)) (fun w=>HX2.o w) rfl⟩
  ·
   cases x1 with
   |
    true=>
    exact .inl ⟨ah rfl,aH rfl true (hk.s 10) (hk.s 15)⟩
   |
    false=>
    exact .inl ⟨ah rfl,aH rfl false (hk.s 10) rfl⟩
  ·
   exact .inl ⟨ah rfl,aZ (.tmp 16) rfl (hk.s 16)⟩
  ·
   cases x1<;>cases x2<;>first |exact hk.no 17 true |skip
   exact .inl ⟨hk.yes 17 true,bM (.tmp 2) rfl (hk.o 2) (v:=(.pointer (some ⟨w.heap.size,33,none⟩))) (fun w=>AB) rfl⟩
  ·
   cases x1<;>cases x2<;>first |exact hk.no 17 true |skip
   exact .inl ⟨hk.yes 17 true,aX (.tmp 18) rfl (hk.s 18) (v:=(.int .i64 M.trial.1)) (fun q=>bH (fun w=>AB) (HI.o.1.keep q.bel).trial) rfl⟩
  ·
   cases x1<;>cases x2<;>first |exact hk.no 17 true |skip
   exact .inl ⟨hk.yes 17 true,bM (.tmp 3) rfl (hk.o 3) (v:=(.pointer (some ⟨(w.heap.size+1),33,none⟩))) (fun w=>AB) rfl⟩
  ·
   cases x1<;>cases x2<;>first |exact hk.no 17 true |skip
   exact .inl ⟨hk.yes 17 true,aX (.tmp 20) rfl (hk.s 20) (v:=(.int .i64 N.trial.1)) (fun q=>bH (fun w=>AB) (HI.o.2.keep q.bel).trial) rfl⟩
  ·
   cases x1<;>cases x2<;>first |exact hk.no 17 true |skip
   exact .inl ⟨hk.yes 17 true,iq rfl (hk.s 19) (hk.s 21) (v:= .bool (((M.trial.1:Int)==N.trial.1))) (fun w=>AB) (congrArg Value.bool (HX3.o))⟩
  ·
   cases x1 with
   |
    true=>
    cases x2 with
    |
     true=>
     exact .inl ⟨ah rfl,aH rfl true (hk.s 17) (hk.s 22)⟩
    |
     false=>
     exact .inl ⟨ah rfl,aH rfl false (hk.s 17) rfl⟩
   |
    false=>
    exact .inl ⟨ah rfl,aH rfl false (hk.s 17) rfl⟩
  ·
   exact .inl ⟨ah rfl,aZ (.tmp 23) rfl (hk.s 23)⟩
  ·
   cases x1<;>cases x2<;>cases x3<;>first |exact hk.no 24 true |skip
   exact .inl ⟨hk.yes 24 true,bM (.tmp 2) rfl (hk.o 2) (v:=(.pointer (some ⟨w.heap.size,37,none⟩))) (fun w=>AB) rfl⟩
  ·
   cases x1<;>cases x2<;>cases x3<;>first |exact hk.no 24 true |skip
   exact .inl ⟨hk.yes 24 true,aX (.tmp 25) rfl (hk.s 25) (v:=(.agg T1)) (fun q=>L3 q) rfl⟩
  ·
   cases x1<;>cases x2<;>cases x3<;>first |exact hk.no 24 true |skip
   exact .inl ⟨hk.yes 24 true,bM (.tmp 3) rfl (hk.o 3) (v:=(.pointer (some ⟨(w.heap.size+1),37,none⟩))) (fun w=>AB) rfl⟩
  ·
   cases x1<;>cases x2<;>cases x3<;>first |exact hk.no 24 true |skip
   exact .inl ⟨hk.yes 24 true,aX (.tmp 27) rfl (hk.s 27) (v:=(.agg T2)) (fun q=>L4 q) rfl⟩
  ·
   cases x1<;>cases x2<;>cases x3<;>first |exact hk.no 24 true |skip
   exact .inl ⟨hk.yes 24 true,iq rfl (hk.s 26) (hk.s 28) (v:=(.bool x4)) (fun w=>HX4.o w) rfl⟩
  ·
   cases x1 with
   |
    true=>
    cases x2 with
    |
     true=>
     cases x3 with
     |
      true=>
      exact .inl ⟨ah rfl,aH rfl true (hk.s 24) (hk.s 29)⟩
     |
      false=>
      exact .inl ⟨ah rfl,aH rfl false (hk.s 24) rfl⟩
    |
     false=>
     exact .inl ⟨ah rfl,aH rfl false (hk.s 24) rfl⟩
   |
    false=>
    exact .inl ⟨ah rfl,aH rfl false (hk.s 24) rfl⟩
  ·
   exact .inl ⟨ah rfl,aZ (.tmp 30) rfl (hk.s 30)⟩
  ·
   cases x1<;>cases x2<;>cases x3<;>cases x4<;>first |exact hk.no 31 true |skip
   exact .inl ⟨hk.yes 31 true,bM (.tmp 2) rfl (hk.o 2) (v:=(.pointer (some ⟨w.heap.size,34,none⟩))) (fun w=>AB) rfl⟩
  ·
   cases x1<;>cases x2<;>cases x3<;>cases x4<;>first |exact hk.no 31 true |skip
   exact .inl ⟨hk.yes 31 true,aX (.tmp 32) rfl (hk.s 32) (v:=(.agg #[.slice M.cfg.wa M.cfg.ws.length M.cfg.wc, .slice M.cfg.pa M.cfg.ps.length M.cfg.pc, .slice M.cfg.ca M.cfg.cs.length M.cfg.cc])) (fun q=>(HI.o.1.keep q.bel).EM) rfl⟩
  ·
   cases x1<;>cases x2<;>cases x3<;>cases x4<;>first |exact hk.no 31 true |skip
   exact .inl ⟨hk.yes 31 true,bM (.tmp 3) rfl (hk.o 3) (v:=(.pointer (some ⟨(w.heap.size+1),34,none⟩))) (fun w=>AB) rfl⟩
  ·
   cases x1<;>cases x2<;>cases x3<;>cases x4<;>first |exact hk.no 31 true |skip
   exact .inl ⟨hk.yes 31 true,aX (.tmp 34) rfl (hk.s 34) (v:=(.agg #[.slice N.cfg.wa N.cfg.ws.length N.cfg.wc, .slice N.cfg.pa N.cfg.ps.length N.cfg.pc, .slice N.cfg.ca N.cfg.cs.length N.cfg.cc])) (fun q=>(HI.o.2.keep q.bel).EM) rfl⟩
  ·
   cases x1<;>cases x2<;>cases x3<;>cases x4<;>first |exact hk.no 31 true |skip
   exact .inl ⟨hk.yes 31 true,gu rfl rfl #[(.agg #[.slice M.cfg.wa M.cfg.ws.length M.cfg.wc, .slice M.cfg.pa M.cfg.ps.length M.cfg.pc, .slice M.cfg.ca M.cfg.cs.length M.cfg.cc]),(.agg #[.slice N.cfg.wa N.cfg.ws.length N.cfg.wc, .slice N.cfg.pa N.cfg.ps.length N.cfg.pc, .slice N.cfg.ca N.cfg.cs.length N.cfg.cc])] (fun w=>AB) (by simp only[List.map_toArray,List.map_cons,List.map_nil,(show a.eval (.tmp 33)=(.agg #[.slice M.cfg.wa M.cfg.ws.length M.cfg.wc, .slice M.cfg.pa M.cfg.ps.length M.cfg.pc, .slice M.cfg.ca M.cfg.cs.length M.cfg.cc]) from hk.s 33),(show a.eval (.tmp 35)=(.agg #[.slice N.cfg.wa N.cfg.ws.length N.cfg.wc, .slice N.cfg.pa N.cfg.ps.length N.cfg.pc, .slice N.cfg.ca N.cfg.cs.length N.cfg.cc]) from hk.s 35)]) (v:=(.bool x5)) (fun q=>HC.o q) rfl⟩
  ·
   cases x1 with
   |
    true=>
    cases x2 with
    |
     true=>
     cases x3 with
     |
      true=>
      cases x4 with
      |
       true=>
       exact .inl ⟨ah rfl,aH rfl true (hk.s 31) (hk.s 36)⟩
      |
       false=>
       exact .inl ⟨ah rfl,aH rfl false (hk.s 31) rfl⟩
     |
      false=>
      exact .inl ⟨ah rfl,aH rfl false (hk.s 31) rfl⟩
    |
     false=>
     exact .inl ⟨ah rfl,aH rfl false (hk.s 31) rfl⟩
   |
    false=>
    exact .inl ⟨ah rfl,aH rfl false (hk.s 31) rfl⟩
  ·
   exact .inl ⟨ah rfl,jS (.tmp 37) rfl (hk.s 37)⟩
 intro a ⟨w3,hb3⟩ hsame hall
 have he:=bK hsame [5,6,7,8,9,10,11,12,13,14,15,16,17,18,19,20,21,22,23,24,25,26,27,28,29,30,31,32,33,34,35,36,37,4] AB
 simp only[List.foldl_cons,List.foldl_nil] at he
 rw[show a.eval (.tmp 4)=(.bool R) from(hall 4 AB).trans (congrArg Value.bool HR.o.symm)] at he
 generalize a.eval (.tmp 5)=x5 at he
 generalize a.eval (.tmp 6)=x6 at he
 generalize a.eval (.tmp 7)=x7 at he
 generalize a.eval (.tmp 8)=x8 at he
 generalize a.eval (.tmp 9)=x9 at he
 generalize a.eval (.tmp 10)=x10 at he
 generalize a.eval (.tmp 11)=x11 at he
 generalize a.eval (.tmp 12)=x12 at he
 generalize a.eval (.tmp 13)=x13 at he
 generalize a.eval (.tmp 14)=x14 at he
 generalize a.eval (.tmp 15)=x15 at he
 generalize a.eval (.tmp 16)=x16 at he
 generalize a.eval (.tmp 17)=x17 at he
 generalize a.eval (.tmp 18)=x18 at he
 generalize a.eval (.tmp 19)=x19 at he
 generalize a.eval (.tmp 20)=x20 at he
 generalize a.eval (.tmp 21)=x21 at he
 generalize a.eval (.tmp 22)=x22 at he
 generalize a.eval (.tmp 23)=x23 at he
 generalize a.eval (.tmp 24)=x24 at he
 generalize a.eval (.tmp 25)=x25 at he
 generalize a.eval (.tmp 26)=x26 at he
 generalize a.eval (.tmp 27)=x27 at he
 generalize a.eval (.tmp 28)=x28 at he
 generalize a.eval (.tmp 29)=x29 at he
 generalize a.eval (.tmp 30)=x30 at he
 generalize a.eval (.tmp 31)=x31 at he
 generalize a.eval (.tmp 32)=x32 at he
 generalize a.eval (.tmp 33)=x33 at he
 generalize a.eval (.tmp 34)=x34 at he
 generalize a.eval (.tmp 35)=x35 at he
 generalize a.eval (.tmp 36)=x36 at he
 generalize a.eval (.tmp 37)=x37 at he
 simp only[dQ] at he
 dsimp only[List.set_cons_zero,List.set_cons_succ] at he
 subst he
 clear hsame hall
 go_wp2_with fail
 go_ret
 exact⟨rfl,HB0.o.trans (hb3.mono HB0.o.size)⟩
def VA (B:Nat) (M N:aW) (S1 S2 T1 T2:Array Value) (x1 x2 x3 x4 x5:Bool):Nat→Value
 | 5=>(.pointer (some ⟨B,0,none⟩))
 | 6=>(.int .i64 M.ver.1)
 | 7=>(.pointer (some ⟨(B+1),0,none⟩))
 | 8=>(.int .i64 N.ver.1)
 | 9=>(.bool x1)
 | 10=>(.bool x1)
 | 11=>(bif x1 then (.pointer (some ⟨B,1,none⟩)) else undef)
 | 12=>(bif x1 then (.agg S1) else undef)
 | 13=>(bif x1 then (.pointer (some ⟨(B+1),1,none⟩)) else undef)
 | 14=>(bif x1 then (.agg S2) else undef)
 | 15=>(bif x1 then (.bool x2) else undef)
 | 16=>(.bool (x1 && x2))
 | 17=>(.bool (x1 && x2))
 | 18=>(bif (x1 && x2) then (.pointer (some ⟨B,33,none⟩)) else undef)
 | 19=>(bif (x1 && x2) then (.int .i64 M.trial.1) else undef)
 | 20=>(bif (x1 && x2) then (.pointer (some ⟨(B+1),33,none⟩)) else undef)
 | 21=>(bif (x1 && x2) then (.int .i64 N.trial.1) else undef)
 | 22=>(bif (x1 && x2) then (.bool x3) else undef)
 | 23=>(.bool ((x1 && x2) && x3))
 | 24=>(.bool ((x1 && x2) && x3))
 | 25=>(bif ((x1 && x2) && x3) then (.pointer (some ⟨B,37,none⟩)) else undef)
 | 26=>(bif ((x1 && x2) && x3) then (.agg T1) else undef)
 | 27=>(bif ((x1 && x2) && x3) then (.pointer (some ⟨(B+1),37,none⟩)) else undef)
 | 28=>(bif ((x1 && x2) && x3) then (.agg T2) else undef)
 | 29=>(bif ((x1 && x2) && x3) then (.bool x4) else undef)
 | 30=>(.bool (((x1 && x2) && x3) && x4))
 | 31=>(.bool (((x1 && x2) && x3) && x4))
 | 32=>(bif (((x1 && x2) && x3) && x4) then (.pointer (some ⟨B,34,none⟩)) else undef)
 | 33=>(bif (((x1 && x2) && x3) && x4) then (.agg #[.slice M.cfg.wa M.cfg.ws.length M.cfg.wc, .slice M.cfg.pa M.cfg.ps.length M.cfg.pc, .slice M.cfg.ca M.cfg.cs.length M.cfg.cc]) else undef)
 | 34=>(bif (((x1 && x2) && x3) && x4) then (.pointer (some ⟨(B+1),34,none⟩)) else undef)
 | 35=>(bif (((x1 && x2) && x3) && x4) then (.agg #[.slice N.cfg.wa N.cfg.ws.length N.cfg.wc, .slice N.cfg.pa N.cfg.ps.length N.cfg.pc, .slice N.cfg.ca N.cfg.cs.length N.cfg.cc]) else undef)
 | 36=>(bif (((x1 && x2) && x3) && x4) then (.bool x5) else undef)
 | 37=>(.bool ((((x1 && x2) && x3) && x4) && x5))
 | 4=>(.bool ((((x1 && x2) && x3) && x4) && x5))
 | _=>undef
def UE (B:Nat) (_ _:aW) (_ _ _ _:Array Value) (_ _ _ _ _:Bool):Nat→Value
 | 2=>(.pointer (some ⟨B,0,none⟩))
 | 3=>(.pointer (some ⟨(B+1),0,none⟩))
 | _=>undef
theorem nG (w:World) (M N:aW) (h:M.At w) (h':N.At w):Calls Tryz.prog 23 #[.agg (cM M), .agg (cM N)] w fun e w'=>e= .returned (.bool (decide (M.man=N.man)))∧Below w.heap.size w w':=by
 obtain⟨C,hC⟩:=AU (cM M)
 obtain⟨D,hD⟩:=AU (cM N)
 obtain⟨w0,hw0⟩:=AV ((w.alloc (.cells C 55)).alloc (.cells D 55))
 have B1:Below (w.alloc (.cells C 55)).heap.size (w.alloc (.cells C 55)) w0:=by rw[hw0];exact(Below.refl _ _).alloc (Nat.le_refl _) _
 have Ba:Below w.heap.size w (w.alloc (.cells C 55)):=(Below.refl _ w).alloc (Nat.le_refl _) _
 have B0:Below w.heap.size w w0:=Ba.trans (B1.mono AO)
 have HI:Hid (dR w0 w.heap.size M∧dR w0 (w.heap.size+1) N):=by
  refine⟨?_, ?_⟩
  ·rw[hC.o] at B1;exact(dR.new w h).keep B1
  ·have:=dR.new (w.alloc (.cells C 55)) (h'.stay Ba)
   rw[hw0,hD.o]
   simpa using this
 have HC:Hid (∀q:After w0,Calls Tryz.prog 68 #[.agg #[.slice M.cfg.wa M.cfg.ws.length M.cfg.wc, .slice M.cfg.pa M.cfg.ps.length M.cfg.pc, .slice M.cfg.ca M.cfg.cs.length M.cfg.cc], .agg #[.slice N.cfg.wa N.cfg.ws.length N.cfg.wc, .slice N.cfg.pa N.cfg.ps.length N.cfg.pc, .slice N.cfg.ca N.cfg.cs.length N.cfg.cc]] q.to fun e w'=>e= .returned (.bool (decide (M.cfg.cfg=N.cfg.cfg)))∧Below q.to.heap.size q.to w'):=fun q=>DC q.to M.cfg N.cfg ((h.stay B0).cfg.stay q.bel) ((h'.stay B0).cfg.stay q.bel)
 have HB0:=AQ B0
 obtain⟨x5,hx5⟩:=AU (decide (M.cfg.cfg=N.cfg.cfg))
 rw[←hx5.o] at HC
 obtain⟨x1,hx1⟩:=AU (decide (M.ver.1=N.ver.1))
 obtain⟨x2,hx2⟩:=AU (decide (M.prev=N.prev))
 obtain⟨x3,hx3⟩:=AU (decide (M.trial.1=N.trial.1))
 obtain⟨x4,hx4⟩:=AU (decide (M.tag=N.tag))
 obtain⟨R,hR⟩:=AU (decide (M.man=N.man))
 have HR:Hid (R=((((x1 && x2) && x3) && x4) && x5)):=by
  rw[Hid,hR.o,hx1.o,hx2.o,hx3.o,hx4.o,hx5.o,Bool.eq_iff_iff]
  simp only[Bool.and_eq_true,decide_eq_true_eq,aW.man,mO.mk.injEq]
  constructor
  ·rintro⟨e1,e2,e3,e4,e5⟩;exact⟨⟨⟨⟨by rw[e1],e2⟩,by rw[e3]⟩,e5⟩,e4⟩
  ·rintro⟨⟨⟨⟨e1,e2⟩,e3⟩,e5⟩,e4⟩;exact⟨Subtype.ext e1,e2,Subtype.ext e3,e4,e5⟩
 have HX1:Hid (((M.ver.1:Int)==N.ver.1)=x1):=by rw[Hid,hx1.o];rfl
 have HX3:Hid (((M.trial.1:Int)==N.trial.1)=x3):=by rw[Hid,hx3.o];rfl
 obtain⟨S1,hS1⟩:=AU ((M.prev.map vb).toArray)
 obtain⟨S2,hS2⟩:=AU ((N.prev.map vb).toArray)
 obtain⟨T1,hT1⟩:=AU ((M.tag.map vb).toArray)
 obtain⟨T2,hT2⟩:=AU ((N.tag.map vb).toArray)
 have HX2:Hid (∀w:World,(do eqGuard .eql 53 (.tmp 12) (.tmp 14) (.agg S1) (.agg S2);binOp .eql 53 (.agg S1) (.agg S2):Sem Value).run Tryz.prog w= .ok (.bool x2) w):=fun w=>by
  rw[hS1.o,hS2.o,hx2.o];exact jh xY.guard _ _ (jy xY _ _ HI.o.1.p32 HI.o.2.p32) w
 have HX4:Hid (∀w:World,(do eqGuard .eql 53 (.tmp 26) (.tmp 28) (.agg T1) (.agg T2);binOp .eql 53 (.agg T1) (.agg T2):Sem Value).run Tryz.prog w= .ok (.bool x4) w):=fun w=>by
  rw[hT1.o,hT2.o,hx4.o];exact jh xY.guard _ _ (jy xY _ _ HI.o.1.t32 HI.o.2.t32) w
 have L1:∀q:After w0,(Instr.loadAt 53 (.pointer (some ⟨w.heap.size,1,none⟩))).run Tryz.prog q.to= .ok (.agg S1) q.to:=fun q=>by rw[hS1.o];exact(HI.o.1.keep q.bel).prev
 have L2:∀q:After w0,(Instr.loadAt 53 (.pointer (some ⟨w.heap.size+1,1,none⟩))).run Tryz.prog q.to= .ok (.agg S2) q.to:=fun q=>by rw[hS2.o];exact(HI.o.2.keep q.bel).prev
 have L3:∀q:After w0,(Instr.loadAt 53 (.pointer (some ⟨w.heap.size,37,none⟩))).run Tryz.prog q.to= .ok (.agg T1) q.to:=fun q=>by rw[hT1.o];exact(HI.o.1.keep q.bel).tag
 have L4:∀q:After w0,(Instr.loadAt 53 (.pointer (some ⟨w.heap.size+1,37,none⟩))).run Tryz.prog q.to= .ok (.agg T2) q.to:=fun q=>by rw[hT2.o];exact(HI.o.2.keep q.bel).tag
 rw[←hC.o,←hD.o,←hR.o]
 clear h h' B0 B1 Ba
 go_enter Tryz.func23,Tryz.ntmps23
 go_upto_region 1 with fail
 rw[←hw0]
 clear hw0
 refine dY (VA w.heap.size M N S1 S2 T1 T2 x1 x2 x3 x4 x5) (UE w.heap.size M N S1 S2 T1 T2 x1 x2 x3 x4 x5) [2,3] AB ⟨rfl,rfl,trivial⟩ ?_ ?_
 ·repeat' (first |exact aO |refine aI ?_ ?_)
  all_goals intro a hk
  ·
   exact .inl ⟨ah rfl,bM (.tmp 2) rfl (hk.o 2) (v:=(.pointer (some ⟨w.heap.size,0,none⟩))) (fun w=>AB) rfl⟩
  ·
   exact .inl ⟨ah rfl,aX (.tmp 5) rfl (hk.s 5) (v:=(.int .i64 M.ver.1)) (fun q=>bH (fun w=>AB) (HI.o.1.keep q.bel).ver) rfl⟩
  ·
   exact .inl ⟨ah rfl,bM (.tmp 3) rfl (hk.o 3) (v:=(.pointer (some ⟨(w.heap.size+1),0,none⟩))) (fun w=>AB) rfl⟩
  ·
   exact .inl ⟨ah rfl,aX (.tmp 7) rfl (hk.s 7) (v:=(.int .i64 N.ver.1)) (fun q=>bH (fun w=>AB) (HI.o.2.keep q.bel).ver) rfl⟩
  ·
   exact .inl ⟨ah rfl,iq rfl (hk.s 6) (hk.s 8) (v:= .bool (((M.ver.1:Int)==N.ver.1))) (fun w=>AB) (congrArg Value.bool (HX1.o))⟩
  ·
   exact .inl ⟨ah rfl,aZ (.tmp 9) rfl (hk.s 9)⟩
  ·
   cases x1<;>first |exact hk.no 10 true |skip
   exact .inl ⟨hk.yes 10 true,bM (.tmp 2) rfl (hk.o 2) (v:=(.pointer (some ⟨w.heap.size,1,none⟩))) (fun w=>AB) rfl⟩
  ·
   cases x1<;>first |exact hk.no 10 true |skip
   exact .inl ⟨hk.yes 10 true,aX (.tmp 11) rfl (hk.s 11) (v:=(.agg S1)) (fun q=>L1 q) rfl⟩
  ·
   cases x1<;>first |exact hk.no 10 true |skip
   exact .inl ⟨hk.yes 10 true,bM (.tmp 3) rfl (hk.o 3) (v:=(.pointer (some ⟨(w.heap.size+1),1,none⟩))) (fun w=>AB) rfl⟩
  ·
   cases x1<;>first |exact hk.no 10 true |skip
   exact .inl ⟨hk.yes 10 true,aX (.tmp 13) rfl (hk.s 13) (v:=(.agg S2)) (fun q=>L2 q) rfl⟩
  ·
   cases x1<;>first |exact hk.no 10 true |skip
   exact .inl ⟨hk.yes 10 true,iq rfl (hk.s 12) (hk.s 14) (v:=(.bool x2)) (fun w=>HX2.o w) rfl⟩
  ·
   cases x1 with
   |
    true=>
    exact .inl ⟨ah rfl,aH rfl true (hk.s 10) (hk.s 15)⟩
   |
    false=>
    exact .inl ⟨ah rfl,aH rfl false (hk.s 10) rfl⟩
  ·
   exact .inl ⟨ah rfl,aZ (.tmp 16) rfl (hk.s 16)⟩
  ·
   cases x1<;>cases x2<;>first |exact hk.no 17 true |skip
   exact .inl ⟨hk.yes 17 true,bM (.tmp 2) rfl (hk.o 2) (v:=(.pointer (some ⟨w.heap.size,33,none⟩))) (fun w=>AB) rfl⟩
  ·
   cases x1<;>cases x2<;>first |exact hk.no 17 true |skip
   exact .inl ⟨hk.yes 17 true,aX (.tmp 18) rfl (hk.s 18) (v:=(.int .i64 M.trial.1)) (fun q=>bH (fun w=>AB) (HI.o.1.keep q.bel).trial) rfl⟩
  ·
   cases x1<;>cases x2<;>first |exact hk.no 17 true |skip
   exact .inl ⟨hk.yes 17 true,bM (.tmp 3) rfl (hk.o 3) (v:=(.pointer (some ⟨(w.heap.size+1),33,none⟩))) (fun w=>AB) rfl⟩
  ·
   cases x1<;>cases x2<;>first |exact hk.no 17 true |skip
   exact .inl ⟨hk.yes 17 true,aX (.tmp 20) rfl (hk.s 20) (v:=(.int .i64 N.trial.1)) (fun q=>bH (fun w=>AB) (HI.o.2.keep q.bel).trial) rfl⟩
  ·
   cases x1<;>cases x2<;>first |exact hk.no 17 true |skip
   exact .inl ⟨hk.yes 17 true,iq rfl (hk.s 19) (hk.s 21) (v:= .bool (((M.trial.1:Int)==N.trial.1))) (fun w=>AB) (congrArg Value.bool (HX3.o))⟩
  ·
   cases x1 with
   |
    true=>
    cases x2 with
    |
     true=>
     exact .inl ⟨ah rfl,aH rfl true (hk.s 17) (hk.s 22)⟩
    |
     false=>
     exact .inl ⟨ah rfl,aH rfl false (hk.s 17) rfl⟩
   |
    false=>
    exact .inl ⟨ah rfl,aH rfl false (hk.s 17) rfl⟩
  ·
   exact .inl ⟨ah rfl,aZ (.tmp 23) rfl (hk.s 23)⟩
  ·
   cases x1<;>cases x2<;>cases x3<;>first |exact hk.no 24 true |skip
   exact .inl ⟨hk.yes 24 true,bM (.tmp 2) rfl (hk.o 2) (v:=(.pointer (some ⟨w.heap.size,37,none⟩))) (fun w=>AB) rfl⟩
  ·
   cases x1<;>cases x2<;>cases x3<;>first |exact hk.no 24 true |skip
   exact .inl ⟨hk.yes 24 true,aX (.tmp 25) rfl (hk.s 25) (v:=(.agg T1)) (fun q=>L3 q) rfl⟩
  ·
   cases x1<;>cases x2<;>cases x3<;>first |exact hk.no 24 true |skip
   exact .inl ⟨hk.yes 24 true,bM (.tmp 3) rfl (hk.o 3) (v:=(.pointer (some ⟨(w.heap.size+1),37,none⟩))) (fun w=>AB) rfl⟩
  ·
   cases x1<;>cases x2<;>cases x3<;>first |exact hk.no 24 true |skip
   exact .inl ⟨hk.yes 24 true,aX (.tmp 27) rfl (hk.s 27) (v:=(.agg T2)) (fun q=>L4 q) rfl⟩
  ·
   cases x1<;>cases x2<;>cases x3<;>first |exact hk.no 24 true |skip
   exact .inl ⟨hk.yes 24 true,iq rfl (hk.s 26) (hk.s 28) (v:=(.bool x4)) (fun w=>HX4.o w) rfl⟩
  ·
   cases x1 with
   |
    true=>
    cases x2 with
    |
     true=>
     cases x3 with
     |
      true=>
      exact .inl ⟨ah rfl,aH rfl true (hk.s 24) (hk.s 29)⟩
     |
      false=>
      exact .inl ⟨ah rfl,aH rfl false (hk.s 24) rfl⟩
    |
     false=>
     exact .inl ⟨ah rfl,aH rfl false (hk.s 24) rfl⟩
   |
    false=>
    exact .inl ⟨ah rfl,aH rfl false (hk.s 24) rfl⟩
  ·
   exact .inl ⟨ah rfl,aZ (.tmp 30) rfl (hk.s 30)⟩
  ·
   cases x1<;>cases x2<;>cases x3<;>cases x4<;>first |exact hk.no 31 true |skip
   exact .inl ⟨hk.yes 31 true,bM (.tmp 2) rfl (hk.o 2) (v:=(.pointer (some ⟨w.heap.size,34,none⟩))) (fun w=>AB) rfl⟩
  ·
   cases x1<;>cases x2<;>cases x3<;>cases x4<;>first |exact hk.no 31 true |skip
   exact .inl ⟨hk.yes 31 true,aX (.tmp 32) rfl (hk.s 32) (v:=(.agg #[.slice M.cfg.wa M.cfg.ws.length M.cfg.wc, .slice M.cfg.pa M.cfg.ps.length M.cfg.pc, .slice M.cfg.ca M.cfg.cs.length M.cfg.cc])) (fun q=>(HI.o.1.keep q.bel).EM) rfl⟩
  ·
   cases x1<;>cases x2<;>cases x3<;>cases x4<;>first |exact hk.no 31 true |skip
   exact .inl ⟨hk.yes 31 true,bM (.tmp 3) rfl (hk.o 3) (v:=(.pointer (some ⟨(w.heap.size+1),34,none⟩))) (fun w=>AB) rfl⟩
  ·
   cases x1<;>cases x2<;>cases x3<;>cases x4<;>first |exact hk.no 31 true |skip
   exact .inl ⟨hk.yes 31 true,aX (.tmp 34) rfl (hk.s 34) (v:=(.agg #[.slice N.cfg.wa N.cfg.ws.length N.cfg.wc, .slice N.cfg.pa N.cfg.ps.length N.cfg.pc, .slice N.cfg.ca N.cfg.cs.length N.cfg.cc])) (fun q=>(HI.o.2.keep q.bel).EM) rfl⟩
  ·
   cases x1<;>cases x2<;>cases x3<;>cases x4<;>first |exact hk.no 31 true |skip
   exact .inl ⟨hk.yes 31 true,gu rfl rfl #[(.agg #[.slice M.cfg.wa M.cfg.ws.length M.cfg.wc, .slice M.cfg.pa M.cfg.ps.length M.cfg.pc, .slice M.cfg.ca M.cfg.cs.length M.cfg.cc]),(.agg #[.slice N.cfg.wa N.cfg.ws.length N.cfg.wc, .slice N.cfg.pa N.cfg.ps.length N.cfg.pc, .slice N.cfg.ca N.cfg.cs.length N.cfg.cc])] (fun w=>AB) (by simp only[List.map_toArray,List.map_cons,List.map_nil,(show a.eval (.tmp 33)=(.agg #[.slice M.cfg.wa M.cfg.ws.length M.cfg.wc, .slice M.cfg.pa M.cfg.ps.length M.cfg.pc, .slice M.cfg.ca M.cfg.cs.length M.cfg.cc]) from hk.s 33),(show a.eval (.tmp 35)=(.agg #[.slice N.cfg.wa N.cfg.ws.length N.cfg.wc, .slice N.cfg.pa N.cfg.ps.length N.cfg.pc, .slice N.cfg.ca N.cfg.cs.length N.cfg.cc]) from hk.s 35)]) (v:=(.bool x5)) (fun q=>HC.o q) rfl⟩
  ·
   cases x1 with
   |
    true=>
    cases x2 with
    |
     true=>
     cases x3 with
     |
      true=>
      cases x4 with
      |
       true=>
       exact .inl ⟨ah rfl,aH rfl true (hk.s 31) (hk.s 36)⟩
      |
       false=>
       exact .inl ⟨ah rfl,aH rfl false (hk.s 31) rfl⟩
     |
      false=>
      exact .inl ⟨ah rfl,aH rfl false (hk.s 31) rfl⟩
    |
     false=>
     exact .inl ⟨ah rfl,aH rfl false (hk.s 31) rfl⟩
   |
    false=>
    exact .inl ⟨ah rfl,aH rfl false (hk.s 31) rfl⟩
  ·
   exact .inl ⟨ah rfl,jS (.tmp 37) rfl (hk.s 37)⟩
 intro a ⟨w3,hb3⟩ hsame hall
 have he:=bK hsame [5,6,7,8,9,10,11,12,13,14,15,16,17,18,19,20,21,22,23,24,25,26,27,28,29,30,31,32,33,34,35,36,37,4] AB
 simp only[List.foldl_cons,List.foldl_nil] at he
 rw[show a.eval (.tmp 4)=(.bool R) from(hall 4 AB).trans (congrArg Value.bool HR.o.symm)] at he
 generalize a.eval (.tmp 5)=x5 at he
 generalize a.eval (.tmp 6)=x6 at he
 generalize a.eval (.tmp 7)=x7 at he
 generalize a.eval (.tmp 8)=x8 at he
 generalize a.eval (.tmp 9)=x9 at he
 generalize a.eval (.tmp 10)=x10 at he
 generalize a.eval (.tmp 11)=x11 at he
 generalize a.eval (.tmp 12)=x12 at he
 generalize a.eval (.tmp 13)=x13 at he
 generalize a.eval (.tmp 14)=x14 at he
 generalize a.eval (.tmp 15)=x15 at he
 generalize a.eval (.tmp 16)=x16 at he
 generalize a.eval (.tmp 17)=x17 at he
 generalize a.eval (.tmp 18)=x18 at he
 generalize a.eval (.tmp 19)=x19 at he
 generalize a.eval (.tmp 20)=x20 at he
 generalize a.eval (.tmp 21)=x21 at he
 generalize a.eval (.tmp 22)=x22 at he
 generalize a.eval (.tmp 23)=x23 at he
 generalize a.eval (.tmp 24)=x24 at he
 generalize a.eval (.tmp 25)=x25 at he
 generalize a.eval (.tmp 26)=x26 at he
 generalize a.eval (.tmp 27)=x27 at he
 generalize a.eval (.tmp 28)=x28 at he
 generalize a.eval (.tmp 29)=x29 at he
 generalize a.eval (.tmp 30)=x30 at he
 generalize a.eval (.tmp 31)=x31 at he
 generalize a.eval (.tmp 32)=x32 at he
 generalize a.eval (.tmp 33)=x33 at he
 generalize a.eval (.tmp 34)=x34 at he
 generalize a.eval (.tmp 35)=x35 at he
 generalize a.eval (.tmp 36)=x36 at he
 generalize a.eval (.tmp 37)=x37 at he
 simp only[dQ] at he
 dsimp only[List.set_cons_zero,List.set_cons_succ] at he
 subst he
 clear hsame hall
 go_wp2_with fail
 go_ret
 exact⟨rfl,HB0.o.trans (hb3.mono HB0.o.size)⟩
end Go.Proofs.YtlholdllibghbaaGreat
namespace Go.Cit
open Go Go.RowKit
section
variable {P:Program} {Q:Exit→Act→World→Prop}
def zI (ops:Array Oper) (c:Nat):Bool:=(List.range ops.size).all fun i=>decide (i<c) || (List.range i).all fun j=>iL ops ops.size i j
theorem mg {ops:Array Oper} {c:Nat} (h:zI ops c=true) {i j:Nat} (hi:i<ops.size) (hc:c≤i) (hj:j<i):iL ops ops.size i j=true:=by
 have h1:=List.all_eq_true.1 h i (List.mem_range.2 hi)
 simp only[Bool.or_eq_true,decide_eq_true_eq] at h1
 rcases h1 with h1 |h1
 ·omega
 ·exact List.all_eq_true.1 h1 j (List.mem_range.2 hj)
theorem tK {ops:Array Oper} {m:Nat} (hs:iM ops m=true):∀(listed:Array Bool),listed.size=ops.size→Region.ready .any ops listed=[]→∀i,i<ops.size→listed.getD i false=true:=by
 intro listed hsz hr i
 induction i using Nat.strongRecOn with
 |
  ind i ih=>
  intro hi
  cases hl:listed.getD i true with
  |
   true=>
   have hi':i<listed.size:=by omega
   simpa[Array.getD,hi'] using hl
  |
   false=>
   exfalso
   have hm:i∈Region.ready .any ops listed:=by
    rw[mem_ready]
    refine⟨hl,ops[i],by simp[hi],fun e he hb=> ?_⟩
    have:=(aU hs (i:=i) (o:=ops[i]) (by simp[hi])).1 e he hb
    exact ih e.on this AL
   rw[hr] at hm
   simp at hm
theorem OD {l:List Oper} {m c:Nat} (hs:iM l.toArray m=true) (hl:zI l.toArray c=true):∀(fuel:Nat) (listed:Array Bool) (i:Nat) (a:Act) (w:World),qH listed l.toArray.size≤fuel→listed.size=l.toArray.size→
 (∀j,j<l.length→(listed.getD j false=true↔j<i))→c≤i→wpList P l.toArray Q (l.drop i) a w→wpAny P .any l.toArray Q fuel listed a w:=by
 have hfin:∀(listed:Array Bool) (i:Nat) (a:Act) (w:World),(∀j,j<l.length→(listed.getD j false=true↔j<i))→(∀j,j<l.toArray.size→listed.getD j false=true)→wpList P l.toArray Q (l.drop i) a w→Q .normal a w:=by
  intro listed i a w hd hall hw
  have:l.drop i=[]:=List.drop_eq_nil_of_le (by
   rcases Nat.lt_or_ge i l.length with h |h
   ·have:=(hd i h).1 (hall i (by simpa using h));omega
   ·exact h)
  rw[this] at hw
  exact hw
 intro fuel
 induction fuel with
 |
  zero=>
  intro listed i a w hf hsz hd hci hw
  have hall:=kZ (Nat.le_zero.1 hf)
  have hr:Region.ready .any l.toArray listed=[]:=by
   apply List.eq_nil_iff_forall_not_mem.2
   intro j hj
   rw[mem_ready] at hj
   obtain⟨h0,o,ho,_⟩:=hj
   rw[hall j (Array.getElem?_eq_some_iff.1 ho).1] at h0
   simp at h0
  exact⟨hr,hfin listed i a w hd (tK hs listed hsz hr) hw⟩
 |
  succ fuel ih=>
  intro listed i a w hf hsz hd hci hw
  refine⟨fun hr=>hfin listed i a w hd (tK hs listed hsz hr) hw,fun k hk=> ?_⟩
  obtain⟨h0,o,ho,hdep⟩:=mem_ready.1 hk
  have hlt:k<l.toArray.size:=(Array.getElem?_eq_some_iff.1 ho).1
  have hltl:k<l.length:=by simpa using hlt
  have hk0:listed.getD k false=false:=by
   have hi':k<listed.size:=by omega
   simpa[Array.getD,hi'] using h0
  have hki:k=i:=by
   have h1:¬k<i:=fun h=>by rw[(hd k hltl).2 h] at hk0;exact absurd hk0 AP
   rcases Nat.lt_or_ge i k with h |h
   ·have hcl':Closed l.toArray (upd (fun j=>listed.getD j false) k):=by
     intro j p hp hj e he hb
     by_cases hij:k=j
     ·subst hij
      obtain rfl:o=p:=by rw[ho] at hp;exact Option.some.inj hp
      unfold upd
      split
      ·rfl
      ·exact hdep e he hb
     ·rw[au _ hij] at hj
      have hjl:j<l.length:=by have:=(Array.getElem?_eq_some_iff.1 hp).1;simpa using this
      have h2:=(hd j hjl).1 hj
      have h3:=(aU hs hp).1 e he hb
      unfold upd
      split
      ·rfl
      ·exact(hd _ AL).2 AL
    have:=hcl'.needs l.toArray.size k i (mg hl hlt AL h) (upd_same _ _)
    rw[au _ AL] at this
    have:=(hd i AL).1 this
    omega
   ·omega
  subst hki
  have hdr:l.drop k=o::l.drop (k+1):=by
   rw[List.drop_eq_getElem_cons hltl];congr 1
   have:l[k]? =some o:=by simpa using ho
   exact(List.getElem?_eq_some_iff.1 this).2
  rw[hdr] at hw
  have hw':wpOp P l.toArray Q k (wpList P l.toArray Q (l.drop (k+1))) a w:=by
   unfold wpOp
   rw[ho]
   exact hw
  refine wpOp_mono (fun a' w' h=>ih _ (k+1) a' w' ?_ (by simpa using hsz) (fun j hj=> ?_) AL h) hw'
  ·have:=ni (n:=l.toArray.size) hlt AL h0
   omega
  ·by_cases hij:k=j
   ·subst hij
    have hi':k<listed.size:=by omega
    simp[hi']
   ·rw[getD_set_ne false hij,hd j hj];omega
theorem qC {id:Nat} {a0:Act} {w:World} {l:List Oper} (c:Nat) (T:Nat→Value→World→Prop)
 (hm:P.follows .mixedOrders=true) (hs:iM l.toArray a0.tmps.size=true) (hc0:decide (c<l.length)=true) (hl:zI l.toArray c=true)
 (hT:∀d v w1 w2,Below w1.heap.size w1 w2→T d v w1→T d v w2)
 (hop:bZ (fun _ o=>∀a wx,mY l.toArray T a0 w o a wx→(Wanted l.toArray o a∧bW P (fun v w'=>Below wx.heap.size wx w'∧tyP T o v w') ((execOp a.eval o).run P wx))∨(Region.wanted o (yielded l.toArray a.tmps)=false∧tyP T o undef wx)) (l.take c) 0)
 (htail:∀a wx,Below w.heap.size w wx→dF (l.take c).toArray a0 a→(∀d,iU (l.take c).toArray d=false→T d (a.eval (.tmp d)) wx)→wpList P l.toArray Q (l.drop c) a wx):
 (Code.region id l.toArray true).wp P Q a0 w:=by
 have hcl0:c<l.length:=of_decide_eq_true hc0
 refine wp_region_any hm ?_
 have key:∀(fuel:Nat) (listed:Array Bool) (δ:Nat→Bool) (a:Act) (wx:World),qH listed l.toArray.size≤fuel→listed.size=l.toArray.size→(∀i,δ i=listed.getD i false)→Closed l.toArray δ→δ c=false→Below w.heap.size w wx→
  (∀i o d,i<c→l.toArray[i]? =some o→δ i=true→o.dst=some d→T d (a.eval (.tmp d)) wx)→dF (l.take c).toArray a0 a→wpAny P .any l.toArray Q fuel listed a wx:=by
  intro fuel
  induction fuel with
  |
   zero=>
   intro listed δ a wx hf hsz hδ hcl hδc hb hfa hsm
   have hall:=kZ (Nat.le_zero.1 hf)
   have:=hall c (by simpa using hcl0)
   rw[hδ] at hδc
   have hi':c<listed.size:=by rw[hsz];simpa using hcl0
   simp[Array.getD,hi'] at hδc this
   rw[this] at hδc;exact absurd hδc AP
  |
   succ fuel ih=>
   intro listed δ a wx hf hsz hδ hcl hδc hb hfa hsm
   refine⟨fun hr=> ?_,fun i hi=> ?_⟩
   ·have:=tK hs listed hsz hr c (by simpa using hcl0)
    rw[←hδ,hδc] at this;exact absurd this AP
   obtain⟨h0,o,ho,hdep⟩:=mem_ready.1 hi
   have hlt:i<l.toArray.size:=(Array.getElem?_eq_some_iff.1 ho).1
   have hltl:i<l.length:=by simpa using hlt
   have hoL:l[i]? =some o:=by simpa using ho
   have hδi:δ i=false:=by
    rw[hδ]
    have hi':i<listed.size:=by omega
    simpa[Array.getD,hi'] using h0
   have hcl':Closed l.toArray (upd δ i):=by
    intro j p hp hj e he hb
    by_cases hij:i=j
    ·subst hij
     obtain rfl:o=p:=by rw[ho] at hp;exact Option.some.inj hp
     unfold upd
     split
     ·rfl
     ·rw[hδ];exact hdep e he hb
    ·rw[au _ hij] at hj
     have:=hcl j p hp hj e he hb
     unfold upd
     split
     ·rfl
     ·exact this
   have hic:i≤c:=by
    rcases Nat.lt_or_ge c i with h |h
    ·have:=hcl'.needs l.toArray.size i c (mg hl hlt AL h) (upd_same _ _)
     rw[au _ AL,hδc] at this
     exact absurd this AP
    ·exact h
   by_cases hec:i=c
   ·subst hec
    have hlo:∀j,j<i→δ j=true:=fun j hj=>by
     have:=hcl'.needs l.toArray.size i j (mg hl hlt AL hj) (upd_same _ _)
     rwa[au _ AL] at this
    have hd:∀j,j<l.length→(listed.getD j false=true↔j<i):=fun j hj=>by
     rw[←hδ]
     rcases Nat.lt_trichotomy j i with h |h |h
     ·exact⟨fun _=>h,fun _=>hlo j h⟩
     ·subst h;rw[hδc];exact⟨fun h=>absurd h AP,fun h=>absurd h AL⟩
     ·refine⟨fun hjt=> ?_,fun h2=>by omega⟩
      have:=hcl.needs l.toArray.size j i (mg hl (by simpa using hj) AL h) hjt
      rw[hδi] at this;exact absurd this AP
    refine(OD hs hl (fuel+1) listed i a wx hf hsz hd (Nat.le_refl _) (htail a wx hb hsm fun d hdd=> ?_)).2 i hi
    unfold iU at hdd
    rw[Array.all_eq_false] at hdd
    obtain⟨j,hj,hp⟩:=hdd
    have hj':j<i:=by simp at hj;omega
    have hjl:j<l.length:=by omega
    have e1:(l.take i).toArray[j]=l[j]:=by simp
    have hpd:l[j].dst=some d:=by rw[←e1];simpa using hp
    exact hfa j l[j] d hj' (by simp[hjl]) (hlo j hj') hpd
   ·have hic:i<c:=by omega
    have hwait:∀d,iy l.toArray o d=true→T d (a.eval (.tmp d)) wx:=by
     intro d hd
     unfold iy at hd
     rw[Array.any_eq_true] at hd
     obtain⟨k,hkk,he⟩:=hd
     rw[Bool.and_eq_true] at he
     obtain⟨hb,hp⟩:=he
     split at hp
     ·rename_i p hpp
      simp only[decide_eq_true_eq] at hp
      have h2:=(aU hs ho).1 _ (Array.getElem_mem hkk) hb
      exact hfa _ p d AL hpp (by rw[hδ];exact hdep _ (Array.getElem_mem hkk) hb) hp
     ·exact absurd hp AP
    have hold:∀d,iU l.toArray d=true→a.eval (.tmp d)=a0.eval (.tmp d):=by
     intro d hd
     refine hsm.2.2 d fun j p hp hpd=> ?_
     unfold iU at hd
     rw[Array.all_eq_true] at hd
     have hjl:l[j]? =some p:=by
      rw[List.getElem?_toArray,List.getElem?_take] at hp
      split at hp
      ·exact hp
      ·exact absurd hp AO
     obtain⟨hj,hjp⟩:=List.getElem?_eq_some_iff.1 hjl
     have:=hd j (by simpa using hj)
     simp[hjp,hpd] at this
    have h:=bZ.get _ _ hop i o (by rw[List.getElem?_take];simpa[hic] using hoL) a wx ⟨hb,hwait,hold,fun _=>rfl,fun _=>rfl⟩
    have hgo:∀v w',Below wx.heap.size wx w'→tyP T o v w'→wpAny P .any l.toArray Q fuel (listed.setIfInBounds i true) (a.put o.dst v) w':=by
     intro v w' hb2 hv
     refine ih _ (upd δ i) _ _ ?_ (by simpa using hsz) ?_ hcl' (by rw[au _ hec];exact hδc) (hb.trans (hb2.mono hb.size)) (fun j p d hjc hp hj hpd=> ?_) ?_
     ·have:=ni (n:=l.toArray.size) hlt AL h0
      omega
     ·intro j
      by_cases hij:i=j
      ·subst hij
       rw[upd_same]
       have hi':i<listed.size:=by omega
       simp[hi']
      ·rw[au _ hij,getD_set_ne false hij];exact hδ j
     ·by_cases e:i=j
      ·subst e
       rw[ho] at hp
       obtain rfl:o=p:=Option.some.inj hp
       rw[eu hpd] at hv
       rw[hpd]
       rw[show(a.put (some d) v).eval (.tmp d)=v from bV _ _ _ (by rw[hsm.2.1];exact(aU hs ho).2.1 d hpd)]
       exact hv
      ·rw[au _ e] at hj
       have hne:o.dst≠some d:=by
        rcases Nat.lt_or_gt_of_ne e with h |h
        ·intro e;exact(aU hs hp).2.2 i o d ho h hpd e
        ·intro e;exact(aU hs ho).2.2 j p d hp h e hpd
       rw[show(a.put o.dst v).eval (.tmp d)=a.eval (.tmp d) from bn _ _ _ _ hne]
       exact hT _ _ _ _ hb2 (hfa j p d hjc hp hj hpd)
     ·refine⟨by rw[put_defers];exact hsm.1,by rw[iC];exact hsm.2.1,fun d hd=> ?_⟩
      rw[bn _ _ _ _ (hd i o (by rw[List.getElem?_toArray,List.getElem?_take];simpa[hic] using hoL))]
      exact hsm.2.2 d hd
    unfold wpOp
    rw[ho]
    dsimp only
    rcases h with⟨hw,h2⟩ |⟨hw,h2⟩
    ·rw[if_pos (show Region.wanted o (yielded l.toArray a.tmps)=true from hw)]
     refine Or.inl ?_
     unfold Oper.wp
     generalize (execOp a.eval o).run P wx=r at h2
     match r,h2 with
     | .ok (.value v) w',h2=>exact hgo v w' h2.1 h2.2
     | .ok .skip w',h2=>exact hgo undef w' h2.1 h2.2
     |
      .ok (.enter f args) w',h2=>
      refine Calls.mono h2 ?_
      rintro e w'' ⟨v,rfl,hb,hv⟩
      exact hgo v w'' hb hv
    ·rw[if_neg (by rw[hw];decide)]
     exact hgo undef wx (Below.refl _ _) h2
 exact key _ _ (fun _=>false) _ _ (Nat.le_trans (List.length_filter_le _ _) AO) AO (fun i=>by simp[Array.getD]) (fun i o _ hi=>absurd hi Bool.false_ne_true) rfl ⟨rfl,rfl,rfl,Nat.le_refl _,fun _ _=>rfl⟩ (fun i o d _ _ h=>absurd h Bool.false_ne_true) ⟨rfl,rfl,fun _ _=>rfl⟩
end
end Go.Cit
namespace Go.Proofs.YtlholdllibghbaaGreat
end Go.Proofs.YtlholdllibghbaaGreat
