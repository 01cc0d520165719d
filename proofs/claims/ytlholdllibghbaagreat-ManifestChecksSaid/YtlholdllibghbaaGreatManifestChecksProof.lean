/- Whether an update may be committed is as the law says This text joins the law's walk to the given row. -/
import Derived.Test.YtlholdllibghbaaGreatRows
import Derived.Test.YtlholdllibghbaaGreatLawManChecks
import Derived.Test.YtlholdllibghbaaGreatG02
import Derived.WalkKit
import Derived.ProofKit
import Derived.OpenShut
import Derived.ShutString
import Derived.ChangeOld
import Derived.Below
import Derived.SizedLaws
import Derived.Test.YtlholdllibghbaaGreatKit
set_option maxRecDepth 100000
set_option maxHeartbeats 8000000
namespace Go.Proofs.YtlholdllibghbaaGreat.manifestChecks
open Go.ChangeShapes Go.WideShapes Go.ChangeAt Go.RowKit
open Go.ChangeMaps (open_string shut_string)
open Go.Cit
set_option linter.unusedVariables false
theorem own:ownKnob Tryz.prog.godebug=none:=by kernel_rfl
theorem laidOut:laidOutB Tryz.prog=true:=by kernel_rfl
theorem lifted (os:Os) (started:os.Started) (H:Type) (enc:TypeId×Value→H):
 ReturnsInHanded {} Tryz.checked os 5 .any (Rows.manifestChecksSpec.pre6 enc Tryz.prog Tryz.f5 Rows.manifestChecksRow.domain false) (Rows.manifestChecksSpec.post enc Tryz.prog Tryz.f5 false true false false):=by
 refine returnsInHanded_of_change_sized (C:=Tryz.checked) own started AB Tryz.func5
  (ChangeSpec.witness6 (enc:=enc) (C:=Tryz.checked) false ⟨#[], #[.slice none 0 0, .agg (cM zM), .agg (cM zM), .slice none 0 0, .bool false, .bool false, .bool false],[]⟩ 8 AB AB AB AB) ?_
 intro W base args ds gs before hval0 hW hcnd hsz0 _
 have hval:∀(j:Nat) t v,Tryz.f5.params[j]? =some t→args[j]? =some v→Value.okWide Tryz.prog W .any base t v:=hval0
 have hW':=hW
 obtain⟨p,q,hA0,hV,rfl,hfz,hnd⟩:=hW
 have hA:DataW.TrodAll enc Tryz.prog W 0 (fun _=>true) true Tryz.f5.params.toList args.toList ds p:=hA0
 have hsz:(DataW.weightsEach Tryz.prog (Tryz.f5.params.toList++Rows.manifestChecksSpec.plain.varTypes Tryz.prog) (ds++gs)).all (· ≤reachBytes)=true:=hsz0
 rw[Tryz.params5] at hA hval hsz
 obtain⟨v0,vs0,d0,ds0,p0,q0,hargs,rfl,rfl,h0,r0⟩:=trodAll_cons hA
 obtain⟨v1,vs1,d1,ds1,p1,q1,rfl,rfl,rfl,h1,r1⟩:=trodAll_cons r0
 obtain⟨v2,vs2,d2,ds2,p2,q2,rfl,rfl,rfl,h2,r2⟩:=trodAll_cons r1
 obtain⟨v3,vs3,d3,ds3,p3,q3,rfl,rfl,rfl,h3,r3⟩:=trodAll_cons r2
 obtain⟨v4,vs4,d4,ds4,p4,q4,rfl,rfl,rfl,h4,r4⟩:=trodAll_cons r3
 obtain⟨v5,vs5,d5,ds5,p5,q5,rfl,rfl,rfl,h5,r5⟩:=trodAll_cons r4
 obtain⟨v6,vs6,d6,ds6,p6,q6,rfl,rfl,rfl,h6,r6⟩:=trodAll_cons r5
 obtain⟨rfl,rfl,rfl⟩:=trodAll_nil r6
 obtain rfl:args= #[v0,v1,v2,v3,v4,v5,v6]:=by cases args;simp_all
 obtain⟨rfl,rfl⟩:=trodVars_none hV
 have k0:=h0
 have lt0:∀x∈p0,x.block<W.heap.size:=by obtain⟨m,hm⟩:=k0;exact DataW.trod_lt m _ _ _ hm
 obtain⟨⟨A0,C0,L0⟩,rfl,OK0⟩:=oZ .bytes AB (hval 0 40 v0 rfl rfl) h0 (qV hsz (j:=0) rfl rfl)
 have k1:=h1
 have lt1:∀x∈p1,x.block<W.heap.size:=by obtain⟨m,hm⟩:=k1;exact DataW.trod_lt m _ _ _ hm
 obtain⟨D1,rfl,OK1⟩:=oZ (vT) AB (hval 1 55 v1 rfl rfl) h1 (qV hsz (j:=1) rfl rfl)
 have k2:=h2
 have lt2:∀x∈p2,x.block<W.heap.size:=by obtain⟨m,hm⟩:=k2;exact DataW.trod_lt m _ _ _ hm
 obtain⟨D2,rfl,OK2⟩:=oZ (vT) AB (hval 2 55 v2 rfl rfl) h2 (qV hsz (j:=2) rfl rfl)
 have k3:=h3
 have lt3:∀x∈p3,x.block<W.heap.size:=by obtain⟨m,hm⟩:=k3;exact DataW.trod_lt m _ _ _ hm
 obtain⟨⟨A3,C3,L3⟩,rfl,OK3⟩:=oZ .bytes AB (hval 3 40 v3 rfl rfl) h3 (qV hsz (j:=3) rfl rfl)
 have k4:=h4
 have lt4:∀x∈p4,x.block<W.heap.size:=by obtain⟨m,hm⟩:=k4;exact DataW.trod_lt m _ _ _ hm
 obtain⟨E4,rfl,OK4⟩:=oZ .bool AB (hval 4 4 v4 rfl rfl) h4 (qV hsz (j:=4) rfl rfl)
 have k5:=h5
 have lt5:∀x∈p5,x.block<W.heap.size:=by obtain⟨m,hm⟩:=k5;exact DataW.trod_lt m _ _ _ hm
 obtain⟨E5,rfl,OK5⟩:=oZ .bool AB (hval 5 4 v5 rfl rfl) h5 (qV hsz (j:=5) rfl rfl)
 have k6:=h6
 have lt6:∀x∈p6,x.block<W.heap.size:=by obtain⟨m,hm⟩:=k6;exact DataW.trod_lt m _ _ _ hm
 obtain⟨E6,rfl,OK6⟩:=oZ .bool AB (hval 6 4 v6 rfl rfl) h6 (qV hsz (j:=6) rfl rfl)
 clear hA0 hval0
 have walk:=wU W A0 L0 C0 (JC D1) (JC D2) A3 L3 C3 E4 E5 E6 OK0.1 (J3 OK1) (EO OK1) (J3 OK2) (EO OK2) OK3.1
 (try unfold cM at walk);rw[←JI OK1] at walk
 (try unfold cM at walk);rw[←JI OK2] at walk
 refine Calls.mono (show Calls Tryz.prog 5 _ W _ from walk) fun e W' ⟨he,bel⟩=> ?_
 subst he
 exact⟨_,rfl,_,_,_,[],_,[],hW',trodAll_mk1 (shut_bool Tryz.underlying4 _),(trodAll_cons_mk (Below.trod laidOut AB (of_decide_eq_true AB) k0 bel lt0) (trodAll_cons_mk (Below.trod laidOut AB (of_decide_eq_true AB) k1 bel lt1) (trodAll_cons_mk (Below.trod laidOut AB (of_decide_eq_true AB) k2 bel lt2) (trodAll_cons_mk (Below.trod laidOut AB (of_decide_eq_true AB) k3 bel lt3) (trodAll_cons_mk (Below.trod laidOut AB (of_decide_eq_true AB) k4 bel lt4) (trodAll_cons_mk (Below.trod laidOut AB (of_decide_eq_true AB) k5 bel lt5) (trodAll_cons_mk (Below.trod laidOut AB (of_decide_eq_true AB) k6 bel lt6) trodAll_mk0))))))),rfl,bel.frame _,fun h=>by cases h⟩
theorem over:Rows.manifestChecksRow.holds Tryz.pinned (OpenSpec.ofChange Rows.manifestChecksSpec):=
 OpenClaim.holds_of_wide 5 Tryz.f5 rfl rfl rfl rfl rfl rfl rfl ⟨rfl,rfl,rfl,rfl,rfl⟩ rfl rfl rfl rfl rfl AB Tryz.func5 AB
  (of_decide_eq_true AB) (by unfold Func.isWrapper;first |(rw[if_pos (by decide+kernel)];kernel_rfl) |(rw[if_neg (by decide+kernel)];exact⟨rfl,rfl⟩))
  (fun os started H enc _=>lifted os started H enc)
theorem proved:Rows.ManifestChecksSaid:=over
#print axioms proved
end Go.Proofs.YtlholdllibghbaaGreat.manifestChecks
