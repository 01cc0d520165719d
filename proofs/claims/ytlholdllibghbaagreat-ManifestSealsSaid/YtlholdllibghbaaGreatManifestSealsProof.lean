/- What is sealed is right under its key; one sealed with another key is not; a seal turns nothing but the hash of the one ahead and the tag, as the law says This text joins the law's walk to the given row. -/
import Derived.Test.YtlholdllibghbaaGreatRows
import Derived.Test.YtlholdllibghbaaGreatLawManSeals
import Derived.Test.YtlholdllibghbaaGreatG02
import Derived.WalkKit
import Derived.ProofKit
import Derived.OpenShut
import Derived.ShutString
import Derived.ChangeOld
import Derived.Below
import Derived.SizedLaws
import Derived.Test.YtlholdllibghbaaGreatKit
set_option maxRecDepth 100000
set_option maxHeartbeats 8000000
namespace Go.Proofs.YtlholdllibghbaaGreat.manifestSeals
open Go.ChangeShapes Go.WideShapes Go.ChangeAt Go.RowKit
open Go.ChangeMaps (open_string shut_string)
open Go.Cit
set_option linter.unusedVariables false
theorem own:ownKnob Tryz.prog.godebug=none:=by kernel_rfl
theorem laidOut:laidOutB Tryz.prog=true:=by kernel_rfl
theorem lifted (os:Os) (started:os.Started) (H:Type) (enc:TypeId×Value→H):
 ReturnsInHanded {} Tryz.checked os 6 .any (Rows.manifestSealsSpec.pre6 enc Tryz.prog Tryz.f6 Rows.manifestSealsRow.domain false) (Rows.manifestSealsSpec.post enc Tryz.prog Tryz.f6 false true false false):=by
 refine returnsInHanded_of_change_sized (C:=Tryz.checked) own started AB Tryz.func6
  (ChangeSpec.witness6 (enc:=enc) (C:=Tryz.checked) false ⟨#[], #[.slice none 0 0, .slice none 0 0, .agg (cM zM), .agg (cM zM)],[]⟩ 8 AB AB AB AB) ?_
 intro W base args ds gs before hval0 hW hcnd hsz0 _
 have hval:∀(j:Nat) t v,Tryz.f6.params[j]? =some t→args[j]? =some v→Value.okWide Tryz.prog W .any base t v:=hval0
 have hW':=hW
 obtain⟨p,q,hA0,hV,rfl,hfz,hnd⟩:=hW
 have hA:DataW.TrodAll enc Tryz.prog W 0 (fun _=>true) true Tryz.f6.params.toList args.toList ds p:=hA0
 have hsz:(DataW.weightsEach Tryz.prog (Tryz.f6.params.toList++Rows.manifestSealsSpec.plain.varTypes Tryz.prog) (ds++gs)).all (· ≤reachBytes)=true:=hsz0
 rw[Tryz.params6] at hA hval hsz
 obtain⟨v0,vs0,d0,ds0,p0,q0,hargs,rfl,rfl,h0,r0⟩:=trodAll_cons hA
 obtain⟨v1,vs1,d1,ds1,p1,q1,rfl,rfl,rfl,h1,r1⟩:=trodAll_cons r0
 obtain⟨v2,vs2,d2,ds2,p2,q2,rfl,rfl,rfl,h2,r2⟩:=trodAll_cons r1
 obtain⟨v3,vs3,d3,ds3,p3,q3,rfl,rfl,rfl,h3,r3⟩:=trodAll_cons r2
 obtain⟨rfl,rfl,rfl⟩:=trodAll_nil r3
 obtain rfl:args= #[v0,v1,v2,v3]:=by cases args;simp_all
 obtain⟨rfl,rfl⟩:=trodVars_none hV
 have k0:=h0
 have lt0:∀x∈p0,x.block<W.heap.size:=by obtain⟨m,hm⟩:=k0;exact DataW.trod_lt m _ _ _ hm
 obtain⟨⟨A0,C0,L0⟩,rfl,OK0⟩:=uV .bytes AB (hval 0 40 v0 rfl rfl) h0 (yB hsz (j:=0) rfl rfl)
 have k1:=h1
 have lt1:∀x∈p1,x.block<W.heap.size:=by obtain⟨m,hm⟩:=k1;exact DataW.trod_lt m _ _ _ hm
 obtain⟨⟨A1,C1,L1⟩,rfl,OK1⟩:=uV .bytes AB (hval 1 40 v1 rfl rfl) h1 (yB hsz (j:=1) rfl rfl)
 have k2:=h2
 have lt2:∀x∈p2,x.block<W.heap.size:=by obtain⟨m,hm⟩:=k2;exact DataW.trod_lt m _ _ _ hm
 obtain⟨D2,rfl,OK2⟩:=uV (sJ) AB (hval 2 55 v2 rfl rfl) h2 (yB hsz (j:=2) rfl rfl)
 have k3:=h3
 have lt3:∀x∈p3,x.block<W.heap.size:=by obtain⟨m,hm⟩:=k3;exact DataW.trod_lt m _ _ _ hm
 obtain⟨D3,rfl,OK3⟩:=uV (sJ) AB (hval 3 55 v3 rfl rfl) h3 (yB hsz (j:=3) rfl rfl)
 clear hA0 hval0
 have walk:=vK W A0 L0 C0 A1 L1 C1 (ET D2) (ET D3) OK0.1 OK1.1 (Gu OK2) (BM OK2) (Gu OK3) (BM OK3)
 (try unfold cM at walk);rw[←GX OK2] at walk
 (try unfold cM at walk);rw[←GX OK3] at walk
 refine Calls.mono (show Calls Tryz.prog 6 _ W _ from walk) fun e W' ⟨he,bel⟩=> ?_
 subst he
 exact⟨_,rfl,_,_,_,[],_,[],hW',trodAll_mk1 (shut_bool Tryz.underlying4 _),(trodAll_cons_mk (Below.trod laidOut AB (of_decide_eq_true AB) k0 bel lt0) (trodAll_cons_mk (Below.trod laidOut AB (of_decide_eq_true AB) k1 bel lt1) (trodAll_cons_mk (Below.trod laidOut AB (of_decide_eq_true AB) k2 bel lt2) (trodAll_cons_mk (Below.trod laidOut AB (of_decide_eq_true AB) k3 bel lt3) trodAll_mk0)))),rfl,bel.frame _,fun h=>by cases h⟩
theorem over:Rows.manifestSealsRow.holds Tryz.pinned (OpenSpec.ofChange Rows.manifestSealsSpec):=
 OpenClaim.holds_of_wide 6 Tryz.f6 rfl rfl rfl rfl rfl rfl rfl ⟨rfl,rfl,rfl,rfl,rfl⟩ rfl rfl rfl rfl rfl AB Tryz.func6 AB
  (of_decide_eq_true AB) (by unfold Func.isWrapper;first |(rw[if_pos (by decide+kernel)];kernel_rfl) |(rw[if_neg (by decide+kernel)];exact⟨rfl,rfl⟩))
  (fun os started H enc _=>lifted os started H enc)
theorem proved:Rows.ManifestSealsSaid:=over
#print axioms proved
end Go.Proofs.YtlholdllibghbaaGreat.manifestSeals
