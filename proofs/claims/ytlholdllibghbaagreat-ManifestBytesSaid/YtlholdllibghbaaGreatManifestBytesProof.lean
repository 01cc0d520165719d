/- Manifests as bytes, their hashes, and what is read of bytes, are as the law says This text joins the law's walk to the given row. -/
import Derived.Test.YtlholdllibghbaaGreatRows
import Derived.Test.YtlholdllibghbaaGreatLawManBytes
import Derived.Test.YtlholdllibghbaaGreatG02
import Derived.WalkKit
import Derived.ProofKit
import Derived.OpenShut
import Derived.ShutString
import Derived.ChangeOld
import Derived.Below
import Derived.SizedLaws
import Derived.Test.YtlholdllibghbaaGreatKit
set_option maxRecDepth 100000
set_option maxHeartbeats 8000000
namespace Go.Proofs.YtlholdllibghbaaGreat.manifestBytes
open Go.ChangeShapes Go.WideShapes Go.ChangeAt Go.RowKit
open Go.ChangeMaps (open_string shut_string)
open Go.Cit
set_option linter.unusedVariables false
theorem own:ownKnob Tryz.prog.godebug=none:=by kernel_rfl
theorem laidOut:laidOutB Tryz.prog=true:=by kernel_rfl
theorem lifted (os:Os) (started:os.Started) (H:Type) (enc:TypeId×Value→H):
 ReturnsInHanded {} Tryz.checked os 4 .any (Rows.manifestBytesSpec.pre6 enc Tryz.prog Tryz.f4 Rows.manifestBytesRow.domain false) (Rows.manifestBytesSpec.post enc Tryz.prog Tryz.f4 false true false false):=by
 refine returnsInHanded_of_change_sized (C:=Tryz.checked) own started AB Tryz.func4
  (ChangeSpec.witness6 (enc:=enc) (C:=Tryz.checked) false ⟨#[], #[.agg (cM zM), .slice none 0 0, .bool false, .int .i64 0, .int .u8 0],[]⟩ 8 AB AB AB AB) ?_
 intro W base args ds gs before hval0 hW hcnd hsz0 _
 have hval:∀(j:Nat) t v,Tryz.f4.params[j]? =some t→args[j]? =some v→Value.okWide Tryz.prog W .any base t v:=hval0
 have hW':=hW
 obtain⟨p,q,hA0,hV,rfl,hfz,hnd⟩:=hW
 have hA:DataW.TrodAll enc Tryz.prog W 0 (fun _=>true) true Tryz.f4.params.toList args.toList ds p:=hA0
 have hsz:(DataW.weightsEach Tryz.prog (Tryz.f4.params.toList++Rows.manifestBytesSpec.plain.varTypes Tryz.prog) (ds++gs)).all (· ≤reachBytes)=true:=hsz0
 rw[Tryz.params4] at hA hval hsz
 obtain⟨v0,vs0,d0,ds0,p0,q0,hargs,rfl,rfl,h0,r0⟩:=trodAll_cons hA
 obtain⟨v1,vs1,d1,ds1,p1,q1,rfl,rfl,rfl,h1,r1⟩:=trodAll_cons r0
 obtain⟨v2,vs2,d2,ds2,p2,q2,rfl,rfl,rfl,h2,r2⟩:=trodAll_cons r1
 obtain⟨v3,vs3,d3,ds3,p3,q3,rfl,rfl,rfl,h3,r3⟩:=trodAll_cons r2
 obtain⟨v4,vs4,d4,ds4,p4,q4,rfl,rfl,rfl,h4,r4⟩:=trodAll_cons r3
 obtain⟨rfl,rfl,rfl⟩:=trodAll_nil r4
 obtain rfl:args= #[v0,v1,v2,v3,v4]:=by cases args;simp_all
 obtain⟨rfl,rfl⟩:=trodVars_none hV
 have k0:=h0
 have lt0:∀x∈p0,x.block<W.heap.size:=by obtain⟨m,hm⟩:=k0;exact DataW.trod_lt m _ _ _ hm
 obtain⟨D0,rfl,OK0⟩:=qL (vP) AB (hval 0 55 v0 rfl rfl) h0 (wB hsz (j:=0) rfl rfl)
 have k1:=h1
 have lt1:∀x∈p1,x.block<W.heap.size:=by obtain⟨m,hm⟩:=k1;exact DataW.trod_lt m _ _ _ hm
 obtain⟨⟨A1,C1,L1⟩,rfl,OK1⟩:=qL .bytes AB (hval 1 40 v1 rfl rfl) h1 (wB hsz (j:=1) rfl rfl)
 have k2:=h2
 have lt2:∀x∈p2,x.block<W.heap.size:=by obtain⟨m,hm⟩:=k2;exact DataW.trod_lt m _ _ _ hm
 obtain⟨E2,rfl,OK2⟩:=qL .bool AB (hval 2 4 v2 rfl rfl) h2 (wB hsz (j:=2) rfl rfl)
 have k3:=h3
 have lt3:∀x∈p3,x.block<W.heap.size:=by obtain⟨m,hm⟩:=k3;exact DataW.trod_lt m _ _ _ hm
 obtain⟨E3,rfl,OK3⟩:=qL (.i64) AB (hval 3 3 v3 rfl rfl) h3 (wB hsz (j:=3) rfl rfl)
 have k4:=h4
 have lt4:∀x∈p4,x.block<W.heap.size:=by obtain⟨m,hm⟩:=k4;exact DataW.trod_lt m _ _ _ hm
 obtain⟨E4,rfl,OK4⟩:=qL .u8 AB (hval 4 5 v4 rfl rfl) h4 (wB hsz (j:=4) rfl rfl)
 clear hA0 hval0
 have walk:=wC W (J8 D0) A1 L1 C1 E2 E3 E4 (Oi OK0) (Nb OK0) OK1.1
 (try unfold cM at walk);rw[←NZ OK0] at walk
 skip
 refine Calls.mono (show Calls Tryz.prog 4 _ W _ from walk) fun e W' ⟨he,bel⟩=> ?_
 subst he
 exact⟨_,rfl,_,_,_,[],_,[],hW',trodAll_mk1 (shut_bool Tryz.underlying4 _),(trodAll_cons_mk (Below.trod laidOut AB (of_decide_eq_true AB) k0 bel lt0) (trodAll_cons_mk (Below.trod laidOut AB (of_decide_eq_true AB) k1 bel lt1) (trodAll_cons_mk (Below.trod laidOut AB (of_decide_eq_true AB) k2 bel lt2) (trodAll_cons_mk (Below.trod laidOut AB (of_decide_eq_true AB) k3 bel lt3) (trodAll_cons_mk (Below.trod laidOut AB (of_decide_eq_true AB) k4 bel lt4) trodAll_mk0))))),rfl,bel.frame _,fun h=>by cases h⟩
theorem over:Rows.manifestBytesRow.holds Tryz.pinned (OpenSpec.ofChange Rows.manifestBytesSpec):=
 OpenClaim.holds_of_wide 4 Tryz.f4 rfl rfl rfl rfl rfl rfl rfl ⟨rfl,rfl,rfl,rfl,rfl⟩ rfl rfl rfl rfl rfl AB Tryz.func4 AB
  (of_decide_eq_true AB) (by unfold Func.isWrapper;first |(rw[if_pos (by decide+kernel)];kernel_rfl) |(rw[if_neg (by decide+kernel)];exact⟨rfl,rfl⟩))
  (fun os started H enc _=>lifted os started H enc)
theorem proved:Rows.ManifestBytesSaid:=over
#print axioms proved
end Go.Proofs.YtlholdllibghbaaGreat.manifestBytes
