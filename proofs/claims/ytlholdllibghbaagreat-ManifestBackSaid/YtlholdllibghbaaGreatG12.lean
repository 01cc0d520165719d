/- Texts of the proof, one behind the other: Chain, Can, ChanGet, Pairs. No condition but those that each names. -/
import Derived.Test.YtlholdllibghbaaGreatG06
import Derived.Test.YtlholdllibghbaaGreatG11
import Derived.Test.YtlholdllibghbaaGreatG10
import Derived.Deep.CutBlock
import Derived.Deep.DeepCutAuto
import Derived.Test.YtlholdllibghbaaGreatG09
import Derived.RangeFuncNested
import Derived.RangeFuncBound
import Derived.RangeFuncCalls
import Derived.RangeFuncLeaves
import Derived.Shelf.Abstract
import Derived.Shelf.RegionOpen
import Derived.OwnWalkIn
import Derived.TacticsInMore
import Derived.LoopNIn
import Derived.LoopIn
/- A region that draws its order, in which some operations, each behind the one before it, change the world (calls of methods of one thing); the others only read. No condition on the program. -/
namespace Go.Cit
open Go Go.RowKit

section
variable {P : Program} {ops : Array Oper} {Q : Exit → Act → World → Prop}
def chainC (idx : List Nat) (St : Nat → World → Prop) (δ : Nat → Bool) (wx : World) : Prop := ∃ k, k ≤ idx.length ∧ (∀ j i, idx[j]? = some i → (δ i = true ↔ j < k)) ∧ St k wx
def ChainOp (P : Program) (ops : Array Oper) (X : Nat → Value) (idx : List Nat) (St : Nat → World → Prop) (n : Nat) (o : Oper) (a : Act) : Prop :=
  Wanted ops o a ∧
  ((∃ j, idx[j]? = some n ∧ ∀ wx, St j wx → GivesP P (fun v w' => St (j + 1) w' ∧ tyX X o v) ((execOp a.eval o).run P wx)) ∨
   (n ∉ idx ∧ ∀ k wx, k ≤ idx.length → St k wx → GivesP P (fun v w' => w' = wx ∧ tyX X o v) ((execOp a.eval o).run P wx)))
def chainB (ops : Array Oper) (idx : List Nat) : Bool := (List.range idx.length).all fun j => decide (idx.getD j 0 < ops.size) && (decide (j = 0) || needsB ops ops.size (idx.getD j 0) (idx.getD (j - 1) 0))
theorem chain_spec {idx : List Nat} (h : chainB ops idx = true) {j i : Nat} (hj : idx[j]? = some i) : i < ops.size ∧ ∀ j' i', j = j' + 1 → idx[j']? = some i' → needsB ops ops.size i i' = true := by
  have hlt := (List.getElem?_eq_some_iff.1 hj).1
  have h1 := List.all_eq_true.1 h j (List.mem_range.2 hlt)
  rw [List.getD_eq_getElem?_getD, hj] at h1
  simp only [Option.getD_some, Bool.and_eq_true, Bool.or_eq_true, decide_eq_true_eq] at h1
  refine ⟨h1.1, fun j' i' e hi' => ?_⟩
  subst e
  rcases h1.2 with h2 | h2
  · omega
  · rw [List.getD_eq_getElem?_getD, show j' + 1 - 1 = j' from rfl, hi'] at h2
    exact h2
theorem chain_lt {idx : List Nat} {m : Nat} (hs : shapeB ops m = true) (h : chainB ops idx = true) : ∀ (d j i i' : Nat), idx[j]? = some i → idx[j + d + 1]? = some i' → i < i'
  | 0, j, i, i', hi, hi' => needs_lt hs _ _ _ ((chain_spec h hi').2 j i rfl hi)
  | d + 1, j, i, i', hi, hi' => by
    have hlt := (List.getElem?_eq_some_iff.1 hi').1
    have hm : idx[j + d + 1]? = some idx[j + d + 1] := List.getElem?_eq_getElem (by omega)
    have h1 := chain_lt hs h d j i _ hi hm
    have h2 := needs_lt hs _ _ _ ((chain_spec h hi').2 (j + d + 1) _ rfl hm)
    omega
theorem chain_inj {idx : List Nat} {m : Nat} (hs : shapeB ops m = true) (h : chainB ops idx = true) {j j' i : Nat} (hi : idx[j]? = some i) (hi' : idx[j']? = some i) : j = j' := by
  rcases Nat.lt_trichotomy j j' with hlt | he | hlt
  · have := chain_lt hs h (j' - j - 1) j i i hi (by rw [show j + (j' - j - 1) + 1 = j' by omega]; exact hi'); omega
  · exact he
  · have := chain_lt hs h (j - j' - 1) j' i i hi' (by rw [show j' + (j - j' - 1) + 1 = j by omega]; exact hi); omega
theorem wp_region_chain {id : Nat} {a0 : Act} {w : World} (X Y : Nat → Value) (olds : List Nat) (idx : List Nat) (St : Nat → World → Prop)
    (hm : P.follows .mixedOrders = true) (hs : shapeB ops a0.tmps.size = true) (hc : chainB ops idx = true) (hY : OldIs a0 Y olds)
    (h0 : ∀ w', Below w.heap.size w w' → w'.heap = w.heap → St 0 w')
    (hop : OpsAll (fun n o => ∀ a, KnowsT ops X Y olds o a → ChainOp P ops X idx St n o a) ops.toList 0)
    (hend : ∀ a wx, St idx.length wx → SameBut ops a0 a → (∀ d, outB ops d = false → a.eval (.tmp d) = X d) → Q .normal a wx) :
    (Code.region id ops true).wp P Q a0 w := by
  refine wp_region_ph (chainC idx St) (fun _ _ _ => True) (fun d v _ => v = X d) hm hs (fun w' hb hh => ⟨0, Nat.zero_le _, fun j i _ => ⟨fun h => absurd h (by simp), fun h => absurd h (Nat.not_lt_zero _)⟩, h0 w' hb hh⟩) ?_ ?_ ?_
  · intro δ i j o v w1 w2 _ _ _ _ _ _ _ h
    rcases hd : o.dst with _ | d
    · exact tyP_none hd _ _
    · rw [tyP_some hd] at h ⊢; exact h
  · refine OpsAll.imp2 (fun n o hall => ?_) ops.toList 0 hop
    intro δ a wx hk
    have hkt : KnowsT ops X Y olds o a := ⟨fun d hd => hk.slot d hd, fun d hd => by
      rw [Bool.and_eq_true] at hd
      exact (hk.old d hd.1).trans (hY.get d hd.2)⟩
    obtain ⟨hw, h⟩ := hall a hkt
    refine ⟨hw, ?_⟩
    obtain ⟨k, hk1, hk2, hk3⟩ := hk.inv
    rcases h with ⟨j, hj, h⟩ | ⟨hn, h⟩
    · have hkj : k = j := by
        have h1 : ¬ j < k := fun hlt => by
          have := (hk2 j n hj).2 hlt
          rw [hk.yet] at this; exact absurd this (by decide)
        have h2 : j ≤ k := by
          rcases j with _ | j'
          · exact Nat.zero_le _
          · have hlt := (List.getElem?_eq_some_iff.1 hj).1
            have hj' : idx[j']? = some idx[j'] := List.getElem?_eq_getElem (by omega)
            have hneed := (chain_spec hc hj).2 j' _ rfl hj'
            have hdone := hk.next.needs ops.size n _ hneed (upd_same _ _)
            have hne := needs_lt hs _ _ _ hneed
            rw [upd_other _ (by omega)] at hdone
            exact (hk2 j' _ hj').1 hdone
        omega
      subst hkj
      refine gives_two (fun v w' hv => ⟨trivial, ⟨k + 1, ?_, fun j2 i2 hj2 => ?_, hv.1⟩, tyP_X hv.2⟩) (h wx hk3)
      · exact (List.getElem?_eq_some_iff.1 hj).1
      · by_cases he : n = i2
        · subst he
          rw [upd_same]
          have := chain_inj hs hc hj hj2
          subst this
          exact ⟨fun _ => Nat.lt_succ_self _, fun _ => rfl⟩
        · rw [upd_other _ he, hk2 j2 i2 hj2]
          have : j2 ≠ k := fun e => he (by rw [e, hj] at hj2; exact Option.some.inj hj2)
          omega
    · refine gives_two (fun v w' hv => ?_) (h k wx hk1 hk3)
      obtain ⟨rfl, hv⟩ := hv
      exact ⟨trivial, ⟨k, hk1, fun j2 i2 hj2 => by
        rw [upd_other _ (show n ≠ i2 from fun e => hn (by rw [e]; exact List.mem_of_getElem? hj2))]; exact hk2 j2 i2 hj2, hk3⟩, tyP_X hv⟩
  · intro δ a wx hall hcc hsame hslots
    obtain ⟨k, hk1, hk2, hk3⟩ := hcc
    have hkl : k = idx.length := by
      rcases Nat.lt_or_ge k idx.length with hlt | hge
      · have hi : idx[k]? = some idx[k] := List.getElem?_eq_getElem hlt
        have := (hk2 k _ hi).1 (hall _ (chain_spec hc hi).1)
        omega
      · omega
    subst hkl
    exact hend a wx hk3 hsame fun d hd => hslots d hd
end
theorem Save.off {b : Nat} {a a1 : Option Addr} {w wx w' : World} (h1 : Save (fun k => k ≠ b ∧ some k ≠ blk a) w wx) (hn : Near w.heap.size a a1) (h2 : Save (fun k => k ≠ b ∧ some k ≠ blk a1) wx w') : Save (fun k => k ≠ b ∧ some k ≠ blk a) w w' :=
  ⟨h2.os.trans h1.os, h2.tape.trans h1.tape, h2.output.trans h1.output, Nat.le_trans h1.size h2.size, fun k hk hs => (h2.block k (Nat.lt_of_lt_of_le hk h1.size) ⟨hs.1, fun e => by
    rcases hn k e.symm with h | h
    · exact hs.2 h.symm
    · omega⟩).trans (h1.block k hk hs)⟩
end Go.Cit

/- config.Can: walked. -/
namespace Go.Proofs.YtlholdllibghbaaGreat
open Go Go.RowKit Go.Cit

def longP (x : PtV) : Bool := decide (512 < x.img.length)
def canV (V : CfgV) : Bool := ((decide (V.ws.length ≤ 12) && decide (V.ps.length ≤ 6)) && decide (V.cs.length ≤ 8)) && !V.ps.any longP
set_option maxRecDepth 100000 in
set_option maxHeartbeats 1000000 in
theorem long_calls (W : World) (x : PtV) : Calls Tryz.prog 111 (#[.agg #[.int .i64 x.id.1, .int .i64 x.reg.base.1, .int .i64 x.reg.size.1, .bool x.keep, .slice x.a x.img.length x.c]] ++ #[]) W fun e w' => e = .returned (.bool (longP x)) ∧ Below W.heap.size W w' := by
  show Calls Tryz.prog 111 #[.agg #[.int .i64 x.id.1, .int .i64 x.reg.base.1, .int .i64 x.reg.size.1, .bool x.keep, .slice x.a x.img.length x.c]] W _
  obtain ⟨R, HR⟩ : ∃ R, Hid (R = longP x) := ⟨_, rfl⟩
  rw [← HR.out]
  have B0 : Below W.heap.size W (W.alloc (.cells #[.int .i64 x.id.1, .int .i64 x.reg.base.1, .int .i64 x.reg.size.1, .bool x.keep, .slice x.a x.img.length x.c] 46)) := (Below.refl _ W).alloc (Nat.le_refl _) _
  have HB0 := Lib.hid B0
  clear B0
  go_enter Tryz.func111, Tryz.ntmps111
  go_wp2_with fail
  go_ret
  exact ⟨ret_bool (by rw [HR.out]; unfold longP; exact decide_eq_decide.2 (by omega)), HB0.out⟩

def rcan (V : CfgV) (B : Nat) (g1 g2 g3 h : Bool) : Nat → Value
  | 4 => (.pointer (some ⟨B, 0, none⟩))
  | 5 => (.slice V.wa V.ws.length V.wc)
  | 6 => (.int .i64 (V.ws.length : Int))
  | 7 => (.bool g1)
  | 8 => (.bool g1)
  | 9 => (bif g1 then (.pointer (some ⟨B, 1, none⟩)) else undef)
  | 10 => (bif g1 then (.slice V.pa V.ps.length V.pc) else undef)
  | 11 => (bif g1 then (.int .i64 (V.ps.length : Int)) else undef)
  | 12 => (bif g1 then (.bool g2) else undef)
  | 13 => (.bool (g1 && g2))
  | 14 => (.bool (g1 && g2))
  | 15 => (bif (g1 && g2) then (.pointer (some ⟨B, 2, none⟩)) else undef)
  | 16 => (bif (g1 && g2) then (.slice V.ca V.cs.length V.cc) else undef)
  | 17 => (bif (g1 && g2) then (.int .i64 (V.cs.length : Int)) else undef)
  | 18 => (bif (g1 && g2) then (.bool g3) else undef)
  | 19 => (.bool ((g1 && g2) && g3))
  | 20 => (.bool ((g1 && g2) && g3))
  | 21 => (bif ((g1 && g2) && g3) then (.pointer (some ⟨B, 1, none⟩)) else undef)
  | 22 => (bif ((g1 && g2) && g3) then (.slice V.pa V.ps.length V.pc) else undef)
  | 23 => (bif ((g1 && g2) && g3) then (.func (.func 111) #[] #[]) else undef)
  | 24 => (bif ((g1 && g2) && g3) then (.bool h) else undef)
  | 25 => (bif ((g1 && g2) && g3) then (.bool (!h)) else undef)
  | 26 => (.bool (((g1 && g2) && g3) && (!h)))
  | 2 => (.bool (((g1 && g2) && g3) && (!h)))
  | _ => undef
def rcano (_ : CfgV) (B : Nat) (_ _ _ _ : Bool) : Nat → Value
  | 1 => (.pointer (some ⟨B, 0, none⟩))
  | 3 => (.func (.func 111) #[] #[])
  | _ => undef

set_option maxRecDepth 100000 in
set_option maxHeartbeats 2000000 in
theorem can_calls (w : World) (V : CfgV) (h : V.At w) : Calls Tryz.prog 51 #[.agg #[.slice V.wa V.ws.length V.wc, .slice V.pa V.ps.length V.pc, .slice V.ca V.cs.length V.cc]] w fun e w' => e = .returned (.bool (canV V)) ∧ Below w.heap.size w w' := by
  obtain ⟨w0, hw0⟩ : ∃ w0, w0 = w.alloc (.cells #[.slice V.wa V.ws.length V.wc, .slice V.pa V.ps.length V.pc, .slice V.ca V.cs.length V.cc] 26) := ⟨_, rfl⟩
  have B0 : Below w.heap.size w w0 := by rw [hw0]; exact (Below.refl _ w).alloc (Nat.le_refl _) _
  have hI : InBox w0 w.heap.size V := by rw [hw0]; exact inBox_new w V _
  obtain ⟨c0, c1, c2⟩ := hI
  obtain ⟨g1, hg1⟩ : ∃ g, Hid (decide ((V.ws.length : Int) ≤ 12) = g) := ⟨_, rfl⟩
  obtain ⟨g2, hg2⟩ : ∃ g, Hid (decide ((V.ps.length : Int) ≤ 6) = g) := ⟨_, rfl⟩
  obtain ⟨g3, hg3⟩ : ∃ g, Hid (decide ((V.cs.length : Int) ≤ 8) = g) := ⟨_, rfl⟩
  obtain ⟨h4, hh⟩ : ∃ g, Hid (V.ps.any longP = g) := ⟨_, rfl⟩
  obtain ⟨R, hR⟩ : ∃ R, Hid (R = (((g1 && g2) && g3) && (!h4))) := ⟨_, rfl⟩
  have HR : Hid (R = canV V) := by
    rw [Hid, hR.out, ← hg1.out, ← hg2.out, ← hg3.out, ← hh.out]
    unfold canV
    rw [show decide ((V.ws.length : Int) ≤ 12) = decide (V.ws.length ≤ 12) from decide_eq_decide.2 (by omega), show decide ((V.ps.length : Int) ≤ 6) = decide (V.ps.length ≤ 6) from decide_eq_decide.2 (by omega), show decide ((V.cs.length : Int) ≤ 8) = decide (V.cs.length ≤ 8) from decide_eq_decide.2 (by omega)]
  have HV := Lib.hid (h.stay B0)
  have HD : Hid (∀ q : After w0, Calls Tryz.prog 112 #[.slice V.pa V.ps.length V.pc, .func (.func 111) #[] #[]] q.to fun e w' => e = .returned (.bool h4) ∧ Below q.to.heap.size q.to w') := fun q => by
    have := pts_contains (p := longP) 111 #[] (enters_of Tryz.func111 (by kernel_rfl) rfl) q.to V.pa V.ps V.pc (HV.out.stay q.bel).pts
      (fun W i hi hb => (long_calls W V.ps[i]).mono fun e w' ⟨he, hb'⟩ => ⟨he, hb.trans (hb'.mono hb.size)⟩)
    rwa [hh.out] at this
  have HB0 := Lib.hid B0
  rw [← HR.out]
  clear B0 h
  go_enter Tryz.func51, Tryz.ntmps51
  go_upto_region 2 with fail
  rw [← hw0]
  clear hw0
  refine wp_region_vals0 (rcan V w.heap.size g1 g2 g3 h4) (rcano V w.heap.size g1 g2 g3 h4) [1, 3] (by kernel_rfl) ⟨rfl, rfl, trivial⟩ ?_ ?_
  · refine opsAll_cons ?_ (opsAll_cons ?_ (opsAll_cons ?_ (opsAll_cons ?_ (opsAll_cons ?_ (opsAll_cons ?_ (opsAll_cons ?_ (opsAll_cons ?_ (opsAll_cons ?_ (opsAll_cons ?_ (opsAll_cons ?_ (opsAll_cons ?_ (opsAll_cons ?_ (opsAll_cons ?_ (opsAll_cons ?_ (opsAll_cons ?_ (opsAll_cons ?_ (opsAll_cons ?_ (opsAll_cons ?_ (opsAll_cons ?_ (opsAll_cons ?_ (opsAll_cons ?_ (opsAll_cons ?_ (opsAll_cons ?_ opsAll_nil)))))))))))))))))))))))
    all_goals intro a hk
    · -- slot 4
      exact .inl ⟨wanted_free rfl, q_field (.tmp 1) rfl (show a.eval (.tmp 1) = (.pointer (some ⟨w.heap.size, 0, none⟩)) from hk.old 1 (by kernel_rfl) (by kernel_rfl)) (v := (.pointer (some ⟨w.heap.size, 0, none⟩))) (fun w => by kernel_rfl) rfl⟩
    · -- slot 5
      exact .inl ⟨wanted_free rfl, q_load (.tmp 4) rfl (show a.eval (.tmp 4) = (.pointer (some ⟨w.heap.size, 0, none⟩)) from hk.slot 4 (by kernel_rfl)) (v := (.slice V.wa V.ws.length V.wc)) (fun q => load_at (fun w => by kernel_rfl) (keep q.bel c0)) rfl⟩
    · -- slot 6
      exact .inl ⟨wanted_free rfl, q_len rfl (by kernel_rfl) (show a.eval (.tmp 5) = (.slice V.wa V.ws.length V.wc) from hk.slot 5 (by kernel_rfl)) rfl⟩
    · -- slot 7
      exact .inl ⟨wanted_free rfl, q_bin rfl (show a.eval (.tmp 6) = (.int .i64 (V.ws.length : Int)) from hk.slot 6 (by kernel_rfl)) rfl (v := .bool (decide (((V.ws.length : Int) : Int) ≤ 12))) (fun w => by kernel_rfl) (congrArg Value.bool (hg1.out))⟩
    · -- slot 8
      exact .inl ⟨wanted_free rfl, q_move (.tmp 7) rfl (show a.eval (.tmp 7) = (.bool g1) from hk.slot 7 (by kernel_rfl))⟩
    · -- slot 9
      cases g1 with
      | true =>
        exact .inl ⟨wanted_by 8 true (by kernel_rfl) (show a.eval (.tmp 8) = (.bool true) from hk.slot 8 (by kernel_rfl)), q_field (.tmp 1) rfl (show a.eval (.tmp 1) = (.pointer (some ⟨w.heap.size, 0, none⟩)) from hk.old 1 (by kernel_rfl) (by kernel_rfl)) (v := (.pointer (some ⟨w.heap.size, 1, none⟩))) (fun w => by kernel_rfl) rfl⟩
      | false =>
        exact .inr ⟨unwanted_by 8 true (by kernel_rfl) (show a.eval (.tmp 8) = (.bool false) from hk.slot 8 (by kernel_rfl)), rfl⟩
    · -- slot 10
      cases g1 with
      | true =>
        exact .inl ⟨wanted_by 8 true (by kernel_rfl) (show a.eval (.tmp 8) = (.bool true) from hk.slot 8 (by kernel_rfl)), q_load (.tmp 9) rfl (show a.eval (.tmp 9) = (.pointer (some ⟨w.heap.size, 1, none⟩)) from hk.slot 9 (by kernel_rfl)) (v := (.slice V.pa V.ps.length V.pc)) (fun q => load_at (fun w => by kernel_rfl) (keep q.bel c1)) rfl⟩
      | false =>
        exact .inr ⟨unwanted_by 8 true (by kernel_rfl) (show a.eval (.tmp 8) = (.bool false) from hk.slot 8 (by kernel_rfl)), rfl⟩
    · -- slot 11
      cases g1 with
      | true =>
        exact .inl ⟨wanted_by 8 true (by kernel_rfl) (show a.eval (.tmp 8) = (.bool true) from hk.slot 8 (by kernel_rfl)), q_len rfl (by kernel_rfl) (show a.eval (.tmp 10) = (.slice V.pa V.ps.length V.pc) from hk.slot 10 (by kernel_rfl)) rfl⟩
      | false =>
        exact .inr ⟨unwanted_by 8 true (by kernel_rfl) (show a.eval (.tmp 8) = (.bool false) from hk.slot 8 (by kernel_rfl)), rfl⟩
    · -- slot 12
      cases g1 with
      | true =>
        exact .inl ⟨wanted_by 8 true (by kernel_rfl) (show a.eval (.tmp 8) = (.bool true) from hk.slot 8 (by kernel_rfl)), q_bin rfl (show a.eval (.tmp 11) = (.int .i64 (V.ps.length : Int)) from hk.slot 11 (by kernel_rfl)) rfl (v := .bool (decide (((V.ps.length : Int) : Int) ≤ 6))) (fun w => by kernel_rfl) (congrArg Value.bool (hg2.out))⟩
      | false =>
        exact .inr ⟨unwanted_by 8 true (by kernel_rfl) (show a.eval (.tmp 8) = (.bool false) from hk.slot 8 (by kernel_rfl)), rfl⟩
    · -- slot 13
      cases g1 with
      | true =>
        exact .inl ⟨wanted_free rfl, q_pick rfl true (show a.eval (.tmp 8) = (.bool true) from hk.slot 8 (by kernel_rfl)) (show a.eval (.tmp 12) = (.bool g2) from hk.slot 12 (by kernel_rfl))⟩
      | false =>
        exact .inl ⟨wanted_free rfl, q_pick rfl false (show a.eval (.tmp 8) = (.bool false) from hk.slot 8 (by kernel_rfl)) rfl⟩
    · -- slot 14
      exact .inl ⟨wanted_free rfl, q_move (.tmp 13) rfl (show a.eval (.tmp 13) = (.bool (g1 && g2)) from hk.slot 13 (by kernel_rfl))⟩
    · -- slot 15
      cases g1 with
      | true =>
        cases g2 with
        | true =>
          exact .inl ⟨wanted_by 14 true (by kernel_rfl) (show a.eval (.tmp 14) = (.bool (true && true)) from hk.slot 14 (by kernel_rfl)), q_field (.tmp 1) rfl (show a.eval (.tmp 1) = (.pointer (some ⟨w.heap.size, 0, none⟩)) from hk.old 1 (by kernel_rfl) (by kernel_rfl)) (v := (.pointer (some ⟨w.heap.size, 2, none⟩))) (fun w => by kernel_rfl) rfl⟩
        | false =>
          exact .inr ⟨unwanted_by 14 true (by kernel_rfl) (show a.eval (.tmp 14) = (.bool (true && false)) from hk.slot 14 (by kernel_rfl)), rfl⟩
      | false =>
        exact .inr ⟨unwanted_by 14 true (by kernel_rfl) (show a.eval (.tmp 14) = (.bool (false && g2)) from hk.slot 14 (by kernel_rfl)), rfl⟩
    · -- slot 16
      cases g1 with
      | true =>
        cases g2 with
        | true =>
          exact .inl ⟨wanted_by 14 true (by kernel_rfl) (show a.eval (.tmp 14) = (.bool (true && true)) from hk.slot 14 (by kernel_rfl)), q_load (.tmp 15) rfl (show a.eval (.tmp 15) = (.pointer (some ⟨w.heap.size, 2, none⟩)) from hk.slot 15 (by kernel_rfl)) (v := (.slice V.ca V.cs.length V.cc)) (fun q => load_at (fun w => by kernel_rfl) (keep q.bel c2)) rfl⟩
        | false =>
          exact .inr ⟨unwanted_by 14 true (by kernel_rfl) (show a.eval (.tmp 14) = (.bool (true && false)) from hk.slot 14 (by kernel_rfl)), rfl⟩
      | false =>
        exact .inr ⟨unwanted_by 14 true (by kernel_rfl) (show a.eval (.tmp 14) = (.bool (false && g2)) from hk.slot 14 (by kernel_rfl)), rfl⟩
    · -- slot 17
      cases g1 with
      | true =>
        cases g2 with
        | true =>
          exact .inl ⟨wanted_by 14 true (by kernel_rfl) (show a.eval (.tmp 14) = (.bool (true && true)) from hk.slot 14 (by kernel_rfl)), q_len rfl (by kernel_rfl) (show a.eval (.tmp 16) = (.slice V.ca V.cs.length V.cc) from hk.slot 16 (by kernel_rfl)) rfl⟩
        | false =>
          exact .inr ⟨unwanted_by 14 true (by kernel_rfl) (show a.eval (.tmp 14) = (.bool (true && false)) from hk.slot 14 (by kernel_rfl)), rfl⟩
      | false =>
        exact .inr ⟨unwanted_by 14 true (by kernel_rfl) (show a.eval (.tmp 14) = (.bool (false && g2)) from hk.slot 14 (by kernel_rfl)), rfl⟩
    · -- slot 18
      cases g1 with
      | true =>
        cases g2 with
        | true =>
          exact .inl ⟨wanted_by 14 true (by kernel_rfl) (show a.eval (.tmp 14) = (.bool (true && true)) from hk.slot 14 (by kernel_rfl)), q_bin rfl (show a.eval (.tmp 17) = (.int .i64 (V.cs.length : Int)) from hk.slot 17 (by kernel_rfl)) rfl (v := .bool (decide (((V.cs.length : Int) : Int) ≤ 8))) (fun w => by kernel_rfl) (congrArg Value.bool (hg3.out))⟩
        | false =>
          exact .inr ⟨unwanted_by 14 true (by kernel_rfl) (show a.eval (.tmp 14) = (.bool (true && false)) from hk.slot 14 (by kernel_rfl)), rfl⟩
      | false =>
        exact .inr ⟨unwanted_by 14 true (by kernel_rfl) (show a.eval (.tmp 14) = (.bool (false && g2)) from hk.slot 14 (by kernel_rfl)), rfl⟩
    · -- slot 19
      cases g1 with
      | true =>
        cases g2 with
        | true =>
          exact .inl ⟨wanted_free rfl, q_pick rfl true (show a.eval (.tmp 14) = (.bool (true && true)) from hk.slot 14 (by kernel_rfl)) (show a.eval (.tmp 18) = (.bool g3) from hk.slot 18 (by kernel_rfl))⟩
        | false =>
          exact .inl ⟨wanted_free rfl, q_pick rfl false (show a.eval (.tmp 14) = (.bool (true && false)) from hk.slot 14 (by kernel_rfl)) rfl⟩
      | false =>
        exact .inl ⟨wanted_free rfl, q_pick rfl false (show a.eval (.tmp 14) = (.bool (false && g2)) from hk.slot 14 (by kernel_rfl)) rfl⟩
    · -- slot 20
      exact .inl ⟨wanted_free rfl, q_move (.tmp 19) rfl (show a.eval (.tmp 19) = (.bool ((g1 && g2) && g3)) from hk.slot 19 (by kernel_rfl))⟩
    · -- slot 21
      cases g1 with
      | true =>
        cases g2 with
        | true =>
          cases g3 with
          | true =>
            exact .inl ⟨wanted_by 20 true (by kernel_rfl) (show a.eval (.tmp 20) = (.bool ((true && true) && true)) from hk.slot 20 (by kernel_rfl)), q_field (.tmp 1) rfl (show a.eval (.tmp 1) = (.pointer (some ⟨w.heap.size, 0, none⟩)) from hk.old 1 (by kernel_rfl) (by kernel_rfl)) (v := (.pointer (some ⟨w.heap.size, 1, none⟩))) (fun w => by kernel_rfl) rfl⟩
          | false =>
            exact .inr ⟨unwanted_by 20 true (by kernel_rfl) (show a.eval (.tmp 20) = (.bool ((true && true) && false)) from hk.slot 20 (by kernel_rfl)), rfl⟩
        | false =>
          exact .inr ⟨unwanted_by 20 true (by kernel_rfl) (show a.eval (.tmp 20) = (.bool ((true && false) && g3)) from hk.slot 20 (by kernel_rfl)), rfl⟩
      | false =>
        exact .inr ⟨unwanted_by 20 true (by kernel_rfl) (show a.eval (.tmp 20) = (.bool ((false && g2) && g3)) from hk.slot 20 (by kernel_rfl)), rfl⟩
    · -- slot 22
      cases g1 with
      | true =>
        cases g2 with
        | true =>
          cases g3 with
          | true =>
            exact .inl ⟨wanted_by 20 true (by kernel_rfl) (show a.eval (.tmp 20) = (.bool ((true && true) && true)) from hk.slot 20 (by kernel_rfl)), q_load (.tmp 21) rfl (show a.eval (.tmp 21) = (.pointer (some ⟨w.heap.size, 1, none⟩)) from hk.slot 21 (by kernel_rfl)) (v := (.slice V.pa V.ps.length V.pc)) (fun q => load_at (fun w => by kernel_rfl) (keep q.bel c1)) rfl⟩
          | false =>
            exact .inr ⟨unwanted_by 20 true (by kernel_rfl) (show a.eval (.tmp 20) = (.bool ((true && true) && false)) from hk.slot 20 (by kernel_rfl)), rfl⟩
        | false =>
          exact .inr ⟨unwanted_by 20 true (by kernel_rfl) (show a.eval (.tmp 20) = (.bool ((true && false) && g3)) from hk.slot 20 (by kernel_rfl)), rfl⟩
      | false =>
        exact .inr ⟨unwanted_by 20 true (by kernel_rfl) (show a.eval (.tmp 20) = (.bool ((false && g2) && g3)) from hk.slot 20 (by kernel_rfl)), rfl⟩
    · -- slot 23
      cases g1 with
      | true =>
        cases g2 with
        | true =>
          cases g3 with
          | true =>
            exact .inl ⟨wanted_by 20 true (by kernel_rfl) (show a.eval (.tmp 20) = (.bool ((true && true) && true)) from hk.slot 20 (by kernel_rfl)), q_move (.tmp 3) rfl (show a.eval (.tmp 3) = (.func (.func 111) #[] #[]) from hk.old 3 (by kernel_rfl) (by kernel_rfl))⟩
          | false =>
            exact .inr ⟨unwanted_by 20 true (by kernel_rfl) (show a.eval (.tmp 20) = (.bool ((true && true) && false)) from hk.slot 20 (by kernel_rfl)), rfl⟩
        | false =>
          exact .inr ⟨unwanted_by 20 true (by kernel_rfl) (show a.eval (.tmp 20) = (.bool ((true && false) && g3)) from hk.slot 20 (by kernel_rfl)), rfl⟩
      | false =>
        exact .inr ⟨unwanted_by 20 true (by kernel_rfl) (show a.eval (.tmp 20) = (.bool ((false && g2) && g3)) from hk.slot 20 (by kernel_rfl)), rfl⟩
    · -- slot 24
      cases g1 with
      | true =>
        cases g2 with
        | true =>
          cases g3 with
          | true =>
            exact .inl ⟨wanted_by 20 true (by kernel_rfl) (show a.eval (.tmp 20) = (.bool ((true && true) && true)) from hk.slot 20 (by kernel_rfl)), q_call rfl rfl #[(.slice V.pa V.ps.length V.pc), (.func (.func 111) #[] #[])] (fun w => by kernel_rfl) (by simp only [List.map_toArray, List.map_cons, List.map_nil, (show a.eval (.tmp 22) = (.slice V.pa V.ps.length V.pc) from hk.slot 22 (by kernel_rfl)), (show a.eval (.tmp 23) = (.func (.func 111) #[] #[]) from hk.slot 23 (by kernel_rfl))]) (v := (.bool h4)) (fun q => HD.out q) rfl⟩
          | false =>
            exact .inr ⟨unwanted_by 20 true (by kernel_rfl) (show a.eval (.tmp 20) = (.bool ((true && true) && false)) from hk.slot 20 (by kernel_rfl)), rfl⟩
        | false =>
          exact .inr ⟨unwanted_by 20 true (by kernel_rfl) (show a.eval (.tmp 20) = (.bool ((true && false) && g3)) from hk.slot 20 (by kernel_rfl)), rfl⟩
      | false =>
        exact .inr ⟨unwanted_by 20 true (by kernel_rfl) (show a.eval (.tmp 20) = (.bool ((false && g2) && g3)) from hk.slot 20 (by kernel_rfl)), rfl⟩
    · -- slot 25
      cases g1 with
      | true =>
        cases g2 with
        | true =>
          cases g3 with
          | true =>
            exact .inl ⟨wanted_by 20 true (by kernel_rfl) (show a.eval (.tmp 20) = (.bool ((true && true) && true)) from hk.slot 20 (by kernel_rfl)), q_not rfl _ (show a.eval (.tmp 24) = (.bool h4) from hk.slot 24 (by kernel_rfl)) rfl⟩
          | false =>
            exact .inr ⟨unwanted_by 20 true (by kernel_rfl) (show a.eval (.tmp 20) = (.bool ((true && true) && false)) from hk.slot 20 (by kernel_rfl)), rfl⟩
        | false =>
          exact .inr ⟨unwanted_by 20 true (by kernel_rfl) (show a.eval (.tmp 20) = (.bool ((true && false) && g3)) from hk.slot 20 (by kernel_rfl)), rfl⟩
      | false =>
        exact .inr ⟨unwanted_by 20 true (by kernel_rfl) (show a.eval (.tmp 20) = (.bool ((false && g2) && g3)) from hk.slot 20 (by kernel_rfl)), rfl⟩
    · -- slot 26
      cases g1 with
      | true =>
        cases g2 with
        | true =>
          cases g3 with
          | true =>
            exact .inl ⟨wanted_free rfl, q_pick rfl true (show a.eval (.tmp 20) = (.bool ((true && true) && true)) from hk.slot 20 (by kernel_rfl)) (show a.eval (.tmp 25) = (.bool (!h4)) from hk.slot 25 (by kernel_rfl))⟩
          | false =>
            exact .inl ⟨wanted_free rfl, q_pick rfl false (show a.eval (.tmp 20) = (.bool ((true && true) && false)) from hk.slot 20 (by kernel_rfl)) rfl⟩
        | false =>
          exact .inl ⟨wanted_free rfl, q_pick rfl false (show a.eval (.tmp 20) = (.bool ((true && false) && g3)) from hk.slot 20 (by kernel_rfl)) rfl⟩
      | false =>
        exact .inl ⟨wanted_free rfl, q_pick rfl false (show a.eval (.tmp 20) = (.bool ((false && g2) && g3)) from hk.slot 20 (by kernel_rfl)) rfl⟩
    · -- slot 2
      exact .inl ⟨wanted_free rfl, q_assign (.tmp 26) rfl (show a.eval (.tmp 26) = (.bool (((g1 && g2) && g3) && (!h4))) from hk.slot 26 (by kernel_rfl))⟩
  intro a ⟨w3, hb3⟩ hsame hall
  have he := act_same hsame [4, 5, 6, 7, 8, 9, 10, 11, 12, 13, 14, 15, 16, 17, 18, 19, 20, 21, 22, 23, 24, 25, 26, 2] (by kernel_rfl)
  simp only [List.foldl_cons, List.foldl_nil] at he
  rw [show a.eval (.tmp 2) = (.bool R) from (hall 2 (by kernel_rfl)).trans (congrArg Value.bool hR.out.symm)] at he
  generalize a.eval (.tmp 4) = x4 at he
  generalize a.eval (.tmp 5) = x5 at he
  generalize a.eval (.tmp 6) = x6 at he
  generalize a.eval (.tmp 7) = x7 at he
  generalize a.eval (.tmp 8) = x8 at he
  generalize a.eval (.tmp 9) = x9 at he
  generalize a.eval (.tmp 10) = x10 at he
  generalize a.eval (.tmp 11) = x11 at he
  generalize a.eval (.tmp 12) = x12 at he
  generalize a.eval (.tmp 13) = x13 at he
  generalize a.eval (.tmp 14) = x14 at he
  generalize a.eval (.tmp 15) = x15 at he
  generalize a.eval (.tmp 16) = x16 at he
  generalize a.eval (.tmp 17) = x17 at he
  generalize a.eval (.tmp 18) = x18 at he
  generalize a.eval (.tmp 19) = x19 at he
  generalize a.eval (.tmp 20) = x20 at he
  generalize a.eval (.tmp 21) = x21 at he
  generalize a.eval (.tmp 22) = x22 at he
  generalize a.eval (.tmp 23) = x23 at he
  generalize a.eval (.tmp 24) = x24 at he
  generalize a.eval (.tmp 25) = x25 at he
  generalize a.eval (.tmp 26) = x26 at he
  simp only [put_lit] at he
  dsimp only [List.set_cons_zero, List.set_cons_succ] at he
  subst he
  clear hsame hall
  go_wp2_with fail
  go_ret
  exact ⟨rfl, HB0.out.trans (hb3.mono HB0.out.size)⟩
end Go.Proofs.YtlholdllibghbaaGreat

/- config.Channel: walked. -/
namespace Go.Proofs.YtlholdllibghbaaGreat
open Go Go.RowKit Go.Cit

@[reducible] def cA5 (x : Ch) : Array Value := #[.int .i64 x.id.1, .int .i64 x.src.1, .int .i64 x.dst.1, .int .i64 x.cap.1, .int .i64 x.size.1]
theorem rowCh : RowType Tryz.prog 48 5 := ⟨⟨_, Tryz.underlying48, rfl⟩, by kernel_rfl⟩
end Go.Proofs.YtlholdllibghbaaGreat

/- region.pairs: its iterator; region.All: walked. -/
namespace Go.Cit
open Go Go.RowKit

structure KCells (W W' : World) : Prop where
  size : W.heap.size ≤ W'.heap.size
  cells : ∀ (k : Nat) (C : Array Value) (T : TypeId) (fr : Nat × Nat), W.heap[k]? = some (.cells C T fr) → W'.heap[k]? = some (.cells C T fr)
theorem KCells.refl (W : World) : KCells W W := ⟨Nat.le_refl _, fun _ _ _ _ h => h⟩
theorem KCells.trans {A B C : World} (h : KCells A B) (k : KCells B C) : KCells A C := ⟨Nat.le_trans h.size k.size, fun _ _ _ _ x => k.cells _ _ _ _ (h.cells _ _ _ _ x)⟩
theorem KCells.of {A B : World} (h : Below A.heap.size A B) : KCells A B := ⟨h.size, fun k _ _ _ x => (h.block k (Array.getElem?_eq_some_iff.1 x).1).trans x⟩
theorem KCells.alloc (W : World) (o : Obj) : KCells W (W.alloc o) := .of ((Below.refl _ _).alloc (Nat.le_refl _) _)
theorem KCells.put {w W : World} {l : Nat} {o o' : Obj} (h : W.heap[l]? = some o) (hc : o.isCells = false) : KCells W (W.putObj l o') := by
  refine ⟨by simp, fun k C T fr x => ?_⟩
  by_cases e : k = l
  · subst e; rw [h] at x; cases x; cases hc
  · exact (World.putObj_heap_other e).trans x
theorem KCells.cell {A B : World} (h : KCells A B) {p : Addr} {v : Value} (hp : A.cell? p = some v) : B.cell? p = some v := by
  unfold World.cell? at hp ⊢
  split at hp
  · rename_i C e fr hk
    rw [h.cells _ _ _ _ hk]; exact hp
  · exact absurd hp (by simp)
theorem Vec.kc {α : Type} {f : α → List Value} {n : Nat} {w w' : World} {a : Option Addr} {l : List α} {c : Nat} (h : Vec f n w a l c) (hf : ∀ x, (f x).length = n) (k : KCells w w') : Vec f n w' a l c := by
  refine ⟨h.le, h.top, h.nil, h.spot, fun i hi j hj => ?_⟩
  have e := h.cell i hi j hj
  have hj' : j < (f l[i]).length := by rw [hf]; exact hj
  rw [List.getElem?_eq_getElem hj'] at e ⊢
  exact k.cell e
theorem Vec.from_ {P : Program} {T E : TypeId} {n by_ : Nat} {z : Value} {α : Type} {f : α → List Value} (hE : ElemType P T E n by_ z) {w : World} {a : Option Addr} {cap : Nat} {l : List α} (h : Vec f n w a l cap) (lo : Nat) (h1 : lo ≤ l.length) : ∃ a' m cap', m = l.drop lo ∧
    (∀ w, (Instr.sliceAt T (.slice a l.length cap) (some (.int .i64 (lo : Int))) none none).run P w = .ok (.slice a' m.length cap') w) ∧ Vec f n w a' m cap' := by
  have hT := hE.slice
  have he : P.elem T = E := by simp [Program.elem, hT]
  have hle := h.le
  have htop := h.top
  have hlen : (l.drop lo).length = l.length - lo := List.length_drop
  refine ⟨if cap = lo then a else a.map (·.add (lo * n)), _, cap - lo, rfl, fun w => ?_, by omega, by omega, fun hn => ?_, fun hne => ?_, fun i hi j hj => ?_⟩
  · rw [run_sliceAt_slice _ _ _ _ _ _ (by rw [he]; exact hT), run_slice_l w T a _ _ (by rw [he]; exact hT) .i64 lo (by omega) (by omega), he, hE.sz]
    simp [Result.andThen, sliced]
  · split at hn
    · omega
    · have := h.nil (by simpa using hn); omega
  · have hlt : lo < l.length := by
      rcases Nat.lt_or_ge lo l.length with h | h
      · exact h
      · exact absurd (List.eq_nil_of_length_eq_zero (by omega)) hne
    obtain ⟨b, off, rfl⟩ := h.spot (by intro h0; simp [h0] at hlt)
    rw [if_neg (by omega)]
    refine ⟨b, off + lo * n, ?_⟩
    by_cases h0 : lo * n = 0
    · simp [Addr.add, h0]
    · simp [Addr.add, h0]
  · have hl : lo + i < l.length := by omega
    obtain ⟨b, off, rfl⟩ := h.spot (by intro h0; simp [h0] at hl)
    rw [if_neg (by omega)]
    have hc := h.cell (lo + i) hl j hj
    have e : ad (Option.map (·.add (lo * n)) (some (⟨b, off, none⟩ : Addr))) (i * n + j) = ad (some ⟨b, off, none⟩) ((lo + i) * n + j) := by
      rw [Nat.add_mul]
      by_cases h0 : lo * n = 0
      · simp [Addr.add, ad, h0]
      · simp [Addr.add, ad, h0, Nat.add_assoc]
    rw [e, hc]
    simp
end Go.Cit
namespace Go.Proofs.YtlholdllibghbaaGreat
open Go Go.RowKit Go.Cit Go.Shelf
attribute [local go_sem] Oper.semAt_some

def pairsL : List Reg → List (Reg × Reg)
  | [] => []
  | a :: r => r.map (fun b => (a, b)) ++ pairsL r
theorem pairsL_drop (l : List Reg) (k : Nat) (h : k < l.length) : pairsL (l.drop k) = (l.drop (k + 1)).map (fun b => (l[k], b)) ++ pairsL (l.drop (k + 1)) := by
  rw [List.drop_eq_getElem_cons h]; rfl

theorem regs_cells {w w' : World} {a : Option Addr} {l : List Reg} {c : Nat} (h : Vec cReg 2 w a l c) (hb : KCells w w') (k : Nat) (hk : k < l.length) :
    w'.cell? (ad a (k * 2)) = some (.int .i64 l[k].base.1) ∧ w'.cell? ⟨(ad a (k * 2)).block, (ad a (k * 2)).off + 1, none⟩ = some (.int .i64 l[k].size.1) := by
  have h := h.kc cReg_len hb
  exact ⟨h.field0 k hk (by decide) rfl, h.field k hk 1 (by decide) rfl⟩

set_option maxRecDepth 100000 in
set_option maxHeartbeats 2000000 in
theorem pairs1_in (m L Bn : Nat) (a : Option Addr) (l : List Reg) (c : Nat) (J Jx : List (Reg × Reg) → World → Prop) (hJ : ∀ s W o, J s W → J s (W.alloc o))
    (hY : ∀ pre x W, J pre W → pre.length < (pairsL l).length → YieldAt Fence.wide (m - 1) Tryz.prog L #[.agg #[.int .i64 x.1.base.1, .int .i64 x.1.size.1], .agg #[.int .i64 x.2.base.1, .int .i64 x.2.size.1]] W fun e W' =>
      (e = .returned (.bool true) ∧ J (pre ++ [x]) W' ∧ KCells W W') ∨ (e = .returned (.bool false) ∧ Jx (pre ++ [x]) W'))
    (W : World) (hc : W.cell? ⟨Bn, 0, none⟩ = some (.slice a l.length c)) (hv : Vec cReg 2 W a l c) (h0 : J [] W) :
    CallsIn Fence.wide m Tryz.prog 262 #[.func (.yield L) #[] #[], .pointer (some ⟨Bn, 0, none⟩)] W fun e W' => (∃ v, e = .returned v) ∧
      ((∃ ys, ys = pairsL l ∧ J ys W') ∨ (∃ pre, pre <+: pairsL l ∧ Jx pre W')) := by
  have hlen := hv.len_le
  have HV := Lib.hid hv
  have HJ := Lib.hid hJ
  have HY := Lib.hid hY
  have HC := Lib.hid hc
  clear hJ hY hv
  refine callsIn_of_wp Tryz.func262 rfl trivial ?_ rfl
  simp only [Tryz.ntmps262, List.size_toArray, List.length_cons, List.length_nil, Nat.reduceAdd, Nat.reduceSub, Array.replicate_succ, Array.replicate_zero, List.push_toArray, List.append_toArray, List.nil_append, List.cons_append]
  gi_wp2
  gi_loopw [9] (fun s wr => ∃ (k : Nat) (pre : List (Reg × Reg)), s = .int .i64 k ∧ k ≤ l.length ∧ Hid (pre ++ pairsL (l.drop k) = pairsL l) ∧ KCells W wr ∧ J pre wr) (fun s _ => l.length - (intOf s).toNat)
  case atStart => exact ⟨0, [], rfl, Nat.zero_le _, rfl, KCells.refl _, h0⟩
  case round =>
    obtain ⟨k, pre, rfl, hk, HP, hK, hJs⟩ := hrel
    by_cases hlt : k < l.length
    · have i0 := HV.out.index etR k hlt
      obtain ⟨d0, d1⟩ := regs_cells HV.out hK k hlt
      have hcc := hK.cell HC.out
      have hbn : Bn < wr.heap.size := World.block_lt_of_cell? wr _ hcc
      have hbn2 : Bn ≠ wr.heap.size := by omega
      obtain ⟨a2, m2, c2, hm2, hrun2, v2⟩ := HV.out.from_ etR (k + 1) hlt
      rw [show ((k + 1 : Nat) : Int) = (k : Int) + 1 from rfl] at hrun2
      have HPD := Lib.hid (pairsL_drop l k hlt)
      obtain ⟨x, hx⟩ : ∃ x : Reg, Hid (x = l[k]) := ⟨l[k], rfl⟩
      rw [← hx.out] at d0 d1 HPD
      have HM2 := Lib.hid hm2
      have HV2 := Lib.hid v2
      have hl2 := v2.len_le
      obtain ⟨wk, hwk⟩ : ∃ wk, wk = wr.alloc (.cells #[.int .i64 x.base.1, .int .i64 x.size.1] 44) := ⟨_, rfl⟩
      have hKk : KCells W wk := by rw [hwk]; exact hK.trans (KCells.alloc _ _)
      have hJk : J pre wk := by rw [hwk]; exact HJ.out _ _ _ hJs
      have hcx := box2 wr (.int .i64 x.base.1) (.int .i64 x.size.1) 44
      rw [← hwk] at hcx
      have hcc2 : wk.cell? ⟨Bn, 0, none⟩ = some (.slice a l.length c) := by rw [hwk]; exact keepA _ hcc
      have HKk := Lib.hid (And.intro hKk (And.intro hJk hcx))
      clear hm2 v2 hKk hJk hcx
      gi_wp2
      rw [← hwk]
      clear hwk
      gi_loopw [19] (fun s wx => ∃ (m : Nat) (pre' : List (Reg × Reg)), s = .int .i64 m ∧ m ≤ m2.length ∧ Hid (pre' ++ ((m2.drop m).map (fun b => (x, b)) ++ pairsL (l.drop (k + 1))) = pairsL l) ∧ KCells wk wx ∧ J pre' wx) (fun s _ => m2.length - (intOf s).toNat)
      case atStart => exact ⟨0, pre, rfl, Nat.zero_le _, by rw [Hid, List.drop_zero, HM2.out, ← HPD.out]; exact HP.out, KCells.refl _, HKk.out.2.1⟩
      case round =>
        obtain ⟨t, pre', rfl, ht, HP2, hK2, hJ2⟩ := hrel
        by_cases hlt2 : t < m2.length
        · have j0 := HV2.out.index etR t hlt2
          obtain ⟨e0, e1⟩ := regs_cells HV2.out (HKk.out.1.trans hK2) t hlt2
          have x0 := hK2.cell HKk.out.2.2.1
          have x1 := hK2.cell HKk.out.2.2.2
          obtain ⟨y, hy⟩ : ∃ y : Reg, Hid (y = m2[t]) := ⟨m2[t], rfl⟩
          rw [← hy.out] at e0 e1
          have HP3 : Hid ((pre' ++ [(x, y)]) ++ ((m2.drop (t + 1)).map (fun b => (x, b)) ++ pairsL (l.drop (k + 1))) = pairsL l) := by
            rw [Hid, ← HP2.out, List.drop_eq_getElem_cons hlt2, hy.out, List.map_cons, List.append_assoc]; rfl
          have HLN : Hid (pre'.length < (pairsL l).length) := by rw [Hid, ← HP3.out]; simp
          have HPX : Hid ((pre' ++ [(x, y)]) <+: pairsL l) := ⟨_, HP3.out⟩
          have hKa := KCells.alloc wr (.cells #[.int .i64 y.base.1, .int .i64 y.size.1] 44)
          have x0' := keepA (.cells #[.int .i64 y.base.1, .int .i64 y.size.1] 44) x0
          have x1' := keepA (.cells #[.int .i64 y.base.1, .int .i64 y.size.1] 44) x1
          obtain ⟨fn, tmps, assign, body, hyy, hR⟩ := HY.out pre' (x, y) (wr.alloc (.cells #[.int .i64 y.base.1, .int .i64 y.size.1] 44)) (HJ.out _ _ _ hJ2) HLN.out
          dsimp only at hyy
          have HKa := Lib.hid (hK2.trans hKa)
          clear hKa hK2 hJ2
          gi_wp2
          refine ⟨fun h => (by cases h), hR.mono ?_⟩
          rintro e W3 (⟨rfl, hJ3, hk3⟩ | ⟨rfl, hJx3⟩)
          · gi_wp2
            go_roundw
            case rel => exact ⟨t + 1, pre' ++ [(x, y)], by go_num, by omega, HP3.out, HKa.out.trans hk3, hJ3⟩
            case measure => simp [intOf]; omega
          · gi_wp2
            refine bodyPost_ret (results_none rfl _ _ _) rfl ?_
            exact ⟨⟨_, rfl⟩, .inr ⟨pre' ++ [(x, y)], HPX.out, hJx3⟩⟩
        · have ht2 : t = m2.length := by omega
          have HP3 : Hid (pre' ++ pairsL (l.drop (k + 1)) = pairsL l) := by
            have := HP2.out
            rw [ht2, List.drop_length] at this
            rw [Hid]
            simpa using this
          clear ht2
          gi_wp2
          go_roundw
          case rel => exact ⟨k + 1, pre', by go_num, by omega, HP3.out, HKk.out.1.trans hK2, hJ2⟩
          case measure => simp [intOf]; omega
    · have hk2 : k = l.length := by omega
      have HE : Hid (pre = pairsL l) := by
        have := HP.out
        rw [hk2, List.drop_length] at this
        rw [Hid]
        simpa [pairsL] using this
      clear hk2
      gi_wp2
      go_end0
      exact ⟨⟨_, rfl⟩, .inl ⟨pre, HE.out, hJs⟩⟩

theorem boxed_stay {W W' : World} {B : Nat} {t : TypeId} {v : Value} (h : Boxed W B t v) (hb : Below W.heap.size W W') : Boxed W' B t v := (hb.block B h.lt).trans h
theorem heap_own {X Y : World} {row : Option Nat} {k : Nat} {C : Array Value} {T : TypeId} {fr : Nat × Nat} (h : X.heap[k]? = some (.cells C T fr)) (hg : X.grownBy Y row) (hr : ∀ r, row = some r → ∃ o : Obj, X.heap[r]? = some o ∧ o.isCells = false) : Y.heap[k]? = some (.cells C T fr) :=
  (hg.block k (Array.getElem?_eq_some_iff.1 h).1 (fun e => by obtain ⟨o, ho, hc⟩ := hr k e.symm; rw [h] at ho; cases ho; cases hc)).trans h
theorem pairs_calls (w : World) (a : Option Addr) (l : List Reg) (c : Nat) : Calls Tryz.prog 258 #[.slice a l.length c] w fun e w' =>
    e = .returned (.func (.func 262) #[] #[.pointer (some ⟨w.heap.size, 0, none⟩)]) ∧ w' = w.alloc (.cells #[.slice a l.length c] 279) := by
  go_enter Tryz.func258, Tryz.ntmps258
  go_wp2_with fail
  go_ret
  exact ⟨rfl, rfl⟩

def regAll (l : List Reg) : Int := if l.all mayR then (if (pairsL l).all (fun p => apartR p.1 p.2) then 0 else 121) else 2
theorem pairs_stops (m : Nat) (Bn : Nat) (a : Option Addr) (l : List Reg) (c : Nat) (w : World) (hc : w.cell? ⟨Bn, 0, none⟩ = some (.slice a l.length c)) (hv : Vec cReg 2 w a l c) :
    SeqStopsK Fence.wide m Tryz.prog 262 #[.pointer (some ⟨Bn, 0, none⟩)] (fun x : Reg × Reg => #[.agg #[.int .i64 x.1.base.1, .int .i64 x.1.size.1], .agg #[.int .i64 x.2.base.1, .int .i64 x.2.size.1]]) KCells (fun ys => ys = pairsL l) (fun pre => pre <+: pairsL l) (pairsL l).length w :=
  fun L J Jx W hW hJ _ hY h0 => pairs1_in m L Bn a l c J Jx (fun s A o h => hJ s A _ none h (World.grownBy_alloc A o none) (fun r e => by cases e)) hY W (keep hW hc) (hv.stay cReg_len hW) h0

set_option maxRecDepth 100000 in
set_option maxHeartbeats 4000000 in
theorem rall_calls (w : World) (a : Option Addr) (l : List Reg) (c : Nat) (h : Vec cReg 2 w a l c) : Calls Tryz.prog 251 #[.slice a l.length c] w fun e w' => e = .returned (.int .i64 (regAll l)) ∧ Below w.heap.size w w' := by
  obtain ⟨R, HR⟩ : ∃ R, Hid (R = regAll l) := ⟨_, rfl⟩
  rw [← HR.out]
  have hlen := h.len_le
  have HH := Lib.hid h
  clear h
  refine (callsIn_wide (n := 6)).1 ?_
  refine callsIn_of_wp_marks Tryz.func251 rfl trivial ?_ rfl
  simp only [Tryz.ntmps251, List.size_toArray, List.length_cons, List.length_nil, Nat.reduceAdd, Nat.reduceSub, Array.replicate_succ, Array.replicate_zero, List.push_toArray, List.append_toArray, List.nil_append, List.cons_append]
  obtain ⟨w0, hw0⟩ : ∃ w0, w0 = w.alloc (.cells #[.int .i64 0] 33) := ⟨_, rfl⟩
  have hB0 : Below w.heap.size w w0 := by rw [hw0]; exact (Below.refl _ w).alloc (Nat.le_refl _) _
  have bR0 : Boxed w0 w.heap.size 33 (.int .i64 0) := by rw [hw0]; exact Boxed.new w _ _
  have hsz0 : w0.heap.size = w.heap.size + 1 := by rw [hw0]; simp
  have HV0 := Lib.hid (HH.out.stay cReg_len hB0)
  gi_wp2
  rw [← hw0]
  clear hw0
  gi_loopw [9] (fun s wr => ∃ k : Nat, s = .int .i64 k ∧ k ≤ l.length ∧ Hid ((l.take k).all mayR = true) ∧ Below w0.heap.size w0 wr) (fun s _ => l.length - (intOf s).toNat)
  case atStart => exact ⟨0, rfl, Nat.zero_le _, rfl, Below.refl _ _⟩
  case round =>
    obtain ⟨k, rfl, hk, ha, B⟩ := hrel
    by_cases hlt : k < l.length
    · have i0 := HV0.out.index etR k hlt
      obtain ⟨d0, d1⟩ := regs_cells HV0.out (KCells.of B) k hlt
      have HT := Lib.hid (all_take mayR l k hlt)
      have HNT := Lib.hid (all_not mayR l k hlt)
      obtain ⟨x, hx⟩ : ∃ x : Reg, Hid (x = l[k]) := ⟨l[k], rfl⟩
      rw [← hx.out] at d0 d1 HT HNT
      have HC := Lib.hid (fun w => rmay_calls w x)
      have HB : Hid (∀ C, Below w0.heap.size w0 (wr.alloc (.cells C 44))) := fun C => B.alloc B.size _
      have bR := bR0.kept (show w0.grownBy wr none from ⟨B.os, B.tape, B.output, B.size, fun k hk _ => B.block k hk⟩) (by simp)
      cases hq : mayR x with
      | true =>
        rw [hq] at HC
        have HA : Hid ((l.take (k + 1)).all mayR = true) := by rw [Hid, HT.out, ha.out, hq]; rfl
        clear hq
        gi_wp2_with (refine ⟨trivial, ?_⟩; gi_at_call 180; refine (callsIn_wide.2 (HC.out _)).mono ?_; rintro e w2 ⟨rfl, hb2⟩)
        go_roundw
        case rel => exact ⟨k + 1, by go_num, by omega, HA.out, (HB.out _).trans (hb2.mono (HB.out _).size)⟩
        case measure => simp [intOf]; omega
      | false =>
        rw [hq] at HC
        have HF : Hid (R = 2) := by rw [Hid, HR.out, regAll, HNT.out hq]; rfl
        clear hq
        have bRa := boxed_stay bR ((Below.refl _ wr).alloc (Nat.le_refl _) (.cells #[.int .i64 x.base.1, .int .i64 x.size.1] 44))
        clear bR
        gi_wp2_with (refine ⟨trivial, ?_⟩; gi_at_call 180; refine (callsIn_wide.2 (HC.out _)).mono ?_; rintro e w2 ⟨rfl, hb2⟩; have bR2 := boxed_stay bRa hb2; have cR := bR2.cell; have fR := bR2.frozen)
        refine ⟨.int .i64 2, ?_, ret_int HF.out.symm, ?_⟩
        · simp [results, Tryz.f251, go_sem, (bR2.set (.int .i64 2)).cell]
        · exact ((hB0.trans ((HB.out _).mono hB0.size)).trans (hb2.mono (by have := hB0.size; have := (HB.out #[.int .i64 x.base.1, .int .i64 x.size.1]).size; omega))).setCell (p := ⟨w.heap.size, 0, none⟩) (Nat.le_refl _) _
    · have hk2 : k = l.length := by omega
      have HA : Hid (l.all mayR = true) := by have := ha.out; rw [hk2, List.take_length] at this; exact this
      clear hk2
      gi_wp2_with (refine ⟨trivial, ?_⟩; gi_at_call 258; refine (callsIn_wide.2 (pairs_calls _ _ _ _)).mono ?_; rintro e w2 ⟨rfl, rfl⟩)
      have hBr : Below w.heap.size w wr := hB0.trans (B.mono hB0.size)
      have hB3 : Below w.heap.size w (wr.alloc (.cells #[.slice a l.length c] 279)) := hBr.alloc hBr.size _
      have hsz3 : (wr.alloc (.cells #[.slice a l.length c] 279)).heap.size = wr.heap.size + 1 := by simp
      have bR3 := boxed_stay (boxed_stay bR0 B) ((Below.refl _ wr).alloc (Nat.le_refl _) (.cells #[.slice a l.length c] 279))
      have hV3 := HH.out.stay cReg_len (hB3.mono (Nat.le_refl _))
      have hC3 : (wr.alloc (.cells #[.slice a l.length c] 279)).cell? ⟨wr.heap.size, 0, none⟩ = some (.slice a l.length c) := by rw [World.cell?, heap_alloc_new]; rfl
      obtain ⟨w3, hw3⟩ : ∃ w3, w3 = wr.alloc (.cells #[.slice a l.length c] 279) := ⟨_, rfl⟩
      have hlr := hBr.size
      rw [← hw3] at hB3 hsz3 bR3 hV3 hC3 ⊢
      clear hw3
      have HRA : Hid (R = (if (pairsL l).all (fun p => apartR p.1 p.2) then 0 else 121)) := by rw [Hid, HR.out, regAll, HA.out]; rfl
      refine wpIn_rangeFunc_ownH rfl (by decide) (gf := 262) (lb := #[.pointer (some ⟨wr.heap.size, 0, none⟩)]) rfl trivial (enters_of Tryz.func262 (by kernel_rfl) rfl)
        (pairs_stops (6 - 1) wr.heap.size a l c w3 hC3 hV3) (fun h k => KCells.trans h k) (fun W L o o' _ ho hc _ => KCells.put (w := W) ho hc) (Below.refl _ _) (fun _ => rfl)
        (fun pre W => ((∀ p ∈ pre, apartR p.1 p.2 = true) ∧ Boxed W w.heap.size 33 (.int .i64 0)) ∧ Below w.heap.size w W)
        (fun cd pre W => ((cd = .ret ∧ ∃ p ∈ pre, apartR p.1 p.2 = false) ∧ Boxed W w.heap.size 33 (.int .i64 121)) ∧ Below w.heap.size w W)
        (OwnFrom.and (OwnFrom.and (ownFrom_pure _ _) (Own.from (boxed_own _ _ _) _)) (ownFrom_below (Nat.le_refl _) hB3.size))
        (fun cd => OwnFrom.and (OwnFrom.and (ownFrom_pure _ _) (Own.from (boxed_own _ _ _) _)) (ownFrom_below (Nat.le_refl _) hB3.size))
        ⟨⟨fun p hp => by simp at hp, bR3⟩, hB3⟩
        (fun x a' W => ∃ Ba Bb, W.heap[Ba]? = some (.cells #[.int .i64 x.1.base.1, .int .i64 x.1.size.1] 44 (0, 0)) ∧ W.heap[Bb]? = some (.cells #[.int .i64 x.2.base.1, .int .i64 x.2.size.1] 44 (0, 0)) ∧
          a' = { tmps := #[.slice a l.length c, undef, .pointer (some ⟨w.heap.size, 0, none⟩), undef, u4, .pointer (some ⟨Ba, 0, none⟩), .pointer (some ⟨Bb, 0, none⟩), .slice a l.length c, .int .i64 l.length, .int .i64 k, .bool false, u11, u12, u13, u14, u15, u16, .slice a l.length c,
            .func (.func 262) #[] #[.pointer (some ⟨wr.heap.size, 0, none⟩)], .agg #[.int .i64 x.1.base.1, .int .i64 x.1.size.1], .agg #[.int .i64 x.2.base.1, .int .i64 x.2.size.1], undef, undef, undef, undef], defers := [] })
        (fun x a' _ X Y row hs hg hr => by obtain ⟨Ba, Bb, e1, e2, e3⟩ := hs; exact ⟨Ba, Bb, heap_own e1 hg (fun r e => (hr r e).2), heap_own e2 hg (fun r e => (hr r e).2), e3⟩)
        ?assign ?body ?done ?stop
      case assign =>
        rintro L pre x W K ⟨⟨hp, bR1⟩, hB1⟩ hK
        have hh1 := heap_alloc_new W (.cells #[.int .i64 x.1.base.1, .int .i64 x.1.size.1] 44)
        have hh2 := heap_alloc_new (W.alloc (.cells #[.int .i64 x.1.base.1, .int .i64 x.1.size.1] 44)) (.cells #[.int .i64 x.2.base.1, .int .i64 x.2.size.1] 44)
        have hh3 : ((W.alloc (.cells #[.int .i64 x.1.base.1, .int .i64 x.1.size.1] 44)).alloc (.cells #[.int .i64 x.2.base.1, .int .i64 x.2.size.1] 44)).heap[W.heap.size]? = some (.cells #[.int .i64 x.1.base.1, .int .i64 x.1.size.1] 44 (0, 0)) := (Below.heap_alloc _ _ _ (by simp)).trans hh1
        rw [World.size_alloc] at hh2
        have HH9 := Lib.hid (And.intro hh2 hh3)
        clear hh1 hh2 hh3
        gi_wp2
        exact hK _ _ (((KeepsOthers.alloc _ _).trans (KeepsOthers.alloc _ _)).from _) ((KCells.alloc _ _).trans (KCells.alloc _ _)) ⟨⟨hp, (bR1.alloc _).alloc _⟩, (hB1.alloc hB1.size _).alloc (by simp; have := hB1.size; omega) _⟩ ⟨_, _, HH9.out.2, HH9.out.1, rfl⟩
      case body =>
        rintro L pre x a' W hL ⟨r, hr⟩ ⟨⟨hp, bR1⟩, hB1⟩ ⟨Ba, Bb, hBa, hBb, rfl⟩ hlt2
        have a0 := cells_of hBa 0 rfl
        have a1 := cells_of hBa 1 rfl
        have b0 := cells_of hBb 0 rfl
        have b1 := cells_of hBb 1 rfl
        have HC := Lib.hid (rapart_calls W x.1 x.2)
        clear hBa hBb
        cases hq : apartR x.1 x.2 with
        | true =>
          rw [hq] at HC
          have HA2 : Hid (∀ p ∈ pre ++ [x], apartR p.1 p.2 = true) := fun p hp' => (List.mem_append.1 hp').elim (hp p) (fun e => by simp at e; subst e; exact hq)
          clear hq
          gi_wp2_with (refine ⟨trivial, ?_⟩; gi_at_call 259; refine (CallsIn.inRound L (callsIn_wide.2 HC.out)).mono ?_; rintro e w2 ⟨rfl, hb2⟩)
          exact ⟨⟨hb2.size, fun k o hk h0 ho => (hb2.block k (Array.getElem?_eq_some_iff.1 h0).1).trans h0⟩, KCells.of hb2, ⟨⟨HA2.out, boxed_stay bR1 hb2⟩, hB1.trans (hb2.mono hB1.size)⟩⟩
        | false =>
          rw [hq] at HC
          have HQ := Lib.hid hq
          clear hq
          gi_wp2_with (refine ⟨trivial, ?_⟩; gi_at_call 259; refine (CallsIn.inRound L (callsIn_wide.2 HC.out)).mono ?_; rintro e w2 ⟨rfl, hb2⟩; have bR2 := boxed_stay bR1 hb2; have cR := bR2.cell; have fR := bR2.frozen)
          exact ⟨(KeepsFrom.mk hb2.size fun k o hk h0 ho => (hb2.block k (Array.getElem?_eq_some_iff.1 h0).1).trans h0).trans ((KeepsOthers.setCell _ _ _).from _), ⟨⟨rfl, x, by simp, HQ.out⟩, bR2.set _⟩, (hB1.trans (hb2.mono hB1.size)).setCell (p := ⟨w.heap.size, 0, none⟩) (Nat.le_refl _) _⟩
      case done =>
        rintro D ys W hD rfl ⟨⟨hp, bR1⟩, hB1⟩ hK
        have cR := bR1.cell
        have fR := bR1.frozen
        have HF : Hid (R = 0) := by rw [Hid, HRA.out, if_pos (List.all_eq_true.2 hp)]
        gi_wp2
        have hK' := (KeepsOthers.setCell W ⟨w.heap.size, 0, none⟩ (.int .i64 0)).same D _ hK rfl
        refine ⟨by simp, .inl ⟨_, _, rfl, run_takeDeferred hK', ?_⟩⟩
        have hc5 := cell_kept (bR1.set (.int .i64 0)).cell (grownBy_putObj' _ D (.deferred none)) (fun r e => by cases e; exact ⟨_, hK', rfl⟩)
        refine ⟨.int .i64 0, ?_, ret_int HF.out.symm, (hB1.setCell (p := ⟨w.heap.size, 0, none⟩) (Nat.le_refl _) _).trans (belowK_b (w := w) (Nat.le_refl _) _ D _ _ (by omega) hK' rfl rfl)⟩
        simp [results, Tryz.f251, go_sem, hc5]
      case stop =>
        rintro D cd pre W hD hpre ⟨⟨⟨rfl, p, hp, hq⟩, bR1⟩, hB1⟩ hK
        have HF : Hid (R = 121) := by
          rw [Hid, HRA.out, if_neg]
          intro h
          have := List.all_eq_true.1 h p (hpre.subset hp)
          rw [hq] at this
          exact absurd this (by decide)
        gi_wp2
        refine ⟨by simp, .inl ⟨_, _, rfl, run_takeDeferred hK, ?_⟩⟩
        have hc5 := cell_kept bR1.cell (grownBy_putObj' _ D (.deferred none)) (fun r e => by cases e; exact ⟨_, hK, rfl⟩)
        refine ⟨.int .i64 121, ?_, ret_int HF.out.symm, hB1.trans (belowK_b (w := w) (Nat.le_refl _) W D _ _ (by omega) hK rfl rfl)⟩
        simp [results, Tryz.f251, go_sem, hc5]
end Go.Proofs.YtlholdllibghbaaGreat

