/- config.Can: walked. -/
import Derived.Test.YtpnbaapjjchlbaaValid
import Derived.Test.YtpnbaapjjchlbaaVals
import Derived.Deep.CutBlock
import Derived.Deep.DeepCutAuto
namespace Go.Proofs.Ytpnbaapjjchlbaa
open Go Go.RowKit Go.Cit

def longP (x : PtV) : Bool := decide (512 < x.img.length)
def canV (V : CfgV) : Bool := ((decide (V.ws.length ≤ 12) && decide (V.ps.length ≤ 6)) && decide (V.cs.length ≤ 8)) && !V.ps.any longP
set_option maxRecDepth 100000 in
set_option maxHeartbeats 1000000 in
theorem long_calls (W : World) (x : PtV) : Calls Try.prog 66 (#[.agg #[.int .i64 x.id.1, .int .i64 x.reg.base.1, .int .i64 x.reg.size.1, .bool x.keep, .slice x.a x.img.length x.c]] ++ #[]) W fun e w' => e = .returned (.bool (longP x)) ∧ Below W.heap.size W w' := by
  show Calls Try.prog 66 #[.agg #[.int .i64 x.id.1, .int .i64 x.reg.base.1, .int .i64 x.reg.size.1, .bool x.keep, .slice x.a x.img.length x.c]] W _
  obtain ⟨R, HR⟩ : ∃ R, Hid (R = longP x) := ⟨_, rfl⟩
  rw [← HR.out]
  have B0 : Below W.heap.size W (W.alloc (.cells #[.int .i64 x.id.1, .int .i64 x.reg.base.1, .int .i64 x.reg.size.1, .bool x.keep, .slice x.a x.img.length x.c] 43)) := (Below.refl _ W).alloc (Nat.le_refl _) _
  have HB0 := Lib.hid B0
  clear B0
  go_enter Try.func66, Try.ntmps66
  go_wp2_with fail
  go_ret
  exact ⟨ret_bool (by rw [HR.out]; unfold longP; exact decide_eq_decide.2 (by omega)), HB0.out⟩

def rcan (V : CfgV) (B : Nat) (g1 g2 g3 h : Bool) : Nat → Value
  | 4 => (.pointer (some ⟨B, 0, none⟩))
  | 5 => (.slice V.wa V.ws.length V.wc)
  | 6 => (.int .i64 (V.ws.length : Int))
  | 7 => (.bool g1)
  | 8 => (.bool g1)
  | 9 => (bif g1 then (.pointer (some ⟨B, 1, none⟩)) else undef)
  | 10 => (bif g1 then (.slice V.pa V.ps.length V.pc) else undef)
  | 11 => (bif g1 then (.int .i64 (V.ps.length : Int)) else undef)
  | 12 => (bif g1 then (.bool g2) else undef)
  | 13 => (.bool (g1 && g2))
  | 14 => (.bool (g1 && g2))
  | 15 => (bif (g1 && g2) then (.pointer (some ⟨B, 2, none⟩)) else undef)
  | 16 => (bif (g1 && g2) then (.slice V.ca V.cs.length V.cc) else undef)
  | 17 => (bif (g1 && g2) then (.int .i64 (V.cs.length : Int)) else undef)
  | 18 => (bif (g1 && g2) then (.bool g3) else undef)
  | 19 => (.bool ((g1 && g2) && g3))
  | 20 => (.bool ((g1 && g2) && g3))
  | 21 => (bif ((g1 && g2) && g3) then (.pointer (some ⟨B, 1, none⟩)) else undef)
  | 22 => (bif ((g1 && g2) && g3) then (.slice V.pa V.ps.length V.pc) else undef)
  | 23 => (bif ((g1 && g2) && g3) then (.func (.func 66) #[] #[]) else undef)
  | 24 => (bif ((g1 && g2) && g3) then (.bool h) else undef)
  | 25 => (bif ((g1 && g2) && g3) then (.bool (!h)) else undef)
  | 26 => (.bool (((g1 && g2) && g3) && (!h)))
  | 2 => (.bool (((g1 && g2) && g3) && (!h)))
  | _ => undef
def rcano (_ : CfgV) (B : Nat) (_ _ _ _ : Bool) : Nat → Value
  | 1 => (.pointer (some ⟨B, 0, none⟩))
  | 3 => (.func (.func 66) #[] #[])
  | _ => undef

set_option maxRecDepth 100000 in
set_option maxHeartbeats 2000000 in
theorem can_calls (w : World) (V : CfgV) (h : V.At w) : Calls Try.prog 30 #[.agg #[.slice V.wa V.ws.length V.wc, .slice V.pa V.ps.length V.pc, .slice V.ca V.cs.length V.cc]] w fun e w' => e = .returned (.bool (canV V)) ∧ Below w.heap.size w w' := by
  obtain ⟨w0, hw0⟩ : ∃ w0, w0 = w.alloc (.cells #[.slice V.wa V.ws.length V.wc, .slice V.pa V.ps.length V.pc, .slice V.ca V.cs.length V.cc] 26) := ⟨_, rfl⟩
  have B0 : Below w.heap.size w w0 := by rw [hw0]; exact (Below.refl _ w).alloc (Nat.le_refl _) _
  have hI : InBox w0 w.heap.size V := by rw [hw0]; exact inBox_new w V _
  obtain ⟨c0, c1, c2⟩ := hI
  obtain ⟨g1, hg1⟩ : ∃ g, Hid (decide ((V.ws.length : Int) ≤ 12) = g) := ⟨_, rfl⟩
  obtain ⟨g2, hg2⟩ : ∃ g, Hid (decide ((V.ps.length : Int) ≤ 6) = g) := ⟨_, rfl⟩
  obtain ⟨g3, hg3⟩ : ∃ g, Hid (decide ((V.cs.length : Int) ≤ 8) = g) := ⟨_, rfl⟩
  obtain ⟨h4, hh⟩ : ∃ g, Hid (V.ps.any longP = g) := ⟨_, rfl⟩
  obtain ⟨R, hR⟩ : ∃ R, Hid (R = (((g1 && g2) && g3) && (!h4))) := ⟨_, rfl⟩
  have HR : Hid (R = canV V) := by
    rw [Hid, hR.out, ← hg1.out, ← hg2.out, ← hg3.out, ← hh.out]
    unfold canV
    rw [show decide ((V.ws.length : Int) ≤ 12) = decide (V.ws.length ≤ 12) from decide_eq_decide.2 (by omega), show decide ((V.ps.length : Int) ≤ 6) = decide (V.ps.length ≤ 6) from decide_eq_decide.2 (by omega), show decide ((V.cs.length : Int) ≤ 8) = decide (V.cs.length ≤ 8) from decide_eq_decide.2 (by omega)]
  have HV := Lib.hid (h.stay B0)
  have HD : Hid (∀ q : After w0, Calls Try.prog 67 #[.slice V.pa V.ps.length V.pc, .func (.func 66) #[] #[]] q.to fun e w' => e = .returned (.bool h4) ∧ Below q.to.heap.size q.to w') := fun q => by
    have := pts_contains (p := longP) 66 #[] (enters_of Try.func66 (by kernel_rfl) rfl) q.to V.pa V.ps V.pc (HV.out.stay q.bel).pts
      (fun W i hi hb => (long_calls W V.ps[i]).mono fun e w' ⟨he, hb'⟩ => ⟨he, hb.trans (hb'.mono hb.size)⟩)
    rwa [hh.out] at this
  have HB0 := Lib.hid B0
  rw [← HR.out]
  clear B0 h
  go_enter Try.func30, Try.ntmps30
  go_upto_region 2 with fail
  rw [← hw0]
  clear hw0
  refine wp_region_vals0 (rcan V w.heap.size g1 g2 g3 h4) (rcano V w.heap.size g1 g2 g3 h4) [1, 3] (by kernel_rfl) ⟨rfl, rfl, trivial⟩ ?_ ?_
  · refine opsAll_cons ?_ (opsAll_cons ?_ (opsAll_cons ?_ (opsAll_cons ?_ (opsAll_cons ?_ (opsAll_cons ?_ (opsAll_cons ?_ (opsAll_cons ?_ (opsAll_cons ?_ (opsAll_cons ?_ (opsAll_cons ?_ (opsAll_cons ?_ (opsAll_cons ?_ (opsAll_cons ?_ (opsAll_cons ?_ (opsAll_cons ?_ (opsAll_cons ?_ (opsAll_cons ?_ (opsAll_cons ?_ (opsAll_cons ?_ (opsAll_cons ?_ (opsAll_cons ?_ (opsAll_cons ?_ (opsAll_cons ?_ opsAll_nil)))))))))))))))))))))))
    all_goals intro a hk
    · -- slot 4
      exact .inl ⟨wanted_free rfl, q_field (.tmp 1) rfl (show a.eval (.tmp 1) = (.pointer (some ⟨w.heap.size, 0, none⟩)) from hk.old 1 (by kernel_rfl) (by kernel_rfl)) (v := (.pointer (some ⟨w.heap.size, 0, none⟩))) (fun w => by kernel_rfl) rfl⟩
    · -- slot 5
      exact .inl ⟨wanted_free rfl, q_load (.tmp 4) rfl (show a.eval (.tmp 4) = (.pointer (some ⟨w.heap.size, 0, none⟩)) from hk.slot 4 (by kernel_rfl)) (v := (.slice V.wa V.ws.length V.wc)) (fun q => load_at (fun w => by kernel_rfl) (keep q.bel c0)) rfl⟩
    · -- slot 6
      exact .inl ⟨wanted_free rfl, q_len rfl (by kernel_rfl) (show a.eval (.tmp 5) = (.slice V.wa V.ws.length V.wc) from hk.slot 5 (by kernel_rfl)) rfl⟩
    · -- slot 7
      exact .inl ⟨wanted_free rfl, q_bin rfl (show a.eval (.tmp 6) = (.int .i64 (V.ws.length : Int)) from hk.slot 6 (by kernel_rfl)) rfl (v := .bool (decide (((V.ws.length : Int) : Int) ≤ 12))) (fun w => by kernel_rfl) (congrArg Value.bool (hg1.out))⟩
    · -- slot 8
      exact .inl ⟨wanted_free rfl, q_move (.tmp 7) rfl (show a.eval (.tmp 7) = (.bool g1) from hk.slot 7 (by kernel_rfl))⟩
    · -- slot 9
      cases g1 with
      | true =>
        exact .inl ⟨wanted_by 8 true (by kernel_rfl) (show a.eval (.tmp 8) = (.bool true) from hk.slot 8 (by kernel_rfl)), q_field (.tmp 1) rfl (show a.eval (.tmp 1) = (.pointer (some ⟨w.heap.size, 0, none⟩)) from hk.old 1 (by kernel_rfl) (by kernel_rfl)) (v := (.pointer (some ⟨w.heap.size, 1, none⟩))) (fun w => by kernel_rfl) rfl⟩
      | false =>
        exact .inr ⟨unwanted_by 8 true (by kernel_rfl) (show a.eval (.tmp 8) = (.bool false) from hk.slot 8 (by kernel_rfl)), rfl⟩
    · -- slot 10
      cases g1 with
      | true =>
        exact .inl ⟨wanted_by 8 true (by kernel_rfl) (show a.eval (.tmp 8) = (.bool true) from hk.slot 8 (by kernel_rfl)), q_load (.tmp 9) rfl (show a.eval (.tmp 9) = (.pointer (some ⟨w.heap.size, 1, none⟩)) from hk.slot 9 (by kernel_rfl)) (v := (.slice V.pa V.ps.length V.pc)) (fun q => load_at (fun w => by kernel_rfl) (keep q.bel c1)) rfl⟩
      | false =>
        exact .inr ⟨unwanted_by 8 true (by kernel_rfl) (show a.eval (.tmp 8) = (.bool false) from hk.slot 8 (by kernel_rfl)), rfl⟩
    · -- slot 11
      cases g1 with
      | true =>
        exact .inl ⟨wanted_by 8 true (by kernel_rfl) (show a.eval (.tmp 8) = (.bool true) from hk.slot 8 (by kernel_rfl)), q_len rfl (by kernel_rfl) (show a.eval (.tmp 10) = (.slice V.pa V.ps.length V.pc) from hk.slot 10 (by kernel_rfl)) rfl⟩
      | false =>
        exact .inr ⟨unwanted_by 8 true (by kernel_rfl) (show a.eval (.tmp 8) = (.bool false) from hk.slot 8 (by kernel_rfl)), rfl⟩
    · -- slot 12
      cases g1 with
      | true =>
        exact .inl ⟨wanted_by 8 true (by kernel_rfl) (show a.eval (.tmp 8) = (.bool true) from hk.slot 8 (by kernel_rfl)), q_bin rfl (show a.eval (.tmp 11) = (.int .i64 (V.ps.length : Int)) from hk.slot 11 (by kernel_rfl)) rfl (v := .bool (decide (((V.ps.length : Int) : Int) ≤ 6))) (fun w => by kernel_rfl) (congrArg Value.bool (hg2.out))⟩
      | false =>
        exact .inr ⟨unwanted_by 8 true (by kernel_rfl) (show a.eval (.tmp 8) = (.bool false) from hk.slot 8 (by kernel_rfl)), rfl⟩
    · -- slot 13
      cases g1 with
      | true =>
        exact .inl ⟨wanted_free rfl, q_pick rfl true (show a.eval (.tmp 8) = (.bool true) from hk.slot 8 (by kernel_rfl)) (show a.eval (.tmp 12) = (.bool g2) from hk.slot 12 (by kernel_rfl))⟩
      | false =>
        exact .inl ⟨wanted_free rfl, q_pick rfl false (show a.eval (.tmp 8) = (.bool false) from hk.slot 8 (by kernel_rfl)) rfl⟩
    · -- slot 14
      exact .inl ⟨wanted_free rfl, q_move (.tmp 13) rfl (show a.eval (.tmp 13) = (.bool (g1 && g2)) from hk.slot 13 (by kernel_rfl))⟩
    · -- slot 15
      cases g1 with
      | true =>
        cases g2 with
        | true =>
          exact .inl ⟨wanted_by 14 true (by kernel_rfl) (show a.eval (.tmp 14) = (.bool (true && true)) from hk.slot 14 (by kernel_rfl)), q_field (.tmp 1) rfl (show a.eval (.tmp 1) = (.pointer (some ⟨w.heap.size, 0, none⟩)) from hk.old 1 (by kernel_rfl) (by kernel_rfl)) (v := (.pointer (some ⟨w.heap.size, 2, none⟩))) (fun w => by kernel_rfl) rfl⟩
        | false =>
          exact .inr ⟨unwanted_by 14 true (by kernel_rfl) (show a.eval (.tmp 14) = (.bool (true && false)) from hk.slot 14 (by kernel_rfl)), rfl⟩
      | false =>
        exact .inr ⟨unwanted_by 14 true (by kernel_rfl) (show a.eval (.tmp 14) = (.bool (false && g2)) from hk.slot 14 (by kernel_rfl)), rfl⟩
    · -- slot 16
      cases g1 with
      | true =>
        cases g2 with
        | true =>
          exact .inl ⟨wanted_by 14 true (by kernel_rfl) (show a.eval (.tmp 14) = (.bool (true && true)) from hk.slot 14 (by kernel_rfl)), q_load (.tmp 15) rfl (show a.eval (.tmp 15) = (.pointer (some ⟨w.heap.size, 2, none⟩)) from hk.slot 15 (by kernel_rfl)) (v := (.slice V.ca V.cs.length V.cc)) (fun q => load_at (fun w => by kernel_rfl) (keep q.bel c2)) rfl⟩
        | false =>
          exact .inr ⟨unwanted_by 14 true (by kernel_rfl) (show a.eval (.tmp 14) = (.bool (true && false)) from hk.slot 14 (by kernel_rfl)), rfl⟩
      | false =>
        exact .inr ⟨unwanted_by 14 true (by kernel_rfl) (show a.eval (.tmp 14) = (.bool (false && g2)) from hk.slot 14 (by kernel_rfl)), rfl⟩
    · -- slot 17
      cases g1 with
      | true =>
        cases g2 with
        | true =>
          exact .inl ⟨wanted_by 14 true (by kernel_rfl) (show a.eval (.tmp 14) = (.bool (true && true)) from hk.slot 14 (by kernel_rfl)), q_len rfl (by kernel_rfl) (show a.eval (.tmp 16) = (.slice V.ca V.cs.length V.cc) from hk.slot 16 (by kernel_rfl)) rfl⟩
        | false =>
          exact .inr ⟨unwanted_by 14 true (by kernel_rfl) (show a.eval (.tmp 14) = (.bool (true && false)) from hk.slot 14 (by kernel_rfl)), rfl⟩
      | false =>
        exact .inr ⟨unwanted_by 14 true (by kernel_rfl) (show a.eval (.tmp 14) = (.bool (false && g2)) from hk.slot 14 (by kernel_rfl)), rfl⟩
    · -- slot 18
      cases g1 with
      | true =>
        cases g2 with
        | true =>
          exact .inl ⟨wanted_by 14 true (by kernel_rfl) (show a.eval (.tmp 14) = (.bool (true && true)) from hk.slot 14 (by kernel_rfl)), q_bin rfl (show a.eval (.tmp 17) = (.int .i64 (V.cs.length : Int)) from hk.slot 17 (by kernel_rfl)) rfl (v := .bool (decide (((V.cs.length : Int) : Int) ≤ 8))) (fun w => by kernel_rfl) (congrArg Value.bool (hg3.out))⟩
        | false =>
          exact .inr ⟨unwanted_by 14 true (by kernel_rfl) (show a.eval (.tmp 14) = (.bool (true && false)) from hk.slot 14 (by kernel_rfl)), rfl⟩
      | false =>
        exact .inr ⟨unwanted_by 14 true (by kernel_rfl) (show a.eval (.tmp 14) = (.bool (false && g2)) from hk.slot 14 (by kernel_rfl)), rfl⟩
    · -- slot 19
      cases g1 with
      | true =>
        cases g2 with
        | true =>
          exact .inl ⟨wanted_free rfl, q_pick rfl true (show a.eval (.tmp 14) = (.bool (true && true)) from hk.slot 14 (by kernel_rfl)) (show a.eval (.tmp 18) = (.bool g3) from hk.slot 18 (by kernel_rfl))⟩
        | false =>
          exact .inl ⟨wanted_free rfl, q_pick rfl false (show a.eval (.tmp 14) = (.bool (true && false)) from hk.slot 14 (by kernel_rfl)) rfl⟩
      | false =>
        exact .inl ⟨wanted_free rfl, q_pick rfl false (show a.eval (.tmp 14) = (.bool (false && g2)) from hk.slot 14 (by kernel_rfl)) rfl⟩
    · -- slot 20
      exact .inl ⟨wanted_free rfl, q_move (.tmp 19) rfl (show a.eval (.tmp 19) = (.bool ((g1 && g2) && g3)) from hk.slot 19 (by kernel_rfl))⟩
    · -- slot 21
      cases g1 with
      | true =>
        cases g2 with
        | true =>
          cases g3 with
          | true =>
            exact .inl ⟨wanted_by 20 true (by kernel_rfl) (show a.eval (.tmp 20) = (.bool ((true && true) && true)) from hk.slot 20 (by kernel_rfl)), q_field (.tmp 1) rfl (show a.eval (.tmp 1) = (.pointer (some ⟨w.heap.size, 0, none⟩)) from hk.old 1 (by kernel_rfl) (by kernel_rfl)) (v := (.pointer (some ⟨w.heap.size, 1, none⟩))) (fun w => by kernel_rfl) rfl⟩
          | false =>
            exact .inr ⟨unwanted_by 20 true (by kernel_rfl) (show a.eval (.tmp 20) = (.bool ((true && true) && false)) from hk.slot 20 (by kernel_rfl)), rfl⟩
        | false =>
          exact .inr ⟨unwanted_by 20 true (by kernel_rfl) (show a.eval (.tmp 20) = (.bool ((true && false) && g3)) from hk.slot 20 (by kernel_rfl)), rfl⟩
      | false =>
        exact .inr ⟨unwanted_by 20 true (by kernel_rfl) (show a.eval (.tmp 20) = (.bool ((false && g2) && g3)) from hk.slot 20 (by kernel_rfl)), rfl⟩
    · -- slot 22
      cases g1 with
      | true =>
        cases g2 with
        | true =>
          cases g3 with
          | true =>
            exact .inl ⟨wanted_by 20 true (by kernel_rfl) (show a.eval (.tmp 20) = (.bool ((true && true) && true)) from hk.slot 20 (by kernel_rfl)), q_load (.tmp 21) rfl (show a.eval (.tmp 21) = (.pointer (some ⟨w.heap.size, 1, none⟩)) from hk.slot 21 (by kernel_rfl)) (v := (.slice V.pa V.ps.length V.pc)) (fun q => load_at (fun w => by kernel_rfl) (keep q.bel c1)) rfl⟩
          | false =>
            exact .inr ⟨unwanted_by 20 true (by kernel_rfl) (show a.eval (.tmp 20) = (.bool ((true && true) && false)) from hk.slot 20 (by kernel_rfl)), rfl⟩
        | false =>
          exact .inr ⟨unwanted_by 20 true (by kernel_rfl) (show a.eval (.tmp 20) = (.bool ((true && false) && g3)) from hk.slot 20 (by kernel_rfl)), rfl⟩
      | false =>
        exact .inr ⟨unwanted_by 20 true (by kernel_rfl) (show a.eval (.tmp 20) = (.bool ((false && g2) && g3)) from hk.slot 20 (by kernel_rfl)), rfl⟩
    · -- slot 23
      cases g1 with
      | true =>
        cases g2 with
        | true =>
          cases g3 with
          | true =>
            exact .inl ⟨wanted_by 20 true (by kernel_rfl) (show a.eval (.tmp 20) = (.bool ((true && true) && true)) from hk.slot 20 (by kernel_rfl)), q_move (.tmp 3) rfl (show a.eval (.tmp 3) = (.func (.func 66) #[] #[]) from hk.old 3 (by kernel_rfl) (by kernel_rfl))⟩
          | false =>
            exact .inr ⟨unwanted_by 20 true (by kernel_rfl) (show a.eval (.tmp 20) = (.bool ((true && true) && false)) from hk.slot 20 (by kernel_rfl)), rfl⟩
        | false =>
          exact .inr ⟨unwanted_by 20 true (by kernel_rfl) (show a.eval (.tmp 20) = (.bool ((true && false) && g3)) from hk.slot 20 (by kernel_rfl)), rfl⟩
      | false =>
        exact .inr ⟨unwanted_by 20 true (by kernel_rfl) (show a.eval (.tmp 20) = (.bool ((false && g2) && g3)) from hk.slot 20 (by kernel_rfl)), rfl⟩
    · -- slot 24
      cases g1 with
      | true =>
        cases g2 with
        | true =>
          cases g3 with
          | true =>
            exact .inl ⟨wanted_by 20 true (by kernel_rfl) (show a.eval (.tmp 20) = (.bool ((true && true) && true)) from hk.slot 20 (by kernel_rfl)), q_call rfl rfl #[(.slice V.pa V.ps.length V.pc), (.func (.func 66) #[] #[])] (fun w => by kernel_rfl) (by simp only [List.map_toArray, List.map_cons, List.map_nil, (show a.eval (.tmp 22) = (.slice V.pa V.ps.length V.pc) from hk.slot 22 (by kernel_rfl)), (show a.eval (.tmp 23) = (.func (.func 66) #[] #[]) from hk.slot 23 (by kernel_rfl))]) (v := (.bool h4)) (fun q => HD.out q) rfl⟩
          | false =>
            exact .inr ⟨unwanted_by 20 true (by kernel_rfl) (show a.eval (.tmp 20) = (.bool ((true && true) && false)) from hk.slot 20 (by kernel_rfl)), rfl⟩
        | false =>
          exact .inr ⟨unwanted_by 20 true (by kernel_rfl) (show a.eval (.tmp 20) = (.bool ((true && false) && g3)) from hk.slot 20 (by kernel_rfl)), rfl⟩
      | false =>
        exact .inr ⟨unwanted_by 20 true (by kernel_rfl) (show a.eval (.tmp 20) = (.bool ((false && g2) && g3)) from hk.slot 20 (by kernel_rfl)), rfl⟩
    · -- slot 25
      cases g1 with
      | true =>
        cases g2 with
        | true =>
          cases g3 with
          | true =>
            exact .inl ⟨wanted_by 20 true (by kernel_rfl) (show a.eval (.tmp 20) = (.bool ((true && true) && true)) from hk.slot 20 (by kernel_rfl)), q_not rfl _ (show a.eval (.tmp 24) = (.bool h4) from hk.slot 24 (by kernel_rfl)) rfl⟩
          | false =>
            exact .inr ⟨unwanted_by 20 true (by kernel_rfl) (show a.eval (.tmp 20) = (.bool ((true && true) && false)) from hk.slot 20 (by kernel_rfl)), rfl⟩
        | false =>
          exact .inr ⟨unwanted_by 20 true (by kernel_rfl) (show a.eval (.tmp 20) = (.bool ((true && false) && g3)) from hk.slot 20 (by kernel_rfl)), rfl⟩
      | false =>
        exact .inr ⟨unwanted_by 20 true (by kernel_rfl) (show a.eval (.tmp 20) = (.bool ((false && g2) && g3)) from hk.slot 20 (by kernel_rfl)), rfl⟩
    · -- slot 26
      cases g1 with
      | true =>
        cases g2 with
        | true =>
          cases g3 with
          | true =>
            exact .inl ⟨wanted_free rfl, q_pick rfl true (show a.eval (.tmp 20) = (.bool ((true && true) && true)) from hk.slot 20 (by kernel_rfl)) (show a.eval (.tmp 25) = (.bool (!h4)) from hk.slot 25 (by kernel_rfl))⟩
          | false =>
            exact .inl ⟨wanted_free rfl, q_pick rfl false (show a.eval (.tmp 20) = (.bool ((true && true) && false)) from hk.slot 20 (by kernel_rfl)) rfl⟩
        | false =>
          exact .inl ⟨wanted_free rfl, q_pick rfl false (show a.eval (.tmp 20) = (.bool ((true && false) && g3)) from hk.slot 20 (by kernel_rfl)) rfl⟩
      | false =>
        exact .inl ⟨wanted_free rfl, q_pick rfl false (show a.eval (.tmp 20) = (.bool ((false && g2) && g3)) from hk.slot 20 (by kernel_rfl)) rfl⟩
    · -- slot 2
      exact .inl ⟨wanted_free rfl, q_assign (.tmp 26) rfl (show a.eval (.tmp 26) = (.bool (((g1 && g2) && g3) && (!h4))) from hk.slot 26 (by kernel_rfl))⟩
  intro a ⟨w3, hb3⟩ hsame hall
  have he := act_same hsame [4, 5, 6, 7, 8, 9, 10, 11, 12, 13, 14, 15, 16, 17, 18, 19, 20, 21, 22, 23, 24, 25, 26, 2] (by kernel_rfl)
  simp only [List.foldl_cons, List.foldl_nil] at he
  rw [show a.eval (.tmp 2) = (.bool R) from (hall 2 (by kernel_rfl)).trans (congrArg Value.bool hR.out.symm)] at he
  generalize a.eval (.tmp 4) = x4 at he
  generalize a.eval (.tmp 5) = x5 at he
  generalize a.eval (.tmp 6) = x6 at he
  generalize a.eval (.tmp 7) = x7 at he
  generalize a.eval (.tmp 8) = x8 at he
  generalize a.eval (.tmp 9) = x9 at he
  generalize a.eval (.tmp 10) = x10 at he
  generalize a.eval (.tmp 11) = x11 at he
  generalize a.eval (.tmp 12) = x12 at he
  generalize a.eval (.tmp 13) = x13 at he
  generalize a.eval (.tmp 14) = x14 at he
  generalize a.eval (.tmp 15) = x15 at he
  generalize a.eval (.tmp 16) = x16 at he
  generalize a.eval (.tmp 17) = x17 at he
  generalize a.eval (.tmp 18) = x18 at he
  generalize a.eval (.tmp 19) = x19 at he
  generalize a.eval (.tmp 20) = x20 at he
  generalize a.eval (.tmp 21) = x21 at he
  generalize a.eval (.tmp 22) = x22 at he
  generalize a.eval (.tmp 23) = x23 at he
  generalize a.eval (.tmp 24) = x24 at he
  generalize a.eval (.tmp 25) = x25 at he
  generalize a.eval (.tmp 26) = x26 at he
  simp only [put_lit] at he
  dsimp only [List.set_cons_zero, List.set_cons_succ] at he
  subst he
  clear hsame hall
  go_wp2_with fail
  go_ret
  exact ⟨rfl, HB0.out.trans (hb3.mono HB0.out.size)⟩
end Go.Proofs.Ytpnbaapjjchlbaa
