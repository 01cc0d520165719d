/- CompatTurned: the walk of the law. -/
import Derived.Test.YtpnbaapjjchlbaaLawCompatLists
namespace Go.Proofs.Ytpnbaapjjchlbaa
open Go Go.RowKit Go.Cit

def ct6 (V W : CfgV) (j : Nat) (S : Bool) : Nat → Value → World → Prop
  | 17 => fun v _ => v = (.agg #[.slice V.wa V.ws.length V.wc, .slice V.pa V.ps.length V.pc, .slice V.ca V.cs.length V.cc])
  | 18 => fun v _ => v = (.agg #[.slice W.wa W.ws.length W.wc, .slice W.pa W.ps.length W.pc, .slice W.ca W.cs.length W.cc])
  | 19 => fun v _ => v = (.int .i64 (j : Int))
  | 20 => fun v _ => v = (.bool S)
  | 21 => fun v _ => v = (.agg #[.slice W.wa W.ws.length W.wc, .slice W.pa W.ps.length W.pc, .slice W.ca W.cs.length W.cc])
  | 22 => fun v _ => v = (.agg #[.slice V.wa V.ws.length V.wc, .slice V.pa V.ps.length V.pc, .slice V.ca V.cs.length V.cc])
  | 23 => fun v _ => v = (.int .i64 (j : Int))
  | 24 => fun v _ => v = (.bool S)
  | 25 => fun v _ => v = (.bool false)
  | _ => fun _ _ => True
theorem ct6_stay (V W : CfgV) (j : Nat) (S : Bool) : ∀ d v w1 w2, Below w1.heap.size w1 w2 → ct6 V W j S d v w1 → ct6 V W j S d v w2 := by
  intro d v w1 w2 hb h
  unfold ct6 at h ⊢
  split at h <;> first | exact h | exact tE_stay hb h | trivial
def ct8 (V W : CfgV) (R : Int) : Nat → Value → World → Prop
  | 26 => fun v _ => v = (.agg #[.slice V.wa V.ws.length V.wc, .slice V.pa V.ps.length V.pc, .slice V.ca V.cs.length V.cc])
  | 27 => fun v _ => v = (.agg #[.slice W.wa W.ws.length W.wc, .slice W.pa W.ps.length W.pc, .slice W.ca W.cs.length W.cc])
  | 28 => fun v _ => v = (.int .i64 R)
  | 29 => fun v _ => v = (.agg #[.slice W.wa W.ws.length W.wc, .slice W.pa W.ps.length W.pc, .slice W.ca W.cs.length W.cc])
  | 30 => fun v _ => v = (.agg #[.slice V.wa V.ws.length V.wc, .slice V.pa V.ps.length V.pc, .slice V.ca V.cs.length V.cc])
  | 31 => fun v _ => v = (.int .i64 R)
  | 32 => fun v _ => v = (.bool true)
  | 33 => fun v _ => v = (.bool true)
  | 34 => fun v _ => v = (.agg #[.slice V.wa V.ws.length V.wc, .slice V.pa V.ps.length V.pc, .slice V.ca V.cs.length V.cc])
  | 35 => fun v _ => v = (.agg #[.slice W.wa W.ws.length W.wc, .slice W.pa W.ps.length W.pc, .slice W.ca W.cs.length W.cc])
  | 36 => tE (partsK V W)
  | 37 => fun v _ => v = (.agg #[.slice W.wa W.ws.length W.wc, .slice W.pa W.ps.length W.pc, .slice W.ca W.cs.length W.cc])
  | 38 => fun v _ => v = (.agg #[.slice V.wa V.ws.length V.wc, .slice V.pa V.ps.length V.pc, .slice V.ca V.cs.length V.cc])
  | 39 => tE (partsK V W)
  | 40 => fun v _ => v = (.bool true)
  | 41 => fun v _ => v = (.bool true)
  | 42 => fun v _ => v = (.bool true)
  | 43 => fun v _ => v = (.agg #[.slice V.wa V.ws.length V.wc, .slice V.pa V.ps.length V.pc, .slice V.ca V.cs.length V.cc])
  | 44 => fun v _ => v = (.agg #[.slice W.wa W.ws.length W.wc, .slice W.pa W.ps.length W.pc, .slice W.ca W.cs.length W.cc])
  | 45 => tE (chansK V W)
  | 46 => fun v _ => v = (.agg #[.slice W.wa W.ws.length W.wc, .slice W.pa W.ps.length W.pc, .slice W.ca W.cs.length W.cc])
  | 47 => fun v _ => v = (.agg #[.slice V.wa V.ws.length V.wc, .slice V.pa V.ps.length V.pc, .slice V.ca V.cs.length V.cc])
  | 48 => tE (chansK V W)
  | 49 => fun v _ => v = (.bool true)
  | 50 => fun v _ => v = (.bool true)
  | 51 => fun v _ => v = (.bool true)
  | 52 => fun v _ => v = (.bool true)
  | 53 => fun v _ => v = (.bool true)
  | 4 => fun v _ => v = (.bool true)
  | _ => fun _ _ => True
theorem ct8_stay (V W : CfgV) (R : Int) : ∀ d v w1 w2, Below w1.heap.size w1 w2 → ct8 V W R d v w1 → ct8 V W R d v w2 := by
  intro d v w1 w2 hb h
  unfold ct8 at h ⊢
  split at h <;> first | exact h | exact tE_stay hb h | trivial
set_option maxRecDepth 100000 in
set_option maxHeartbeats 4000000 in
theorem compatTurned_law (w : World) (V W : CfgV) (h : V.At w) (hb : ∀ x ∈ V.ps, x.img.length ≤ 140737488351232) (k : W.At w) (kb : ∀ x ∈ W.ps, x.img.length ≤ 140737488351232) : Calls Try.prog 9 #[.agg (cCfg V).toArray, .agg (cCfg W).toArray] w fun e w' => e = .returned (.bool true) ∧ Below w.heap.size w w' := by
  obtain ⟨w0, hw0⟩ : ∃ w0, w0 = (w.alloc (.cells #[.slice V.wa V.ws.length V.wc, .slice V.pa V.ps.length V.pc, .slice V.ca V.cs.length V.cc] 26)).alloc (.cells #[.slice W.wa W.ws.length W.wc, .slice W.pa W.ps.length W.pc, .slice W.ca W.cs.length W.cc] 26) := ⟨_, rfl⟩
  have B0 : Below w.heap.size w w0 := by rw [hw0]; exact ((Below.refl _ w).alloc (Nat.le_refl _) _).alloc (by simp) _
  have hI := two_box w V W
  rw [← hw0] at hI
  have HI := Lib.hid hI
  have HV := Lib.hid (h.stay B0)
  have HK := Lib.hid (k.stay B0)
  have HB0 := Lib.hid B0
  have HKB := Lib.hid kb
  obtain ⟨g1, hg1⟩ : ∃ g, Hid (g = greatV V) := ⟨_, rfl⟩
  obtain ⟨g2, hg2⟩ : ∃ g, Hid (g = greatV W) := ⟨_, rfl⟩
  have hc := cgreat_calls w0 V HV.out hb
  rw [← hg1.out] at hc
  have HC := Lib.hid hc
  clear h k B0 hI hb kb hc
  obtain ⟨⟨c0, c1, c2⟩, ⟨d0, d1, d2⟩⟩ := HI.out
  go_enter Try.func9, Try.ntmps9
  go_wp2_with fail
  rw [← hw0]
  clear hw0
  refine (HC.out).mono ?_
  rintro e w1 ⟨rfl, hb1⟩
  have HB1 := Lib.hid hb1
  clear c0 c1 c2 d0 d1 d2 HC hb1
  cases g1 with
  | true =>
    go_wp2_with fail
    refine (awake13_calls _).mono ?_
    rintro e wq ⟨rfl, hbq⟩
    have HQ := Lib.hid (HB1.out.trans (hbq.mono HB1.out.size))
    clear hbq
    go_wp2_with fail
    go_ret
    exact ⟨rfl, HB0.out.trans (HQ.out.mono HB0.out.size)⟩
  | false =>
    obtain ⟨d0, d1, d2⟩ := HI.out.2.keep HB1.out
    have hc := cgreat_calls w1 W (HK.out.stay HB1.out) HKB.out
    rw [← hg2.out] at hc
    have HC := Lib.hid hc
    clear hc
    go_wp2_with fail
    refine (HC.out).mono ?_
    rintro e w2 ⟨rfl, hb2⟩
    have HB2 := Lib.hid (HB1.out.trans (hb2.mono HB1.out.size))
    clear d0 d1 d2 hb2 HC
    cases g2 with
    | true =>
      go_wp2_with fail
      refine (awake13_calls _).mono ?_
      rintro e wq ⟨rfl, hbq⟩
      have HQ := Lib.hid (HB2.out.trans (hbq.mono HB2.out.size))
      clear hbq
      go_wp2_with fail
      go_ret
      exact ⟨rfl, HB0.out.trans (HQ.out.mono HB0.out.size)⟩
    | false =>
      have hs := small_of hg1.out.symm
      have ks := small_of hg2.out.symm
      have hV2 := HV.out.stay HB2.out
      have hW2 := HK.out.stay HB2.out
      have HVW := Lib.hid (And.intro hV2 hW2)
      have HSM := Lib.hid (And.intro hs ks)
      have HIW := Lib.hid (And.intro (HI.out.1.keep HB2.out) (HI.out.2.keep HB2.out))
      clear hs ks hV2 hW2
      go_wp2_with fail
      go_loopw [5] (fun i wr => ∃ j : Nat, i = .int .i64 (j : Int) ∧ j ≤ 8 ∧ Below w2.heap.size w2 wr) (fun i _ => 8 - (intOf i).toNat)
      case atStart => exact ⟨0, rfl, Nat.zero_le _, Below.refl _ _⟩
      case round =>
        obtain ⟨j, rfl, hj, B⟩ := hrel
        have HBw := Lib.hid B
        obtain ⟨c0, c1, c2⟩ := HIW.out.1.keep B
        obtain ⟨d0, d1, d2⟩ := HIW.out.2.keep B
        clear B
        by_cases hlt : j < 8
        · obtain ⟨S, hS⟩ : ∃ S, Hid (S = survK V W (j : Int)) := ⟨_, rfl⟩
          have HC1 : Hid (∀ q : After wr, Calls Try.prog 36 #[.agg #[.slice V.wa V.ws.length V.wc, .slice V.pa V.ps.length V.pc, .slice V.ca V.cs.length V.cc], .agg #[.slice W.wa W.ws.length W.wc, .slice W.pa W.ps.length W.pc, .slice W.ca W.cs.length W.cc], .int .i64 (j : Int)] q.to fun e w' => e = .returned (.bool S) ∧ Below q.to.heap.size q.to w') := fun q => by
            have := surv_calls q.to V W (HVW.out.1.stay (HBw.out.trans (q.bel.mono HBw.out.size))) (HVW.out.2.stay (HBw.out.trans (q.bel.mono HBw.out.size))) HSM.out.1 HSM.out.2 (j : Int)
            rwa [← hS.out] at this
          have HC2 : Hid (∀ q : After wr, Calls Try.prog 36 #[.agg #[.slice W.wa W.ws.length W.wc, .slice W.pa W.ps.length W.pc, .slice W.ca W.cs.length W.cc], .agg #[.slice V.wa V.ws.length V.wc, .slice V.pa V.ps.length V.pc, .slice V.ca V.cs.length V.cc], .int .i64 (j : Int)] q.to fun e w' => e = .returned (.bool S) ∧ Below q.to.heap.size q.to w') := fun q => by
            have := surv_calls q.to W V (HVW.out.2.stay (HBw.out.trans (q.bel.mono HBw.out.size))) (HVW.out.1.stay (HBw.out.trans (q.bel.mono HBw.out.size))) HSM.out.2 HSM.out.1 (j : Int)
            rwa [← surv_turn V W, ← hS.out] at this
          go_upto_region 6 with fail
          refine wp_region_tyg (ct6 V W j S) (by kernel_rfl) (by kernel_rfl) (ct6_stay V W j S) ?_ ?_
          · refine opsAll_cons ?_ (opsAll_cons ?_ (opsAll_cons ?_ (opsAll_cons ?_ (opsAll_cons ?_ (opsAll_cons ?_ (opsAll_cons ?_ (opsAll_cons ?_ (opsAll_cons ?_ opsAll_nil))))))))
            all_goals intro a wx hk
            · exact .inl ⟨wanted_free rfl, gp_load (.tmp 2) rfl (show a.eval (.tmp 2) = (.pointer (some ⟨w.heap.size, 0, none⟩)) from ((hk.old 2 (by kernel_rfl)).trans rfl)) ((fun (q : After _) => load3 (fun w => by kernel_rfl) (fun w => by kernel_rfl) (keep q.bel c0) (keep q.bel c1) (keep q.bel c2)) ⟨wx, hk.below⟩) ⟨Below.refl _ _, rfl⟩⟩
            · exact .inl ⟨wanted_free rfl, gp_load (.tmp 3) rfl (show a.eval (.tmp 3) = (.pointer (some ⟨w.heap.size + 1, 0, none⟩)) from ((hk.old 3 (by kernel_rfl)).trans rfl)) ((fun (q : After _) => load3 (fun w => by kernel_rfl) (fun w => by kernel_rfl) (keep q.bel d0) (keep q.bel d1) (keep q.bel d2)) ⟨wx, hk.below⟩) ⟨Below.refl _ _, rfl⟩⟩
            · exact .inl ⟨wanted_free rfl, gp_move (.tmp 5) rfl ⟨Below.refl _ _, (hk.old 5 (by kernel_rfl)).trans rfl⟩⟩
            · exact .inl ⟨wanted_free rfl, gp_call rfl (hk.fn _) #[.agg #[.slice V.wa V.ws.length V.wc, .slice V.pa V.ps.length V.pc, .slice V.ca V.cs.length V.cc], .agg #[.slice W.wa W.ws.length W.wc, .slice W.pa W.ps.length W.pc, .slice W.ca W.cs.length W.cc], .int .i64 (j : Int)] (fun w => by kernel_rfl) (by simp only [List.map_toArray, List.map_cons, List.map_nil, (show a.eval (.tmp 17) = (.agg #[.slice V.wa V.ws.length V.wc, .slice V.pa V.ps.length V.pc, .slice V.ca V.cs.length V.cc]) from hk.slot 17 (by kernel_rfl)), (show a.eval (.tmp 18) = (.agg #[.slice W.wa W.ws.length W.wc, .slice W.pa W.ps.length W.pc, .slice W.ca W.cs.length W.cc]) from hk.slot 18 (by kernel_rfl)), (show a.eval (.tmp 19) = (.int .i64 (j : Int)) from hk.slot 19 (by kernel_rfl))]) (((fun (q : After _) => HC1.out q) ⟨wx, hk.below⟩).mono fun e w' ⟨he, hb⟩ => ⟨_, he, hb, rfl⟩)⟩
            · exact .inl ⟨wanted_free rfl, gp_load (.tmp 3) rfl (show a.eval (.tmp 3) = (.pointer (some ⟨w.heap.size + 1, 0, none⟩)) from ((hk.old 3 (by kernel_rfl)).trans rfl)) ((fun (q : After _) => load3 (fun w => by kernel_rfl) (fun w => by kernel_rfl) (keep q.bel d0) (keep q.bel d1) (keep q.bel d2)) ⟨wx, hk.below⟩) ⟨Below.refl _ _, rfl⟩⟩
            · exact .inl ⟨wanted_free rfl, gp_load (.tmp 2) rfl (show a.eval (.tmp 2) = (.pointer (some ⟨w.heap.size, 0, none⟩)) from ((hk.old 2 (by kernel_rfl)).trans rfl)) ((fun (q : After _) => load3 (fun w => by kernel_rfl) (fun w => by kernel_rfl) (keep q.bel c0) (keep q.bel c1) (keep q.bel c2)) ⟨wx, hk.below⟩) ⟨Below.refl _ _, rfl⟩⟩
            · exact .inl ⟨wanted_free rfl, gp_move (.tmp 5) rfl ⟨Below.refl _ _, (hk.old 5 (by kernel_rfl)).trans rfl⟩⟩
            · exact .inl ⟨wanted_free rfl, gp_call rfl (hk.fn _) #[.agg #[.slice W.wa W.ws.length W.wc, .slice W.pa W.ps.length W.pc, .slice W.ca W.cs.length W.cc], .agg #[.slice V.wa V.ws.length V.wc, .slice V.pa V.ps.length V.pc, .slice V.ca V.cs.length V.cc], .int .i64 (j : Int)] (fun w => by kernel_rfl) (by simp only [List.map_toArray, List.map_cons, List.map_nil, (show a.eval (.tmp 21) = (.agg #[.slice W.wa W.ws.length W.wc, .slice W.pa W.ps.length W.pc, .slice W.ca W.cs.length W.cc]) from hk.slot 21 (by kernel_rfl)), (show a.eval (.tmp 22) = (.agg #[.slice V.wa V.ws.length V.wc, .slice V.pa V.ps.length V.pc, .slice V.ca V.cs.length V.cc]) from hk.slot 22 (by kernel_rfl)), (show a.eval (.tmp 23) = (.int .i64 (j : Int)) from hk.slot 23 (by kernel_rfl))]) (((fun (q : After _) => HC2.out q) ⟨wx, hk.below⟩).mono fun e w' ⟨he, hb⟩ => ⟨_, he, hb, rfl⟩)⟩
            · exact .inl ⟨wanted_free rfl, gp_bin rfl (show a.eval (.tmp 20) = (.bool S) from hk.slot 20 (by kernel_rfl)) (show a.eval (.tmp 24) = (.bool S) from hk.slot 24 (by kernel_rfl)) (v := .bool false) (fun w => by cases S <;> go_simp) ⟨Below.refl _ _, rfl⟩⟩
          intro a wz hbz hsame hall
          have he := act_same hsame [17, 18, 19, 20, 21, 22, 23, 24, 25] (by kernel_rfl)
          simp only [List.foldl_cons, List.foldl_nil] at he
          rw [show a.eval (.tmp 25) = (.bool false) from hall 25 (by kernel_rfl)] at he
          generalize a.eval (.tmp 17) = y17 at he
          generalize a.eval (.tmp 18) = y18 at he
          generalize a.eval (.tmp 19) = y19 at he
          generalize a.eval (.tmp 20) = y20 at he
          generalize a.eval (.tmp 21) = y21 at he
          generalize a.eval (.tmp 22) = y22 at he
          generalize a.eval (.tmp 23) = y23 at he
          generalize a.eval (.tmp 24) = y24 at he
          simp only [put_lit] at he
          dsimp only [List.set_cons_zero, List.set_cons_succ] at he
          subst he
          clear hsame hall
          have HZ := Lib.hid (HBw.out.trans (hbz.mono HBw.out.size))
          clear hbz c0 c1 c2 d0 d1 d2
          go_wp2_with fail
          go_roundw
          case rel => exact ⟨j + 1, by go_num, by omega, HZ.out⟩
          case measure => simp [intOf]; omega
        · have hk2 : j = 8 := by omega
          subst hk2
          obtain ⟨R, hR⟩ : ∃ R, Hid (R = checkK V W) := ⟨_, rfl⟩
          have HC1 : Hid (∀ q : After wr, Calls Try.prog 34 #[.agg #[.slice V.wa V.ws.length V.wc, .slice V.pa V.ps.length V.pc, .slice V.ca V.cs.length V.cc], .agg #[.slice W.wa W.ws.length W.wc, .slice W.pa W.ps.length W.pc, .slice W.ca W.cs.length W.cc]] q.to fun e w' => e = .returned (.int .i64 R) ∧ Below q.to.heap.size q.to w') := fun q => by
            have := ccheck_calls q.to V W (HVW.out.1.stay (HBw.out.trans (q.bel.mono HBw.out.size))) (HVW.out.2.stay (HBw.out.trans (q.bel.mono HBw.out.size))) HSM.out.1 HSM.out.2
            rwa [← hR.out] at this
          have HC2 : Hid (∀ q : After wr, Calls Try.prog 34 #[.agg #[.slice W.wa W.ws.length W.wc, .slice W.pa W.ps.length W.pc, .slice W.ca W.cs.length W.cc], .agg #[.slice V.wa V.ws.length V.wc, .slice V.pa V.ps.length V.pc, .slice V.ca V.cs.length V.cc]] q.to fun e w' => e = .returned (.int .i64 R) ∧ Below q.to.heap.size q.to w') := fun q => by
            have := ccheck_calls q.to W V (HVW.out.2.stay (HBw.out.trans (q.bel.mono HBw.out.size))) (HVW.out.1.stay (HBw.out.trans (q.bel.mono HBw.out.size))) HSM.out.2 HSM.out.1
            rwa [← check_turn V W, ← hR.out] at this
          have HC3 : Hid (∀ q : After wr, Calls Try.prog 39 #[.agg #[.slice V.wa V.ws.length V.wc, .slice V.pa V.ps.length V.pc, .slice V.ca V.cs.length V.cc], .agg #[.slice W.wa W.ws.length W.wc, .slice W.pa W.ps.length W.pc, .slice W.ca W.cs.length W.cc]] q.to fun e w' => ∃ a' c', e = .returned (.slice a' (partsK V W).length c') ∧ Vec cZ 1 w' a' (partsK V W) c' ∧ Below q.to.heap.size q.to w') := fun q => ints_eq (cparts_calls q.to V W (HVW.out.1.stay (HBw.out.trans (q.bel.mono HBw.out.size))) (HVW.out.2.stay (HBw.out.trans (q.bel.mono HBw.out.size))) HSM.out.1 HSM.out.2) rfl
          have HC4 : Hid (∀ q : After wr, Calls Try.prog 39 #[.agg #[.slice W.wa W.ws.length W.wc, .slice W.pa W.ps.length W.pc, .slice W.ca W.cs.length W.cc], .agg #[.slice V.wa V.ws.length V.wc, .slice V.pa V.ps.length V.pc, .slice V.ca V.cs.length V.cc]] q.to fun e w' => ∃ a' c', e = .returned (.slice a' (partsK V W).length c') ∧ Vec cZ 1 w' a' (partsK V W) c' ∧ Below q.to.heap.size q.to w') := fun q => ints_eq (cparts_calls q.to W V (HVW.out.2.stay (HBw.out.trans (q.bel.mono HBw.out.size))) (HVW.out.1.stay (HBw.out.trans (q.bel.mono HBw.out.size))) HSM.out.2 HSM.out.1) (parts_turn V W).symm
          have HC5 : Hid (∀ q : After wr, Calls Try.prog 42 #[.agg #[.slice V.wa V.ws.length V.wc, .slice V.pa V.ps.length V.pc, .slice V.ca V.cs.length V.cc], .agg #[.slice W.wa W.ws.length W.wc, .slice W.pa W.ps.length W.pc, .slice W.ca W.cs.length W.cc]] q.to fun e w' => ∃ a' c', e = .returned (.slice a' (chansK V W).length c') ∧ Vec cZ 1 w' a' (chansK V W) c' ∧ Below q.to.heap.size q.to w') := fun q => ints_eq (cchans_calls q.to V W (HVW.out.1.stay (HBw.out.trans (q.bel.mono HBw.out.size))) (HVW.out.2.stay (HBw.out.trans (q.bel.mono HBw.out.size))) HSM.out.1 HSM.out.2) rfl
          have HC6 : Hid (∀ q : After wr, Calls Try.prog 42 #[.agg #[.slice W.wa W.ws.length W.wc, .slice W.pa W.ps.length W.pc, .slice W.ca W.cs.length W.cc], .agg #[.slice V.wa V.ws.length V.wc, .slice V.pa V.ps.length V.pc, .slice V.ca V.cs.length V.cc]] q.to fun e w' => ∃ a' c', e = .returned (.slice a' (chansK V W).length c') ∧ Vec cZ 1 w' a' (chansK V W) c' ∧ Below q.to.heap.size q.to w') := fun q => ints_eq (cchans_calls q.to W V (HVW.out.2.stay (HBw.out.trans (q.bel.mono HBw.out.size))) (HVW.out.1.stay (HBw.out.trans (q.bel.mono HBw.out.size))) HSM.out.2 HSM.out.1) (chans_turn V W).symm
          go_upto_region 8 with fail
          refine wp_region_tyg (ct8 V W R) (by kernel_rfl) (by kernel_rfl) (ct8_stay V W R) ?_ ?_
          · refine opsAll_cons ?_ (opsAll_cons ?_ (opsAll_cons ?_ (opsAll_cons ?_ (opsAll_cons ?_ (opsAll_cons ?_ (opsAll_cons ?_ (opsAll_cons ?_ (opsAll_cons ?_ (opsAll_cons ?_ (opsAll_cons ?_ (opsAll_cons ?_ (opsAll_cons ?_ (opsAll_cons ?_ (opsAll_cons ?_ (opsAll_cons ?_ (opsAll_cons ?_ (opsAll_cons ?_ (opsAll_cons ?_ (opsAll_cons ?_ (opsAll_cons ?_ (opsAll_cons ?_ (opsAll_cons ?_ (opsAll_cons ?_ (opsAll_cons ?_ (opsAll_cons ?_ (opsAll_cons ?_ (opsAll_cons ?_ (opsAll_cons ?_ opsAll_nil))))))))))))))))))))))))))))
            all_goals intro a wx hk
            · exact .inl ⟨wanted_free rfl, gp_load (.tmp 2) rfl (show a.eval (.tmp 2) = (.pointer (some ⟨w.heap.size, 0, none⟩)) from ((hk.old 2 (by kernel_rfl)).trans rfl)) ((fun (q : After _) => load3 (fun w => by kernel_rfl) (fun w => by kernel_rfl) (keep q.bel c0) (keep q.bel c1) (keep q.bel c2)) ⟨wx, hk.below⟩) ⟨Below.refl _ _, rfl⟩⟩
            · exact .inl ⟨wanted_free rfl, gp_load (.tmp 3) rfl (show a.eval (.tmp 3) = (.pointer (some ⟨w.heap.size + 1, 0, none⟩)) from ((hk.old 3 (by kernel_rfl)).trans rfl)) ((fun (q : After _) => load3 (fun w => by kernel_rfl) (fun w => by kernel_rfl) (keep q.bel d0) (keep q.bel d1) (keep q.bel d2)) ⟨wx, hk.below⟩) ⟨Below.refl _ _, rfl⟩⟩
            · exact .inl ⟨wanted_free rfl, gp_call rfl (hk.fn _) #[.agg #[.slice V.wa V.ws.length V.wc, .slice V.pa V.ps.length V.pc, .slice V.ca V.cs.length V.cc], .agg #[.slice W.wa W.ws.length W.wc, .slice W.pa W.ps.length W.pc, .slice W.ca W.cs.length W.cc]] (fun w => by kernel_rfl) (by simp only [List.map_toArray, List.map_cons, List.map_nil, (show a.eval (.tmp 26) = (.agg #[.slice V.wa V.ws.length V.wc, .slice V.pa V.ps.length V.pc, .slice V.ca V.cs.length V.cc]) from hk.slot 26 (by kernel_rfl)), (show a.eval (.tmp 27) = (.agg #[.slice W.wa W.ws.length W.wc, .slice W.pa W.ps.length W.pc, .slice W.ca W.cs.length W.cc]) from hk.slot 27 (by kernel_rfl))]) (((fun (q : After _) => HC1.out q) ⟨wx, hk.below⟩).mono fun e w' ⟨he, hb⟩ => ⟨_, he, hb, rfl⟩)⟩
            · exact .inl ⟨wanted_free rfl, gp_load (.tmp 3) rfl (show a.eval (.tmp 3) = (.pointer (some ⟨w.heap.size + 1, 0, none⟩)) from ((hk.old 3 (by kernel_rfl)).trans rfl)) ((fun (q : After _) => load3 (fun w => by kernel_rfl) (fun w => by kernel_rfl) (keep q.bel d0) (keep q.bel d1) (keep q.bel d2)) ⟨wx, hk.below⟩) ⟨Below.refl _ _, rfl⟩⟩
            · exact .inl ⟨wanted_free rfl, gp_load (.tmp 2) rfl (show a.eval (.tmp 2) = (.pointer (some ⟨w.heap.size, 0, none⟩)) from ((hk.old 2 (by kernel_rfl)).trans rfl)) ((fun (q : After _) => load3 (fun w => by kernel_rfl) (fun w => by kernel_rfl) (keep q.bel c0) (keep q.bel c1) (keep q.bel c2)) ⟨wx, hk.below⟩) ⟨Below.refl _ _, rfl⟩⟩
            · exact .inl ⟨wanted_free rfl, gp_call rfl (hk.fn _) #[.agg #[.slice W.wa W.ws.length W.wc, .slice W.pa W.ps.length W.pc, .slice W.ca W.cs.length W.cc], .agg #[.slice V.wa V.ws.length V.wc, .slice V.pa V.ps.length V.pc, .slice V.ca V.cs.length V.cc]] (fun w => by kernel_rfl) (by simp only [List.map_toArray, List.map_cons, List.map_nil, (show a.eval (.tmp 29) = (.agg #[.slice W.wa W.ws.length W.wc, .slice W.pa W.ps.length W.pc, .slice W.ca W.cs.length W.cc]) from hk.slot 29 (by kernel_rfl)), (show a.eval (.tmp 30) = (.agg #[.slice V.wa V.ws.length V.wc, .slice V.pa V.ps.length V.pc, .slice V.ca V.cs.length V.cc]) from hk.slot 30 (by kernel_rfl))]) (((fun (q : After _) => HC2.out q) ⟨wx, hk.below⟩).mono fun e w' ⟨he, hb⟩ => ⟨_, he, hb, rfl⟩)⟩
            · exact .inl ⟨wanted_free rfl, gp_bin rfl (show a.eval (.tmp 28) = (.int .i64 R) from hk.slot 28 (by kernel_rfl)) (show a.eval (.tmp 31) = (.int .i64 R) from hk.slot 31 (by kernel_rfl)) (v := .bool true) (fun w => by go_simp) ⟨Below.refl _ _, rfl⟩⟩
            · exact .inl ⟨wanted_free rfl, gp_move (.tmp 32) rfl ⟨Below.refl _ _, hk.slot 32 (by kernel_rfl)⟩⟩
            · exact .inl ⟨wanted_by 33 true (by kernel_rfl) (show a.eval (.tmp 33) = .bool true from hk.slot 33 (by kernel_rfl)), gp_load (.tmp 2) rfl (show a.eval (.tmp 2) = (.pointer (some ⟨w.heap.size, 0, none⟩)) from ((hk.old 2 (by kernel_rfl)).trans rfl)) ((fun (q : After _) => load3 (fun w => by kernel_rfl) (fun w => by kernel_rfl) (keep q.bel c0) (keep q.bel c1) (keep q.bel c2)) ⟨wx, hk.below⟩) ⟨Below.refl _ _, rfl⟩⟩
            · exact .inl ⟨wanted_by 33 true (by kernel_rfl) (show a.eval (.tmp 33) = .bool true from hk.slot 33 (by kernel_rfl)), gp_load (.tmp 3) rfl (show a.eval (.tmp 3) = (.pointer (some ⟨w.heap.size + 1, 0, none⟩)) from ((hk.old 3 (by kernel_rfl)).trans rfl)) ((fun (q : After _) => load3 (fun w => by kernel_rfl) (fun w => by kernel_rfl) (keep q.bel d0) (keep q.bel d1) (keep q.bel d2)) ⟨wx, hk.below⟩) ⟨Below.refl _ _, rfl⟩⟩
            · exact .inl ⟨wanted_by 33 true (by kernel_rfl) (show a.eval (.tmp 33) = .bool true from hk.slot 33 (by kernel_rfl)), gp_call rfl (hk.fn _) #[.agg #[.slice V.wa V.ws.length V.wc, .slice V.pa V.ps.length V.pc, .slice V.ca V.cs.length V.cc], .agg #[.slice W.wa W.ws.length W.wc, .slice W.pa W.ps.length W.pc, .slice W.ca W.cs.length W.cc]] (fun w => by kernel_rfl) (by simp only [List.map_toArray, List.map_cons, List.map_nil, (show a.eval (.tmp 34) = (.agg #[.slice V.wa V.ws.length V.wc, .slice V.pa V.ps.length V.pc, .slice V.ca V.cs.length V.cc]) from hk.slot 34 (by kernel_rfl)), (show a.eval (.tmp 35) = (.agg #[.slice W.wa W.ws.length W.wc, .slice W.pa W.ps.length W.pc, .slice W.ca W.cs.length W.cc]) from hk.slot 35 (by kernel_rfl))]) (((fun (q : After _) => HC3.out q) ⟨wx, hk.below⟩).mono fun e w' ⟨b, c, he, hv, hb⟩ => ⟨_, he, hb, b, c, rfl, hv⟩)⟩
            · exact .inl ⟨wanted_by 33 true (by kernel_rfl) (show a.eval (.tmp 33) = .bool true from hk.slot 33 (by kernel_rfl)), gp_load (.tmp 3) rfl (show a.eval (.tmp 3) = (.pointer (some ⟨w.heap.size + 1, 0, none⟩)) from ((hk.old 3 (by kernel_rfl)).trans rfl)) ((fun (q : After _) => load3 (fun w => by kernel_rfl) (fun w => by kernel_rfl) (keep q.bel d0) (keep q.bel d1) (keep q.bel d2)) ⟨wx, hk.below⟩) ⟨Below.refl _ _, rfl⟩⟩
            · exact .inl ⟨wanted_by 33 true (by kernel_rfl) (show a.eval (.tmp 33) = .bool true from hk.slot 33 (by kernel_rfl)), gp_load (.tmp 2) rfl (show a.eval (.tmp 2) = (.pointer (some ⟨w.heap.size, 0, none⟩)) from ((hk.old 2 (by kernel_rfl)).trans rfl)) ((fun (q : After _) => load3 (fun w => by kernel_rfl) (fun w => by kernel_rfl) (keep q.bel c0) (keep q.bel c1) (keep q.bel c2)) ⟨wx, hk.below⟩) ⟨Below.refl _ _, rfl⟩⟩
            · exact .inl ⟨wanted_by 33 true (by kernel_rfl) (show a.eval (.tmp 33) = .bool true from hk.slot 33 (by kernel_rfl)), gp_call rfl (hk.fn _) #[.agg #[.slice W.wa W.ws.length W.wc, .slice W.pa W.ps.length W.pc, .slice W.ca W.cs.length W.cc], .agg #[.slice V.wa V.ws.length V.wc, .slice V.pa V.ps.length V.pc, .slice V.ca V.cs.length V.cc]] (fun w => by kernel_rfl) (by simp only [List.map_toArray, List.map_cons, List.map_nil, (show a.eval (.tmp 37) = (.agg #[.slice W.wa W.ws.length W.wc, .slice W.pa W.ps.length W.pc, .slice W.ca W.cs.length W.cc]) from hk.slot 37 (by kernel_rfl)), (show a.eval (.tmp 38) = (.agg #[.slice V.wa V.ws.length V.wc, .slice V.pa V.ps.length V.pc, .slice V.ca V.cs.length V.cc]) from hk.slot 38 (by kernel_rfl))]) (((fun (q : After _) => HC4.out q) ⟨wx, hk.below⟩).mono fun e w' ⟨b, c, he, hv, hb⟩ => ⟨_, he, hb, b, c, rfl, hv⟩)⟩
            · obtain ⟨b1, k1, e1, q1⟩ := hk.slot 36 (by kernel_rfl)
              obtain ⟨b2, k2, e2, q2⟩ := hk.slot 39 (by kernel_rfl)
              exact .inl ⟨wanted_by 33 true (by kernel_rfl) (show a.eval (.tmp 33) = .bool true from hk.slot 33 (by kernel_rfl)), gp_call rfl (hk.fn _) #[.slice b1 (partsK V W).length k1, .slice b2 (partsK V W).length k2] (fun w => by kernel_rfl) (by simp only [List.map_toArray, List.map_cons, List.map_nil, show a.eval (.tmp 36) = _ from e1, show a.eval (.tmp 39) = _ from e2]) ((same_eq wx b1 b2 _ k1 k2 q1 q2).mono fun e w' ⟨he, hb⟩ => ⟨_, he, hb, rfl⟩)⟩
            · exact .inl ⟨wanted_free rfl, gp_pick rfl true (show a.eval (.tmp 33) = (.bool true) from hk.slot 33 (by kernel_rfl)) ⟨Below.refl _ _, (show a.eval (.tmp 40) = (.bool true) from hk.slot 40 (by kernel_rfl))⟩⟩
            · exact .inl ⟨wanted_free rfl, gp_move (.tmp 41) rfl ⟨Below.refl _ _, hk.slot 41 (by kernel_rfl)⟩⟩
            · exact .inl ⟨wanted_by 42 true (by kernel_rfl) (show a.eval (.tmp 42) = .bool true from hk.slot 42 (by kernel_rfl)), gp_load (.tmp 2) rfl (show a.eval (.tmp 2) = (.pointer (some ⟨w.heap.size, 0, none⟩)) from ((hk.old 2 (by kernel_rfl)).trans rfl)) ((fun (q : After _) => load3 (fun w => by kernel_rfl) (fun w => by kernel_rfl) (keep q.bel c0) (keep q.bel c1) (keep q.bel c2)) ⟨wx, hk.below⟩) ⟨Below.refl _ _, rfl⟩⟩
            · exact .inl ⟨wanted_by 42 true (by kernel_rfl) (show a.eval (.tmp 42) = .bool true from hk.slot 42 (by kernel_rfl)), gp_load (.tmp 3) rfl (show a.eval (.tmp 3) = (.pointer (some ⟨w.heap.size + 1, 0, none⟩)) from ((hk.old 3 (by kernel_rfl)).trans rfl)) ((fun (q : After _) => load3 (fun w => by kernel_rfl) (fun w => by kernel_rfl) (keep q.bel d0) (keep q.bel d1) (keep q.bel d2)) ⟨wx, hk.below⟩) ⟨Below.refl _ _, rfl⟩⟩
            · exact .inl ⟨wanted_by 42 true (by kernel_rfl) (show a.eval (.tmp 42) = .bool true from hk.slot 42 (by kernel_rfl)), gp_call rfl (hk.fn _) #[.agg #[.slice V.wa V.ws.length V.wc, .slice V.pa V.ps.length V.pc, .slice V.ca V.cs.length V.cc], .agg #[.slice W.wa W.ws.length W.wc, .slice W.pa W.ps.length W.pc, .slice W.ca W.cs.length W.cc]] (fun w => by kernel_rfl) (by simp only [List.map_toArray, List.map_cons, List.map_nil, (show a.eval (.tmp 43) = (.agg #[.slice V.wa V.ws.length V.wc, .slice V.pa V.ps.length V.pc, .slice V.ca V.cs.length V.cc]) from hk.slot 43 (by kernel_rfl)), (show a.eval (.tmp 44) = (.agg #[.slice W.wa W.ws.length W.wc, .slice W.pa W.ps.length W.pc, .slice W.ca W.cs.length W.cc]) from hk.slot 44 (by kernel_rfl))]) (((fun (q : After _) => HC5.out q) ⟨wx, hk.below⟩).mono fun e w' ⟨b, c, he, hv, hb⟩ => ⟨_, he, hb, b, c, rfl, hv⟩)⟩
            · exact .inl ⟨wanted_by 42 true (by kernel_rfl) (show a.eval (.tmp 42) = .bool true from hk.slot 42 (by kernel_rfl)), gp_load (.tmp 3) rfl (show a.eval (.tmp 3) = (.pointer (some ⟨w.heap.size + 1, 0, none⟩)) from ((hk.old 3 (by kernel_rfl)).trans rfl)) ((fun (q : After _) => load3 (fun w => by kernel_rfl) (fun w => by kernel_rfl) (keep q.bel d0) (keep q.bel d1) (keep q.bel d2)) ⟨wx, hk.below⟩) ⟨Below.refl _ _, rfl⟩⟩
            · exact .inl ⟨wanted_by 42 true (by kernel_rfl) (show a.eval (.tmp 42) = .bool true from hk.slot 42 (by kernel_rfl)), gp_load (.tmp 2) rfl (show a.eval (.tmp 2) = (.pointer (some ⟨w.heap.size, 0, none⟩)) from ((hk.old 2 (by kernel_rfl)).trans rfl)) ((fun (q : After _) => load3 (fun w => by kernel_rfl) (fun w => by kernel_rfl) (keep q.bel c0) (keep q.bel c1) (keep q.bel c2)) ⟨wx, hk.below⟩) ⟨Below.refl _ _, rfl⟩⟩
            · exact .inl ⟨wanted_by 42 true (by kernel_rfl) (show a.eval (.tmp 42) = .bool true from hk.slot 42 (by kernel_rfl)), gp_call rfl (hk.fn _) #[.agg #[.slice W.wa W.ws.length W.wc, .slice W.pa W.ps.length W.pc, .slice W.ca W.cs.length W.cc], .agg #[.slice V.wa V.ws.length V.wc, .slice V.pa V.ps.length V.pc, .slice V.ca V.cs.length V.cc]] (fun w => by kernel_rfl) (by simp only [List.map_toArray, List.map_cons, List.map_nil, (show a.eval (.tmp 46) = (.agg #[.slice W.wa W.ws.length W.wc, .slice W.pa W.ps.length W.pc, .slice W.ca W.cs.length W.cc]) from hk.slot 46 (by kernel_rfl)), (show a.eval (.tmp 47) = (.agg #[.slice V.wa V.ws.length V.wc, .slice V.pa V.ps.length V.pc, .slice V.ca V.cs.length V.cc]) from hk.slot 47 (by kernel_rfl))]) (((fun (q : After _) => HC6.out q) ⟨wx, hk.below⟩).mono fun e w' ⟨b, c, he, hv, hb⟩ => ⟨_, he, hb, b, c, rfl, hv⟩)⟩
            · obtain ⟨b1, k1, e1, q1⟩ := hk.slot 45 (by kernel_rfl)
              obtain ⟨b2, k2, e2, q2⟩ := hk.slot 48 (by kernel_rfl)
              exact .inl ⟨wanted_by 42 true (by kernel_rfl) (show a.eval (.tmp 42) = .bool true from hk.slot 42 (by kernel_rfl)), gp_call rfl (hk.fn _) #[.slice b1 (chansK V W).length k1, .slice b2 (chansK V W).length k2] (fun w => by kernel_rfl) (by simp only [List.map_toArray, List.map_cons, List.map_nil, show a.eval (.tmp 45) = _ from e1, show a.eval (.tmp 48) = _ from e2]) ((same_eq wx b1 b2 _ k1 k2 q1 q2).mono fun e w' ⟨he, hb⟩ => ⟨_, he, hb, rfl⟩)⟩
            · exact .inl ⟨wanted_free rfl, gp_pick rfl true (show a.eval (.tmp 42) = (.bool true) from hk.slot 42 (by kernel_rfl)) ⟨Below.refl _ _, (show a.eval (.tmp 49) = (.bool true) from hk.slot 49 (by kernel_rfl))⟩⟩
            · exact .inl ⟨wanted_free rfl, gp_move (.tmp 50) rfl ⟨Below.refl _ _, hk.slot 50 (by kernel_rfl)⟩⟩
            · exact .inl ⟨wanted_by 51 true (by kernel_rfl) (show a.eval (.tmp 51) = .bool true from hk.slot 51 (by kernel_rfl)), gp_call rfl (hk.fn _) #[] (fun w => by kernel_rfl) (by rw [List.map_toArray]; rfl) (((fun (q : After _) => awake13_calls q.to) ⟨wx, hk.below⟩).mono fun e w' ⟨he, hb⟩ => ⟨_, he, hb, rfl⟩)⟩
            · exact .inl ⟨wanted_free rfl, gp_pick rfl true (show a.eval (.tmp 51) = (.bool true) from hk.slot 51 (by kernel_rfl)) ⟨Below.refl _ _, (show a.eval (.tmp 52) = (.bool true) from hk.slot 52 (by kernel_rfl))⟩⟩
            · exact .inl ⟨wanted_free rfl, gp_assign (.tmp 53) rfl ⟨Below.refl _ _, hk.slot 53 (by kernel_rfl)⟩⟩
          intro a wy hbz hsame hall
          have he := act_same hsame [26, 27, 28, 29, 30, 31, 32, 33, 34, 35, 36, 37, 38, 39, 40, 41, 42, 43, 44, 45, 46, 47, 48, 49, 50, 51, 52, 53, 4] (by kernel_rfl)
          simp only [List.foldl_cons, List.foldl_nil] at he
          rw [show a.eval (.tmp 4) = (.bool true) from hall 4 (by kernel_rfl)] at he
          generalize a.eval (.tmp 26) = y26 at he
          generalize a.eval (.tmp 27) = y27 at he
          generalize a.eval (.tmp 28) = y28 at he
          generalize a.eval (.tmp 29) = y29 at he
          generalize a.eval (.tmp 30) = y30 at he
          generalize a.eval (.tmp 31) = y31 at he
          generalize a.eval (.tmp 32) = y32 at he
          generalize a.eval (.tmp 33) = y33 at he
          generalize a.eval (.tmp 34) = y34 at he
          generalize a.eval (.tmp 35) = y35 at he
          generalize a.eval (.tmp 36) = y36 at he
          generalize a.eval (.tmp 37) = y37 at he
          generalize a.eval (.tmp 38) = y38 at he
          generalize a.eval (.tmp 39) = y39 at he
          generalize a.eval (.tmp 40) = y40 at he
          generalize a.eval (.tmp 41) = y41 at he
          generalize a.eval (.tmp 42) = y42 at he
          generalize a.eval (.tmp 43) = y43 at he
          generalize a.eval (.tmp 44) = y44 at he
          generalize a.eval (.tmp 45) = y45 at he
          generalize a.eval (.tmp 46) = y46 at he
          generalize a.eval (.tmp 47) = y47 at he
          generalize a.eval (.tmp 48) = y48 at he
          generalize a.eval (.tmp 49) = y49 at he
          generalize a.eval (.tmp 50) = y50 at he
          generalize a.eval (.tmp 51) = y51 at he
          generalize a.eval (.tmp 52) = y52 at he
          generalize a.eval (.tmp 53) = y53 at he
          simp only [put_lit] at he
          dsimp only [List.set_cons_zero, List.set_cons_succ] at he
          subst he
          clear hsame hall
          have HZ := Lib.hid (HB2.out.trans ((HBw.out.trans (hbz.mono HBw.out.size)).mono HB2.out.size))
          clear hbz c0 c1 c2 d0 d1 d2
          go_wp2_with fail
          go_ret
          exact ⟨rfl, HB0.out.trans (HZ.out.mono HB0.out.size)⟩
end Go.Proofs.Ytpnbaapjjchlbaa
