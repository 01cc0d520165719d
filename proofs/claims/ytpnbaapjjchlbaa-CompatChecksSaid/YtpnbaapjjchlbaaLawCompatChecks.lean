/- CompatChecks: the walk of the law. -/
import Derived.Test.YtpnbaapjjchlbaaLawCompatLists
namespace Go.Proofs.Ytpnbaapjjchlbaa
open Go Go.RowKit Go.Cit

def cc3B : Boxes := ⟨2, fun j => if j = 0 then 4 else 5, fun j => if j = 0 then 6 else 7, fun j => if j = 0 then 7 else 8, fun _ => 26, fun _ => #[.slice none 0 0, .slice none 0 0, .slice none 0 0]⟩
def cc3X (V W : CfgV) (N j : Nat) (C : Array Value) (w : World) : Prop := if j = 0 then isCbx V.cfg N C w else isCbx W.cfg N C w
def cc3T (V W : CfgV) (N : Nat) : Nat → Value → World → Prop
  | 15, v, _ => v = .agg #[.slice V.wa V.ws.length V.wc, .slice V.pa V.ps.length V.pc, .slice V.ca V.cs.length V.cc]
  | 16, v, w => isCf V.cfg N v w
  | 17, v, _ => v = .agg #[.slice W.wa W.ws.length W.wc, .slice W.pa W.ps.length W.pc, .slice W.ca W.cs.length W.cc]
  | 18, v, w => isCf W.cfg N v w
  | _, _, _ => True
theorem cc3X_bx {V W : CfgV} {N j : Nat} {C : Array Value} {w0 w1 w2 : World} (hG : bxG cc3B w0 w1 w2) (h : cc3X V W N j C w1) : cc3X V W N j C w2 := by
  unfold cc3X at *
  split at h
  · rw [if_pos ‹_›]; exact isCbx_bx (fun _ _ => rfl) hG h
  · rw [if_neg ‹_›]; exact isCbx_bx (fun _ _ => rfl) hG h
theorem cc3T_bx {V W : CfgV} {N d : Nat} {v : Value} {w0 w1 w2 : World} (hG : bxG cc3B w0 w1 w2) (h : cc3T V W N d v w1) : cc3T V W N d v w2 := by
  unfold cc3T at *
  split at h
  all_goals first
    | exact h
    | exact isCf_bx (fun _ _ => rfl) hG h
    | trivial
theorem ne13c {n : Nat} {o : Option Nat} (h1 : n ≠ 4 ∧ n ≠ 5) (h2 : n ≠ 6 ∧ n ≠ 7) (h3 : o ≠ some 7) (h4 : o ≠ some 8) : ∀ j, j < cc3B.nb → n ≠ cc3B.ia j ∧ n ≠ cc3B.is_ j ∧ o ≠ some (cc3B.d j) := by
  intro j hj
  rcases (show j = 0 ∨ j = 1 by have : j < 2 := hj; omega) with rfl | rfl
  · exact ⟨h1.1, h2.1, h3⟩
  · exact ⟨h1.2, h2.2, h4⟩
def cc4 (V W X Y : CfgV) (id R : Int) (S : Bool) : Nat → Value → World → Prop
  | 19 => fun v _ => v = (.agg #[.slice X.wa X.ws.length X.wc, .slice X.pa X.ps.length X.pc, .slice X.ca X.cs.length X.cc])
  | 20 => fun v _ => v = (.agg #[.slice Y.wa Y.ws.length Y.wc, .slice Y.pa Y.ps.length Y.pc, .slice Y.ca Y.cs.length Y.cc])
  | 21 => fun v _ => v = (.int .i64 R)
  | 22 => fun v _ => v = (.agg #[.slice V.wa V.ws.length V.wc, .slice V.pa V.ps.length V.pc, .slice V.ca V.cs.length V.cc])
  | 23 => fun v _ => v = (.agg #[.slice W.wa W.ws.length W.wc, .slice W.pa W.ps.length W.pc, .slice W.ca W.cs.length W.cc])
  | 24 => fun v _ => v = (.int .i64 R)
  | 25 => fun v _ => v = (.bool false)
  | 26 => fun v _ => v = (.bool false)
  | 27 => fun v _ => v = (.agg #[.slice X.wa X.ws.length X.wc, .slice X.pa X.ps.length X.pc, .slice X.ca X.cs.length X.cc])
  | 28 => fun v _ => v = (.agg #[.slice Y.wa Y.ws.length Y.wc, .slice Y.pa Y.ps.length Y.pc, .slice Y.ca Y.cs.length Y.cc])
  | 29 => fun v _ => v = (.int .i64 id)
  | 30 => fun v _ => v = (.bool S)
  | 31 => fun v _ => v = (.agg #[.slice V.wa V.ws.length V.wc, .slice V.pa V.ps.length V.pc, .slice V.ca V.cs.length V.cc])
  | 32 => fun v _ => v = (.agg #[.slice W.wa W.ws.length W.wc, .slice W.pa W.ps.length W.pc, .slice W.ca W.cs.length W.cc])
  | 33 => fun v _ => v = (.int .i64 id)
  | 34 => fun v _ => v = (.bool S)
  | 35 => fun v _ => v = (.bool false)
  | 36 => fun v _ => v = (.bool false)
  | _ => fun _ _ => True
theorem cc4_stay (V W X Y : CfgV) (id R : Int) (S : Bool) : ∀ d v w1 w2, Below w1.heap.size w1 w2 → cc4 V W X Y id R S d v w1 → cc4 V W X Y id R S d v w2 := by
  intro d v w1 w2 hb h
  unfold cc4 at h ⊢
  split at h <;> first | exact h | exact tE_stay hb h | trivial
def cc6 (V W X Y : CfgV) : Nat → Value → World → Prop
  | 37 => fun v _ => v = (.agg #[.slice X.wa X.ws.length X.wc, .slice X.pa X.ps.length X.pc, .slice X.ca X.cs.length X.cc])
  | 38 => fun v _ => v = (.agg #[.slice Y.wa Y.ws.length Y.wc, .slice Y.pa Y.ps.length Y.pc, .slice Y.ca Y.cs.length Y.cc])
  | 39 => tE (partsK V W)
  | 40 => fun v _ => v = (.agg #[.slice V.wa V.ws.length V.wc, .slice V.pa V.ps.length V.pc, .slice V.ca V.cs.length V.cc])
  | 41 => fun v _ => v = (.agg #[.slice W.wa W.ws.length W.wc, .slice W.pa W.ps.length W.pc, .slice W.ca W.cs.length W.cc])
  | 42 => tE (partsK V W)
  | 43 => fun v _ => v = (.bool true)
  | 44 => fun v _ => v = (.bool true)
  | 45 => fun v _ => v = (.agg #[.slice X.wa X.ws.length X.wc, .slice X.pa X.ps.length X.pc, .slice X.ca X.cs.length X.cc])
  | 46 => fun v _ => v = (.agg #[.slice V.wa V.ws.length V.wc, .slice V.pa V.ps.length V.pc, .slice V.ca V.cs.length V.cc])
  | 47 => fun v _ => v = (.bool true)
  | 48 => fun v _ => v = (.bool true)
  | 49 => fun v _ => v = (.bool true)
  | 50 => fun v _ => v = (.agg #[.slice Y.wa Y.ws.length Y.wc, .slice Y.pa Y.ps.length Y.pc, .slice Y.ca Y.cs.length Y.cc])
  | 51 => fun v _ => v = (.agg #[.slice W.wa W.ws.length W.wc, .slice W.pa W.ps.length W.pc, .slice W.ca W.cs.length W.cc])
  | 52 => fun v _ => v = (.bool true)
  | 53 => fun v _ => v = (.bool true)
  | 54 => fun v _ => v = (.bool true)
  | 55 => fun v _ => v = (.bool true)
  | 56 => fun v _ => v = (.bool true)
  | 6 => fun v _ => v = (.bool true)
  | _ => fun _ _ => True
theorem cc6_stay (V W X Y : CfgV) : ∀ d v w1 w2, Below w1.heap.size w1 w2 → cc6 V W X Y d v w1 → cc6 V W X Y d v w2 := by
  intro d v w1 w2 hb h
  unfold cc6 at h ⊢
  split at h <;> first | exact h | exact tE_stay hb h | trivial
set_option maxRecDepth 100000 in
set_option maxHeartbeats 4000000 in
theorem compatChecks_law (w : World) (V W : CfgV) (id : Int) (h : V.At w) (hb : ∀ x ∈ V.ps, x.img.length ≤ 140737488351232) (k : W.At w) (kb : ∀ x ∈ W.ps, x.img.length ≤ 140737488351232) : Calls Try.prog 7 #[.agg #[.slice V.wa V.ws.length V.wc, .slice V.pa V.ps.length V.pc, .slice V.ca V.cs.length V.cc], .agg #[.slice W.wa W.ws.length W.wc, .slice W.pa W.ps.length W.pc, .slice W.ca W.cs.length W.cc], .int .i64 id] w fun e w' => e = .returned (.bool true) ∧ Below w.heap.size w w' := by
  obtain ⟨w0, hw0⟩ : ∃ w0, w0 = (w.alloc (.cells #[.slice V.wa V.ws.length V.wc, .slice V.pa V.ps.length V.pc, .slice V.ca V.cs.length V.cc] 26)).alloc (.cells #[.slice W.wa W.ws.length W.wc, .slice W.pa W.ps.length W.pc, .slice W.ca W.cs.length W.cc] 26) := ⟨_, rfl⟩
  have B0 : Below w.heap.size w w0 := by rw [hw0]; exact ((Below.refl _ w).alloc (Nat.le_refl _) _).alloc (by simp) _
  have hI := two_box w V W
  rw [← hw0] at hI
  have HI := Lib.hid hI
  have HV := Lib.hid (h.stay B0)
  have HK := Lib.hid (k.stay B0)
  have HB0 := Lib.hid B0
  have HKB := Lib.hid kb
  obtain ⟨g1, hg1⟩ : ∃ g, Hid (g = greatV V) := ⟨_, rfl⟩
  obtain ⟨g2, hg2⟩ : ∃ g, Hid (g = greatV W) := ⟨_, rfl⟩
  have hc := cgreat_calls w0 V HV.out hb
  rw [← hg1.out] at hc
  have HC := Lib.hid hc
  clear h k B0 hI hb kb hc
  obtain ⟨⟨c0, c1, c2⟩, ⟨d0, d1, d2⟩⟩ := HI.out
  go_enter Try.func7, Try.ntmps7
  go_wp2_with fail
  rw [← hw0]
  clear hw0
  refine (HC.out).mono ?_
  rintro e w1 ⟨rfl, hb1⟩
  have HB1 := Lib.hid hb1
  clear c0 c1 c2 d0 d1 d2 HC hb1
  cases g1 with
  | true =>
    go_wp2_with fail
    go_ret
    exact ⟨rfl, HB0.out.trans (HB1.out.mono HB0.out.size)⟩
  | false =>
    obtain ⟨d0, d1, d2⟩ := HI.out.2.keep HB1.out
    have hc := cgreat_calls w1 W (HK.out.stay HB1.out) HKB.out
    rw [← hg2.out] at hc
    have HC := Lib.hid hc
    clear hc
    go_wp2_with fail
    refine (HC.out).mono ?_
    rintro e w2 ⟨rfl, hb2⟩
    have HB2 := Lib.hid (HB1.out.trans (hb2.mono HB1.out.size))
    clear d0 d1 d2 hb2 HC
    cases g2 with
    | true =>
      go_wp2_with fail
      go_ret
      exact ⟨rfl, HB0.out.trans (HB2.out.mono HB0.out.size)⟩
    | false =>
      have hs := small_of hg1.out.symm
      have ks := small_of hg2.out.symm
      have hV2 := HV.out.stay HB2.out
      have hW2 := HK.out.stay HB2.out
      obtain ⟨c0, c1, c2⟩ := HI.out.1.keep HB2.out
      obtain ⟨d0, d1, d2⟩ := HI.out.2.keep HB2.out
      go_upto_region 3 with fail
      refine wp_region_boxes cc3B (cc3X V W w2.heap.size) (cc3T V W w2.heap.size) (by kernel_rfl) (by kernel_rfl) (by kernel_rfl) (fun _ _ _ _ hG h => cc3T_bx hG h) (fun _ _ _ _ hG h => cc3X_bx hG h) ?_ ?_ (fun j hj => by
          rcases (show j = 0 ∨ j = 1 by have : j < 2 := hj; omega) with rfl | rfl <;> exact ⟨by decide, by decide⟩)
      · refine opsAll_cons ?_ (opsAll_cons ?_ (opsAll_cons ?_ (opsAll_cons ?_ (opsAll_cons ?_ (opsAll_cons ?_ (opsAll_cons ?_ (opsAll_cons ?_ opsAll_nil)))))))
        all_goals intro δ wa wx hk
        · exact .inl ⟨wanted_free rfl, ne13c (by decide) (by decide) (by decide) (by decide), gp_load (.tmp 3) rfl ((hk.old 3 (by kernel_rfl)).trans rfl) (load3 (fun w => by kernel_rfl) (fun w => by kernel_rfl) (keep hk.inv.1 c0) (keep hk.inv.1 c1) (keep hk.inv.1 c2)) ⟨Below.refl _ _, rfl⟩⟩
        · exact .inl ⟨wanted_free rfl, ne13c (by decide) (by decide) (by decide) (by decide), gp_call rfl rfl #[.agg #[.slice V.wa V.ws.length V.wc, .slice V.pa V.ps.length V.pc, .slice V.ca V.cs.length V.cc]] (fun w => by kernel_rfl) (by simp only [List.map_toArray, List.map_cons, List.map_nil, show wa.eval (.tmp 15) = _ from hk.slot 15 (by kernel_rfl)]) ((copied_calls wx V (hV2.stay hk.inv.1) hs).mono fun e w' ⟨U, he, hu, ho, hb⟩ => ⟨_, he, hb, U, rfl, hu, ho.low hk.inv.1.size⟩)⟩
        · exact .inl ⟨wanted_free rfl, ne13c (by decide) (by decide) (by decide) (by decide), gp_load (.tmp 4) rfl ((hk.old 4 (by kernel_rfl)).trans rfl) (load3 (fun w => by kernel_rfl) (fun w => by kernel_rfl) (keep hk.inv.1 d0) (keep hk.inv.1 d1) (keep hk.inv.1 d2)) ⟨Below.refl _ _, rfl⟩⟩
        · exact .inl ⟨wanted_free rfl, ne13c (by decide) (by decide) (by decide) (by decide), gp_call rfl rfl #[.agg #[.slice W.wa W.ws.length W.wc, .slice W.pa W.ps.length W.pc, .slice W.ca W.cs.length W.cc]] (fun w => by kernel_rfl) (by simp only [List.map_toArray, List.map_cons, List.map_nil, show wa.eval (.tmp 17) = _ from hk.slot 17 (by kernel_rfl)]) ((copied_calls wx W (hW2.stay hk.inv.1) ks).mono fun e w' ⟨U, he, hu, ho, hb⟩ => ⟨_, he, hb, U, rfl, hu, ho.low hk.inv.1.size⟩)⟩
        · exact .inr (.inl ⟨0, by decide, rfl, rfl, rfl, calloc3 _ _ _ rfl, fun _ _ => trivial⟩)
        · exact .inr (.inl ⟨1, by decide, rfl, rfl, rfl, calloc3 _ _ _ rfl, fun _ _ => trivial⟩)
        · obtain ⟨U, eU, hU⟩ := hk.slot 16 (by kernel_rfl)
          exact .inr (.inr ⟨0, cU U, by decide, rfl, rfl, rfl, ⟨U, rfl, hU⟩, rfl, fun g D hg hD hDs => storeCf _ _ _ _ _ rfl hg eU hD hDs⟩)
        · obtain ⟨U, eU, hU⟩ := hk.slot 18 (by kernel_rfl)
          exact .inr (.inr ⟨1, cU U, by decide, rfl, rfl, rfl, ⟨U, rfl, hU⟩, rfl, fun g D hg hD hDs => storeCf _ _ _ _ _ rfl hg eU hD hDs⟩)
      intro a wz hbz hsame hall hbox
      obtain ⟨p1, C1, ep1, _, hC1, hX1, _⟩ := hbox 0 (by decide)
      obtain ⟨p2, C2, ep2, _, hC2, hX2, _⟩ := hbox 1 (by decide)
      obtain ⟨X, rfl, hX⟩ := hX1
      obtain ⟨Y, rfl, hY⟩ := hX2
      have he := act_same hsame [15, 16, 17, 18, 7, 8] (by kernel_rfl)
      simp only [List.foldl_cons, List.foldl_nil] at he
      rw [show a.eval (.tmp 7) = _ from ep1, show a.eval (.tmp 8) = _ from ep2] at he
      generalize a.eval (.tmp 15) = y15 at he
      generalize a.eval (.tmp 16) = y16 at he
      generalize a.eval (.tmp 17) = y17 at he
      generalize a.eval (.tmp 18) = y18 at he
      simp only [put_lit] at he
      dsimp only [List.set_cons_zero, List.set_cons_succ] at he
      subst he
      have HZ := Lib.hid (HB2.out.trans (hbz.mono HB2.out.size))
      have HXY := Lib.hid (And.intro hX (And.intro hY (And.intro hC1 hC2)))
      have HVW := Lib.hid (And.intro (hV2.stay hbz) (hW2.stay hbz))
      have HSM := Lib.hid (And.intro hs (And.intro ks (And.intro (small_cfg hX.1 hs) (small_cfg hY.1 ks))))
      clear hbz c0 c1 c2 d0 d1 d2 hX hY hs ks hV2 hW2 hsame hall hbox ep1 ep2 hC1 hC2
      obtain ⟨R, hR⟩ : ∃ R, Hid (R = checkK V W) := ⟨_, rfl⟩
      obtain ⟨S, hS⟩ : ∃ S, Hid (S = survK V W id) := ⟨_, rfl⟩
      have HC1 : Hid (∀ q : After wz, Calls Try.prog 34 #[.agg #[.slice X.wa X.ws.length X.wc, .slice X.pa X.ps.length X.pc, .slice X.ca X.cs.length X.cc], .agg #[.slice Y.wa Y.ws.length Y.wc, .slice Y.pa Y.ps.length Y.pc, .slice Y.ca Y.cs.length Y.cc]] q.to fun e w' => e = .returned (.int .i64 R) ∧ Below q.to.heap.size q.to w') := fun q => by
        have := ccheck_calls q.to X Y (HXY.out.1.2.at.stay q.bel) (HXY.out.2.1.2.at.stay q.bel) HSM.out.2.2.1 HSM.out.2.2.2
        rwa [check_cfg HXY.out.1.1 HXY.out.2.1.1, ← hR.out] at this
      have HC2 : Hid (∀ q : After wz, Calls Try.prog 35 #[.agg #[.slice V.wa V.ws.length V.wc, .slice V.pa V.ps.length V.pc, .slice V.ca V.cs.length V.cc], .agg #[.slice W.wa W.ws.length W.wc, .slice W.pa W.ps.length W.pc, .slice W.ca W.cs.length W.cc]] q.to fun e w' => e = .returned (.int .i64 R) ∧ Below q.to.heap.size q.to w') := fun q => by
        have := refchk_calls q.to V W (HVW.out.1.stay q.bel) (HVW.out.2.stay q.bel) HSM.out.1 HSM.out.2.1
        rwa [← check_is, ← hR.out] at this
      have HC3 : Hid (∀ q : After wz, Calls Try.prog 36 #[.agg #[.slice X.wa X.ws.length X.wc, .slice X.pa X.ps.length X.pc, .slice X.ca X.cs.length X.cc], .agg #[.slice Y.wa Y.ws.length Y.wc, .slice Y.pa Y.ps.length Y.pc, .slice Y.ca Y.cs.length Y.cc], .int .i64 id] q.to fun e w' => e = .returned (.bool S) ∧ Below q.to.heap.size q.to w') := fun q => by
        have := surv_calls q.to X Y (HXY.out.1.2.at.stay q.bel) (HXY.out.2.1.2.at.stay q.bel) HSM.out.2.2.1 HSM.out.2.2.2 id
        rwa [surv_cfg HXY.out.1.1 HXY.out.2.1.1, ← hS.out] at this
      have HC4 : Hid (∀ q : After wz, Calls Try.prog 37 #[.agg #[.slice V.wa V.ws.length V.wc, .slice V.pa V.ps.length V.pc, .slice V.ca V.cs.length V.cc], .agg #[.slice W.wa W.ws.length W.wc, .slice W.pa W.ps.length W.pc, .slice W.ca W.cs.length W.cc], .int .i64 id] q.to fun e w' => e = .returned (.bool S) ∧ Below q.to.heap.size q.to w') := fun q => by
        have := refsurv_calls q.to V W (HVW.out.1.stay q.bel) (HVW.out.2.stay q.bel) HSM.out.1 HSM.out.2.1 id
        rwa [← hS.out] at this
      obtain ⟨c0, c1, c2⟩ := HI.out.1.keep HZ.out
      obtain ⟨d0, d1, d2⟩ := HI.out.2.keep HZ.out
      obtain ⟨e0, e1, e2⟩ := cU_in HXY.out.2.2.1
      obtain ⟨f0, f1, f2⟩ := cU_in HXY.out.2.2.2
      go_upto_region 4 with fail
      refine wp_region_tyg (cc4 V W X Y id R S) (by kernel_rfl) (by kernel_rfl) (cc4_stay V W X Y id R S) ?_ ?_
      · refine opsAll_cons ?_ (opsAll_cons ?_ (opsAll_cons ?_ (opsAll_cons ?_ (opsAll_cons ?_ (opsAll_cons ?_ (opsAll_cons ?_ (opsAll_cons ?_ (opsAll_cons ?_ (opsAll_cons ?_ (opsAll_cons ?_ (opsAll_cons ?_ (opsAll_cons ?_ (opsAll_cons ?_ (opsAll_cons ?_ (opsAll_cons ?_ (opsAll_cons ?_ (opsAll_cons ?_ opsAll_nil)))))))))))))))))
        all_goals intro a wx hk
        · exact .inl ⟨wanted_free rfl, gp_load (.tmp 7) rfl (show a.eval (.tmp 7) = (.pointer (some ⟨p1, 0, none⟩)) from ((hk.old 7 (by kernel_rfl)).trans rfl)) ((fun (q : After _) => load3 (fun w => by kernel_rfl) (fun w => by kernel_rfl) (keep q.bel e0) (keep q.bel e1) (keep q.bel e2)) ⟨wx, hk.below⟩) ⟨Below.refl _ _, rfl⟩⟩
        · exact .inl ⟨wanted_free rfl, gp_load (.tmp 8) rfl (show a.eval (.tmp 8) = (.pointer (some ⟨p2, 0, none⟩)) from ((hk.old 8 (by kernel_rfl)).trans rfl)) ((fun (q : After _) => load3 (fun w => by kernel_rfl) (fun w => by kernel_rfl) (keep q.bel f0) (keep q.bel f1) (keep q.bel f2)) ⟨wx, hk.below⟩) ⟨Below.refl _ _, rfl⟩⟩
        · exact .inl ⟨wanted_free rfl, gp_call rfl (hk.fn _) #[.agg #[.slice X.wa X.ws.length X.wc, .slice X.pa X.ps.length X.pc, .slice X.ca X.cs.length X.cc], .agg #[.slice Y.wa Y.ws.length Y.wc, .slice Y.pa Y.ps.length Y.pc, .slice Y.ca Y.cs.length Y.cc]] (fun w => by kernel_rfl) (by simp only [List.map_toArray, List.map_cons, List.map_nil, (show a.eval (.tmp 19) = (.agg #[.slice X.wa X.ws.length X.wc, .slice X.pa X.ps.length X.pc, .slice X.ca X.cs.length X.cc]) from hk.slot 19 (by kernel_rfl)), (show a.eval (.tmp 20) = (.agg #[.slice Y.wa Y.ws.length Y.wc, .slice Y.pa Y.ps.length Y.pc, .slice Y.ca Y.cs.length Y.cc]) from hk.slot 20 (by kernel_rfl))]) (((fun (q : After _) => HC1.out q) ⟨wx, hk.below⟩).mono fun e w' ⟨he, hb⟩ => ⟨_, he, hb, rfl⟩)⟩
        · exact .inl ⟨wanted_free rfl, gp_load (.tmp 3) rfl (show a.eval (.tmp 3) = (.pointer (some ⟨w.heap.size, 0, none⟩)) from ((hk.old 3 (by kernel_rfl)).trans rfl)) ((fun (q : After _) => load3 (fun w => by kernel_rfl) (fun w => by kernel_rfl) (keep q.bel c0) (keep q.bel c1) (keep q.bel c2)) ⟨wx, hk.below⟩) ⟨Below.refl _ _, rfl⟩⟩
        · exact .inl ⟨wanted_free rfl, gp_load (.tmp 4) rfl (show a.eval (.tmp 4) = (.pointer (some ⟨w.heap.size + 1, 0, none⟩)) from ((hk.old 4 (by kernel_rfl)).trans rfl)) ((fun (q : After _) => load3 (fun w => by kernel_rfl) (fun w => by kernel_rfl) (keep q.bel d0) (keep q.bel d1) (keep q.bel d2)) ⟨wx, hk.below⟩) ⟨Below.refl _ _, rfl⟩⟩
        · exact .inl ⟨wanted_free rfl, gp_call rfl (hk.fn _) #[.agg #[.slice V.wa V.ws.length V.wc, .slice V.pa V.ps.length V.pc, .slice V.ca V.cs.length V.cc], .agg #[.slice W.wa W.ws.length W.wc, .slice W.pa W.ps.length W.pc, .slice W.ca W.cs.length W.cc]] (fun w => by kernel_rfl) (by simp only [List.map_toArray, List.map_cons, List.map_nil, (show a.eval (.tmp 22) = (.agg #[.slice V.wa V.ws.length V.wc, .slice V.pa V.ps.length V.pc, .slice V.ca V.cs.length V.cc]) from hk.slot 22 (by kernel_rfl)), (show a.eval (.tmp 23) = (.agg #[.slice W.wa W.ws.length W.wc, .slice W.pa W.ps.length W.pc, .slice W.ca W.cs.length W.cc]) from hk.slot 23 (by kernel_rfl))]) (((fun (q : After _) => HC2.out q) ⟨wx, hk.below⟩).mono fun e w' ⟨he, hb⟩ => ⟨_, he, hb, rfl⟩)⟩
        · exact .inl ⟨wanted_free rfl, gp_bin rfl (show a.eval (.tmp 21) = (.int .i64 R) from hk.slot 21 (by kernel_rfl)) (show a.eval (.tmp 24) = (.int .i64 R) from hk.slot 24 (by kernel_rfl)) (v := .bool false) (fun w => by go_simp) ⟨Below.refl _ _, rfl⟩⟩
        · exact .inl ⟨wanted_free rfl, gp_move (.tmp 25) rfl ⟨Below.refl _ _, hk.slot 25 (by kernel_rfl)⟩⟩
        · exact .inl ⟨wanted_by 26 false (by kernel_rfl) (show a.eval (.tmp 26) = .bool false from hk.slot 26 (by kernel_rfl)), gp_load (.tmp 7) rfl (show a.eval (.tmp 7) = (.pointer (some ⟨p1, 0, none⟩)) from ((hk.old 7 (by kernel_rfl)).trans rfl)) ((fun (q : After _) => load3 (fun w => by kernel_rfl) (fun w => by kernel_rfl) (keep q.bel e0) (keep q.bel e1) (keep q.bel e2)) ⟨wx, hk.below⟩) ⟨Below.refl _ _, rfl⟩⟩
        · exact .inl ⟨wanted_by 26 false (by kernel_rfl) (show a.eval (.tmp 26) = .bool false from hk.slot 26 (by kernel_rfl)), gp_load (.tmp 8) rfl (show a.eval (.tmp 8) = (.pointer (some ⟨p2, 0, none⟩)) from ((hk.old 8 (by kernel_rfl)).trans rfl)) ((fun (q : After _) => load3 (fun w => by kernel_rfl) (fun w => by kernel_rfl) (keep q.bel f0) (keep q.bel f1) (keep q.bel f2)) ⟨wx, hk.below⟩) ⟨Below.refl _ _, rfl⟩⟩
        · exact .inl ⟨wanted_by 26 false (by kernel_rfl) (show a.eval (.tmp 26) = .bool false from hk.slot 26 (by kernel_rfl)), gp_move (.tmp 2) rfl ⟨Below.refl _ _, (hk.old 2 (by kernel_rfl)).trans rfl⟩⟩
        · exact .inl ⟨wanted_by 26 false (by kernel_rfl) (show a.eval (.tmp 26) = .bool false from hk.slot 26 (by kernel_rfl)), gp_call rfl (hk.fn _) #[.agg #[.slice X.wa X.ws.length X.wc, .slice X.pa X.ps.length X.pc, .slice X.ca X.cs.length X.cc], .agg #[.slice Y.wa Y.ws.length Y.wc, .slice Y.pa Y.ps.length Y.pc, .slice Y.ca Y.cs.length Y.cc], .int .i64 id] (fun w => by kernel_rfl) (by simp only [List.map_toArray, List.map_cons, List.map_nil, (show a.eval (.tmp 27) = (.agg #[.slice X.wa X.ws.length X.wc, .slice X.pa X.ps.length X.pc, .slice X.ca X.cs.length X.cc]) from hk.slot 27 (by kernel_rfl)), (show a.eval (.tmp 28) = (.agg #[.slice Y.wa Y.ws.length Y.wc, .slice Y.pa Y.ps.length Y.pc, .slice Y.ca Y.cs.length Y.cc]) from hk.slot 28 (by kernel_rfl)), (show a.eval (.tmp 29) = (.int .i64 id) from hk.slot 29 (by kernel_rfl))]) (((fun (q : After _) => HC3.out q) ⟨wx, hk.below⟩).mono fun e w' ⟨he, hb⟩ => ⟨_, he, hb, rfl⟩)⟩
        · exact .inl ⟨wanted_by 26 false (by kernel_rfl) (show a.eval (.tmp 26) = .bool false from hk.slot 26 (by kernel_rfl)), gp_load (.tmp 3) rfl (show a.eval (.tmp 3) = (.pointer (some ⟨w.heap.size, 0, none⟩)) from ((hk.old 3 (by kernel_rfl)).trans rfl)) ((fun (q : After _) => load3 (fun w => by kernel_rfl) (fun w => by kernel_rfl) (keep q.bel c0) (keep q.bel c1) (keep q.bel c2)) ⟨wx, hk.below⟩) ⟨Below.refl _ _, rfl⟩⟩
        · exact .inl ⟨wanted_by 26 false (by kernel_rfl) (show a.eval (.tmp 26) = .bool false from hk.slot 26 (by kernel_rfl)), gp_load (.tmp 4) rfl (show a.eval (.tmp 4) = (.pointer (some ⟨w.heap.size + 1, 0, none⟩)) from ((hk.old 4 (by kernel_rfl)).trans rfl)) ((fun (q : After _) => load3 (fun w => by kernel_rfl) (fun w => by kernel_rfl) (keep q.bel d0) (keep q.bel d1) (keep q.bel d2)) ⟨wx, hk.below⟩) ⟨Below.refl _ _, rfl⟩⟩
        · exact .inl ⟨wanted_by 26 false (by kernel_rfl) (show a.eval (.tmp 26) = .bool false from hk.slot 26 (by kernel_rfl)), gp_move (.tmp 2) rfl ⟨Below.refl _ _, (hk.old 2 (by kernel_rfl)).trans rfl⟩⟩
        · exact .inl ⟨wanted_by 26 false (by kernel_rfl) (show a.eval (.tmp 26) = .bool false from hk.slot 26 (by kernel_rfl)), gp_call rfl (hk.fn _) #[.agg #[.slice V.wa V.ws.length V.wc, .slice V.pa V.ps.length V.pc, .slice V.ca V.cs.length V.cc], .agg #[.slice W.wa W.ws.length W.wc, .slice W.pa W.ps.length W.pc, .slice W.ca W.cs.length W.cc], .int .i64 id] (fun w => by kernel_rfl) (by simp only [List.map_toArray, List.map_cons, List.map_nil, (show a.eval (.tmp 31) = (.agg #[.slice V.wa V.ws.length V.wc, .slice V.pa V.ps.length V.pc, .slice V.ca V.cs.length V.cc]) from hk.slot 31 (by kernel_rfl)), (show a.eval (.tmp 32) = (.agg #[.slice W.wa W.ws.length W.wc, .slice W.pa W.ps.length W.pc, .slice W.ca W.cs.length W.cc]) from hk.slot 32 (by kernel_rfl)), (show a.eval (.tmp 33) = (.int .i64 id) from hk.slot 33 (by kernel_rfl))]) (((fun (q : After _) => HC4.out q) ⟨wx, hk.below⟩).mono fun e w' ⟨he, hb⟩ => ⟨_, he, hb, rfl⟩)⟩
        · exact .inl ⟨wanted_by 26 false (by kernel_rfl) (show a.eval (.tmp 26) = .bool false from hk.slot 26 (by kernel_rfl)), gp_bin rfl (show a.eval (.tmp 30) = (.bool S) from hk.slot 30 (by kernel_rfl)) (show a.eval (.tmp 34) = (.bool S) from hk.slot 34 (by kernel_rfl)) (v := .bool false) (fun w => by cases S <;> go_simp) ⟨Below.refl _ _, rfl⟩⟩
        · exact .inl ⟨wanted_free rfl, gp_pick rfl false (show a.eval (.tmp 26) = (.bool false) from hk.slot 26 (by kernel_rfl)) ⟨Below.refl _ _, (show a.eval (.tmp 35) = (.bool false) from hk.slot 35 (by kernel_rfl))⟩⟩
      intro a wu hbu hsame hall
      have he := act_same hsame [19, 20, 21, 22, 23, 24, 25, 26, 27, 28, 29, 30, 31, 32, 33, 34, 35, 36] (by kernel_rfl)
      simp only [List.foldl_cons, List.foldl_nil] at he
      rw [show a.eval (.tmp 36) = (.bool false) from hall 36 (by kernel_rfl)] at he
      generalize a.eval (.tmp 19) = y19 at he
      generalize a.eval (.tmp 20) = y20 at he
      generalize a.eval (.tmp 21) = y21 at he
      generalize a.eval (.tmp 22) = y22 at he
      generalize a.eval (.tmp 23) = y23 at he
      generalize a.eval (.tmp 24) = y24 at he
      generalize a.eval (.tmp 25) = y25 at he
      generalize a.eval (.tmp 26) = y26 at he
      generalize a.eval (.tmp 27) = y27 at he
      generalize a.eval (.tmp 28) = y28 at he
      generalize a.eval (.tmp 29) = y29 at he
      generalize a.eval (.tmp 30) = y30 at he
      generalize a.eval (.tmp 31) = y31 at he
      generalize a.eval (.tmp 32) = y32 at he
      generalize a.eval (.tmp 33) = y33 at he
      generalize a.eval (.tmp 34) = y34 at he
      generalize a.eval (.tmp 35) = y35 at he
      simp only [put_lit] at he
      dsimp only [List.set_cons_zero, List.set_cons_succ] at he
      subst he
      clear hsame hall
      have HZ := Lib.hid (HZ.out.trans (hbu.mono HZ.out.size))
      have HXY := Lib.hid (And.intro HXY.out.1.1 (And.intro HXY.out.2.1.1 (And.intro (HXY.out.1.2.at.stay hbu) (And.intro (HXY.out.2.1.2.at.stay hbu) (And.intro (blk_stay HXY.out.2.2.1 hbu) (blk_stay HXY.out.2.2.2 hbu))))))
      have HVW := Lib.hid (And.intro (HVW.out.1.stay hbu) (HVW.out.2.stay hbu))
      clear hbu c0 c1 c2 d0 d1 d2 e0 e1 e2 f0 f1 f2 HC1 HC2 HC3 HC4
      have HC1 : Hid (∀ q : After wu, Calls Try.prog 39 #[.agg #[.slice X.wa X.ws.length X.wc, .slice X.pa X.ps.length X.pc, .slice X.ca X.cs.length X.cc], .agg #[.slice Y.wa Y.ws.length Y.wc, .slice Y.pa Y.ps.length Y.pc, .slice Y.ca Y.cs.length Y.cc]] q.to fun e w' => ∃ a' c', e = .returned (.slice a' (partsK V W).length c') ∧ Vec cZ 1 w' a' (partsK V W) c' ∧ Below q.to.heap.size q.to w') := fun q => ints_eq (cparts_calls q.to X Y (HXY.out.2.2.1.stay q.bel) (HXY.out.2.2.2.1.stay q.bel) HSM.out.2.2.1 HSM.out.2.2.2) (parts_cfg HXY.out.1 HXY.out.2.1)
      have HC2 : Hid (∀ q : After wu, Calls Try.prog 40 #[.agg #[.slice V.wa V.ws.length V.wc, .slice V.pa V.ps.length V.pc, .slice V.ca V.cs.length V.cc], .agg #[.slice W.wa W.ws.length W.wc, .slice W.pa W.ps.length W.pc, .slice W.ca W.cs.length W.cc], .bool false] q.to fun e w' => ∃ a' c', e = .returned (.slice a' (partsK V W).length c') ∧ Vec cZ 1 w' a' (partsK V W) c' ∧ Below q.to.heap.size q.to w') := fun q => ints_eq (refparts_calls q.to V W (HVW.out.1.stay q.bel) (HVW.out.2.stay q.bel) HSM.out.1 HSM.out.2.1 false) (parts_is V W).symm
      have HC3 : Hid (∀ q : After wu, Calls Try.prog 25 #[.agg #[.slice X.wa X.ws.length X.wc, .slice X.pa X.ps.length X.pc, .slice X.ca X.cs.length X.cc], .agg #[.slice V.wa V.ws.length V.wc, .slice V.pa V.ps.length V.pc, .slice V.ca V.cs.length V.cc]] q.to fun e w' => e = .returned (.bool true) ∧ Below q.to.heap.size q.to w') := fun q => by
        have := same11_calls q.to X V (HXY.out.2.2.1.stay q.bel) (HVW.out.1.stay q.bel)
        rwa [decide_eq_true HXY.out.1] at this
      have HC4 : Hid (∀ q : After wu, Calls Try.prog 25 #[.agg #[.slice Y.wa Y.ws.length Y.wc, .slice Y.pa Y.ps.length Y.pc, .slice Y.ca Y.cs.length Y.cc], .agg #[.slice W.wa W.ws.length W.wc, .slice W.pa W.ps.length W.pc, .slice W.ca W.cs.length W.cc]] q.to fun e w' => e = .returned (.bool true) ∧ Below q.to.heap.size q.to w') := fun q => by
        have := same11_calls q.to Y W (HXY.out.2.2.2.1.stay q.bel) (HVW.out.2.stay q.bel)
        rwa [decide_eq_true HXY.out.2.1] at this
      obtain ⟨c0, c1, c2⟩ := HI.out.1.keep HZ.out
      obtain ⟨d0, d1, d2⟩ := HI.out.2.keep HZ.out
      obtain ⟨e0, e1, e2⟩ := cU_in HXY.out.2.2.2.2.1
      obtain ⟨f0, f1, f2⟩ := cU_in HXY.out.2.2.2.2.2
      go_upto_region 6 with fail
      refine wp_region_tyg (cc6 V W X Y) (by kernel_rfl) (by kernel_rfl) (cc6_stay V W X Y) ?_ ?_
      · refine opsAll_cons ?_ (opsAll_cons ?_ (opsAll_cons ?_ (opsAll_cons ?_ (opsAll_cons ?_ (opsAll_cons ?_ (opsAll_cons ?_ (opsAll_cons ?_ (opsAll_cons ?_ (opsAll_cons ?_ (opsAll_cons ?_ (opsAll_cons ?_ (opsAll_cons ?_ (opsAll_cons ?_ (opsAll_cons ?_ (opsAll_cons ?_ (opsAll_cons ?_ (opsAll_cons ?_ (opsAll_cons ?_ (opsAll_cons ?_ (opsAll_cons ?_ opsAll_nil))))))))))))))))))))
        all_goals intro a wx hk
        · exact .inl ⟨wanted_free rfl, gp_load (.tmp 7) rfl (show a.eval (.tmp 7) = (.pointer (some ⟨p1, 0, none⟩)) from ((hk.old 7 (by kernel_rfl)).trans rfl)) ((fun (q : After _) => load3 (fun w => by kernel_rfl) (fun w => by kernel_rfl) (keep q.bel e0) (keep q.bel e1) (keep q.bel e2)) ⟨wx, hk.below⟩) ⟨Below.refl _ _, rfl⟩⟩
        · exact .inl ⟨wanted_free rfl, gp_load (.tmp 8) rfl (show a.eval (.tmp 8) = (.pointer (some ⟨p2, 0, none⟩)) from ((hk.old 8 (by kernel_rfl)).trans rfl)) ((fun (q : After _) => load3 (fun w => by kernel_rfl) (fun w => by kernel_rfl) (keep q.bel f0) (keep q.bel f1) (keep q.bel f2)) ⟨wx, hk.below⟩) ⟨Below.refl _ _, rfl⟩⟩
        · exact .inl ⟨wanted_free rfl, gp_call rfl (hk.fn _) #[.agg #[.slice X.wa X.ws.length X.wc, .slice X.pa X.ps.length X.pc, .slice X.ca X.cs.length X.cc], .agg #[.slice Y.wa Y.ws.length Y.wc, .slice Y.pa Y.ps.length Y.pc, .slice Y.ca Y.cs.length Y.cc]] (fun w => by kernel_rfl) (by simp only [List.map_toArray, List.map_cons, List.map_nil, (show a.eval (.tmp 37) = (.agg #[.slice X.wa X.ws.length X.wc, .slice X.pa X.ps.length X.pc, .slice X.ca X.cs.length X.cc]) from hk.slot 37 (by kernel_rfl)), (show a.eval (.tmp 38) = (.agg #[.slice Y.wa Y.ws.length Y.wc, .slice Y.pa Y.ps.length Y.pc, .slice Y.ca Y.cs.length Y.cc]) from hk.slot 38 (by kernel_rfl))]) (((fun (q : After _) => HC1.out q) ⟨wx, hk.below⟩).mono fun e w' ⟨b, c, he, hv, hb⟩ => ⟨_, he, hb, b, c, rfl, hv⟩)⟩
        · exact .inl ⟨wanted_free rfl, gp_load (.tmp 3) rfl (show a.eval (.tmp 3) = (.pointer (some ⟨w.heap.size, 0, none⟩)) from ((hk.old 3 (by kernel_rfl)).trans rfl)) ((fun (q : After _) => load3 (fun w => by kernel_rfl) (fun w => by kernel_rfl) (keep q.bel c0) (keep q.bel c1) (keep q.bel c2)) ⟨wx, hk.below⟩) ⟨Below.refl _ _, rfl⟩⟩
        · exact .inl ⟨wanted_free rfl, gp_load (.tmp 4) rfl (show a.eval (.tmp 4) = (.pointer (some ⟨w.heap.size + 1, 0, none⟩)) from ((hk.old 4 (by kernel_rfl)).trans rfl)) ((fun (q : After _) => load3 (fun w => by kernel_rfl) (fun w => by kernel_rfl) (keep q.bel d0) (keep q.bel d1) (keep q.bel d2)) ⟨wx, hk.below⟩) ⟨Below.refl _ _, rfl⟩⟩
        · exact .inl ⟨wanted_free rfl, gp_call rfl (hk.fn _) #[.agg #[.slice V.wa V.ws.length V.wc, .slice V.pa V.ps.length V.pc, .slice V.ca V.cs.length V.cc], .agg #[.slice W.wa W.ws.length W.wc, .slice W.pa W.ps.length W.pc, .slice W.ca W.cs.length W.cc], .bool false] (fun w => by kernel_rfl) (by simp only [List.map_toArray, List.map_cons, List.map_nil, show ∀ v, a.eval (.const v) = v from hk.lit, (show a.eval (.tmp 40) = (.agg #[.slice V.wa V.ws.length V.wc, .slice V.pa V.ps.length V.pc, .slice V.ca V.cs.length V.cc]) from hk.slot 40 (by kernel_rfl)), (show a.eval (.tmp 41) = (.agg #[.slice W.wa W.ws.length W.wc, .slice W.pa W.ps.length W.pc, .slice W.ca W.cs.length W.cc]) from hk.slot 41 (by kernel_rfl))]) (((fun (q : After _) => HC2.out q) ⟨wx, hk.below⟩).mono fun e w' ⟨b, c, he, hv, hb⟩ => ⟨_, he, hb, b, c, rfl, hv⟩)⟩
        · obtain ⟨b1, k1, e1, q1⟩ := hk.slot 39 (by kernel_rfl)
          obtain ⟨b2, k2, e2, q2⟩ := hk.slot 42 (by kernel_rfl)
          exact .inl ⟨wanted_free rfl, gp_call rfl (hk.fn _) #[.slice b1 (partsK V W).length k1, .slice b2 (partsK V W).length k2] (fun w => by kernel_rfl) (by simp only [List.map_toArray, List.map_cons, List.map_nil, show a.eval (.tmp 39) = _ from e1, show a.eval (.tmp 42) = _ from e2]) ((same_eq wx b1 b2 _ k1 k2 q1 q2).mono fun e w' ⟨he, hb⟩ => ⟨_, he, hb, rfl⟩)⟩
        · exact .inl ⟨wanted_free rfl, gp_move (.tmp 43) rfl ⟨Below.refl _ _, hk.slot 43 (by kernel_rfl)⟩⟩
        · exact .inl ⟨wanted_by 44 true (by kernel_rfl) (show a.eval (.tmp 44) = .bool true from hk.slot 44 (by kernel_rfl)), gp_load (.tmp 7) rfl (show a.eval (.tmp 7) = (.pointer (some ⟨p1, 0, none⟩)) from ((hk.old 7 (by kernel_rfl)).trans rfl)) ((fun (q : After _) => load3 (fun w => by kernel_rfl) (fun w => by kernel_rfl) (keep q.bel e0) (keep q.bel e1) (keep q.bel e2)) ⟨wx, hk.below⟩) ⟨Below.refl _ _, rfl⟩⟩
        · exact .inl ⟨wanted_by 44 true (by kernel_rfl) (show a.eval (.tmp 44) = .bool true from hk.slot 44 (by kernel_rfl)), gp_load (.tmp 3) rfl (show a.eval (.tmp 3) = (.pointer (some ⟨w.heap.size, 0, none⟩)) from ((hk.old 3 (by kernel_rfl)).trans rfl)) ((fun (q : After _) => load3 (fun w => by kernel_rfl) (fun w => by kernel_rfl) (keep q.bel c0) (keep q.bel c1) (keep q.bel c2)) ⟨wx, hk.below⟩) ⟨Below.refl _ _, rfl⟩⟩
        · exact .inl ⟨wanted_by 44 true (by kernel_rfl) (show a.eval (.tmp 44) = .bool true from hk.slot 44 (by kernel_rfl)), gp_call rfl (hk.fn _) #[.agg #[.slice X.wa X.ws.length X.wc, .slice X.pa X.ps.length X.pc, .slice X.ca X.cs.length X.cc], .agg #[.slice V.wa V.ws.length V.wc, .slice V.pa V.ps.length V.pc, .slice V.ca V.cs.length V.cc]] (fun w => by kernel_rfl) (by simp only [List.map_toArray, List.map_cons, List.map_nil, (show a.eval (.tmp 45) = (.agg #[.slice X.wa X.ws.length X.wc, .slice X.pa X.ps.length X.pc, .slice X.ca X.cs.length X.cc]) from hk.slot 45 (by kernel_rfl)), (show a.eval (.tmp 46) = (.agg #[.slice V.wa V.ws.length V.wc, .slice V.pa V.ps.length V.pc, .slice V.ca V.cs.length V.cc]) from hk.slot 46 (by kernel_rfl))]) (((fun (q : After _) => HC3.out q) ⟨wx, hk.below⟩).mono fun e w' ⟨he, hb⟩ => ⟨_, he, hb, rfl⟩)⟩
        · exact .inl ⟨wanted_free rfl, gp_pick rfl true (show a.eval (.tmp 44) = (.bool true) from hk.slot 44 (by kernel_rfl)) ⟨Below.refl _ _, (show a.eval (.tmp 47) = (.bool true) from hk.slot 47 (by kernel_rfl))⟩⟩
        · exact .inl ⟨wanted_free rfl, gp_move (.tmp 48) rfl ⟨Below.refl _ _, hk.slot 48 (by kernel_rfl)⟩⟩
        · exact .inl ⟨wanted_by 49 true (by kernel_rfl) (show a.eval (.tmp 49) = .bool true from hk.slot 49 (by kernel_rfl)), gp_load (.tmp 8) rfl (show a.eval (.tmp 8) = (.pointer (some ⟨p2, 0, none⟩)) from ((hk.old 8 (by kernel_rfl)).trans rfl)) ((fun (q : After _) => load3 (fun w => by kernel_rfl) (fun w => by kernel_rfl) (keep q.bel f0) (keep q.bel f1) (keep q.bel f2)) ⟨wx, hk.below⟩) ⟨Below.refl _ _, rfl⟩⟩
        · exact .inl ⟨wanted_by 49 true (by kernel_rfl) (show a.eval (.tmp 49) = .bool true from hk.slot 49 (by kernel_rfl)), gp_load (.tmp 4) rfl (show a.eval (.tmp 4) = (.pointer (some ⟨w.heap.size + 1, 0, none⟩)) from ((hk.old 4 (by kernel_rfl)).trans rfl)) ((fun (q : After _) => load3 (fun w => by kernel_rfl) (fun w => by kernel_rfl) (keep q.bel d0) (keep q.bel d1) (keep q.bel d2)) ⟨wx, hk.below⟩) ⟨Below.refl _ _, rfl⟩⟩
        · exact .inl ⟨wanted_by 49 true (by kernel_rfl) (show a.eval (.tmp 49) = .bool true from hk.slot 49 (by kernel_rfl)), gp_call rfl (hk.fn _) #[.agg #[.slice Y.wa Y.ws.length Y.wc, .slice Y.pa Y.ps.length Y.pc, .slice Y.ca Y.cs.length Y.cc], .agg #[.slice W.wa W.ws.length W.wc, .slice W.pa W.ps.length W.pc, .slice W.ca W.cs.length W.cc]] (fun w => by kernel_rfl) (by simp only [List.map_toArray, List.map_cons, List.map_nil, (show a.eval (.tmp 50) = (.agg #[.slice Y.wa Y.ws.length Y.wc, .slice Y.pa Y.ps.length Y.pc, .slice Y.ca Y.cs.length Y.cc]) from hk.slot 50 (by kernel_rfl)), (show a.eval (.tmp 51) = (.agg #[.slice W.wa W.ws.length W.wc, .slice W.pa W.ps.length W.pc, .slice W.ca W.cs.length W.cc]) from hk.slot 51 (by kernel_rfl))]) (((fun (q : After _) => HC4.out q) ⟨wx, hk.below⟩).mono fun e w' ⟨he, hb⟩ => ⟨_, he, hb, rfl⟩)⟩
        · exact .inl ⟨wanted_free rfl, gp_pick rfl true (show a.eval (.tmp 49) = (.bool true) from hk.slot 49 (by kernel_rfl)) ⟨Below.refl _ _, (show a.eval (.tmp 52) = (.bool true) from hk.slot 52 (by kernel_rfl))⟩⟩
        · exact .inl ⟨wanted_free rfl, gp_move (.tmp 53) rfl ⟨Below.refl _ _, hk.slot 53 (by kernel_rfl)⟩⟩
        · exact .inl ⟨wanted_by 54 true (by kernel_rfl) (show a.eval (.tmp 54) = .bool true from hk.slot 54 (by kernel_rfl)), gp_call rfl (hk.fn _) #[] (fun w => by kernel_rfl) (by rw [List.map_toArray]; rfl) (((fun (q : After _) => awake13_calls q.to) ⟨wx, hk.below⟩).mono fun e w' ⟨he, hb⟩ => ⟨_, he, hb, rfl⟩)⟩
        · exact .inl ⟨wanted_free rfl, gp_pick rfl true (show a.eval (.tmp 54) = (.bool true) from hk.slot 54 (by kernel_rfl)) ⟨Below.refl _ _, (show a.eval (.tmp 55) = (.bool true) from hk.slot 55 (by kernel_rfl))⟩⟩
        · exact .inl ⟨wanted_free rfl, gp_assign (.tmp 56) rfl ⟨Below.refl _ _, hk.slot 56 (by kernel_rfl)⟩⟩
      intro a wy hby hsame hall
      have he := act_same hsame [37, 38, 39, 40, 41, 42, 43, 44, 45, 46, 47, 48, 49, 50, 51, 52, 53, 54, 55, 56, 6] (by kernel_rfl)
      simp only [List.foldl_cons, List.foldl_nil] at he
      rw [show a.eval (.tmp 6) = (.bool true) from hall 6 (by kernel_rfl)] at he
      generalize a.eval (.tmp 37) = y37 at he
      generalize a.eval (.tmp 38) = y38 at he
      generalize a.eval (.tmp 39) = y39 at he
      generalize a.eval (.tmp 40) = y40 at he
      generalize a.eval (.tmp 41) = y41 at he
      generalize a.eval (.tmp 42) = y42 at he
      generalize a.eval (.tmp 43) = y43 at he
      generalize a.eval (.tmp 44) = y44 at he
      generalize a.eval (.tmp 45) = y45 at he
      generalize a.eval (.tmp 46) = y46 at he
      generalize a.eval (.tmp 47) = y47 at he
      generalize a.eval (.tmp 48) = y48 at he
      generalize a.eval (.tmp 49) = y49 at he
      generalize a.eval (.tmp 50) = y50 at he
      generalize a.eval (.tmp 51) = y51 at he
      generalize a.eval (.tmp 52) = y52 at he
      generalize a.eval (.tmp 53) = y53 at he
      generalize a.eval (.tmp 54) = y54 at he
      generalize a.eval (.tmp 55) = y55 at he
      generalize a.eval (.tmp 56) = y56 at he
      simp only [put_lit] at he
      dsimp only [List.set_cons_zero, List.set_cons_succ] at he
      subst he
      clear hsame hall
      have HZ := Lib.hid (HZ.out.trans (hby.mono HZ.out.size))
      clear hby c0 c1 c2 d0 d1 d2 e0 e1 e2 f0 f1 f2
      go_wp2_with fail
      go_ret
      exact ⟨rfl, HB0.out.trans (HZ.out.mono HB0.out.size)⟩
theorem compatChecks_all (w : World) (V W : CfgV) (id : Int) (h : V.At w) (hb : ∀ x ∈ V.ps, x.img.length ≤ 140737488351232) (k : W.At w) (kb : ∀ x ∈ W.ps, x.img.length ≤ 140737488351232) (_ : -9223372036854775808 ≤ id ∧ id ≤ 9223372036854775807) : Calls Try.prog 7 #[.agg (cCfg V).toArray, .agg (cCfg W).toArray, .int .i64 id] w fun e w' => e = .returned (.bool true) ∧ Below w.heap.size w w' :=
  compatChecks_law w V W id h hb k kb
end Go.Proofs.Ytpnbaapjjchlbaa
