/- ConfigPrints: the walk of the law. -/
import Derived.Test.YtpnbaapjjchlbaaStrP
import Derived.Test.YtpnbaapjjchlbaaRefForm11
namespace Go.Proofs.Ytpnbaapjjchlbaa
open Go Go.RowKit Go.Cit

def cp10 (_ : Nat) (V : CfgV) (F : List UInt8) (a4 : Option Addr) (k4 n : Nat) : Nat → Value → World → Prop
  | 40 => fun v _ => v = (.slice a4 n k4)
  | 41 => fun v _ => v = (.string ⟨(F).toArray⟩)
  | 42 => fun v _ => v = (.agg #[.slice V.wa V.ws.length V.wc, .slice V.pa V.ps.length V.pc, .slice V.ca V.cs.length V.cc])
  | 43 => tR (F)
  | 44 => fun v _ => v = (.string ⟨(F).toArray⟩)
  | 45 => fun v _ => v = (.bool true)
  | 46 => fun v _ => v = (.bool true)
  | 47 => fun v _ => v = (.int .i64 0)
  | 48 => fun v _ => v = (.bool true)
  | 49 => fun v _ => v = (.bool true)
  | 50 => fun v _ => v = (.bool true)
  | 51 => fun v _ => v = (.bool true)
  | 52 => fun v _ => v = (.bool true)
  | 2 => fun v _ => v = (.bool true)
  | _ => fun _ _ => True
theorem cp10_stay (m : Nat) (V : CfgV) (F : List UInt8) (a4 : Option Addr) (k4 n : Nat) : ∀ d v w1 w2, Below w1.heap.size w1 w2 → cp10 m V F a4 k4 n d v w1 → cp10 m V F a4 k4 n d v w2 := by
  intro d v w1 w2 hb h
  unfold cp10 at h ⊢
  split at h <;> first | exact h | exact tE_stay hb h | exact tR_stay hb h | trivial
set_option maxRecDepth 100000 in
set_option maxHeartbeats 4000000 in
theorem configPrints_law (w : World) (V : CfgV) (h : V.At w) (hb : ∀ x ∈ V.ps, x.img.length ≤ 140737488351232) : Calls Try.prog 12 #[.agg #[.slice V.wa V.ws.length V.wc, .slice V.pa V.ps.length V.pc, .slice V.ca V.cs.length V.cc]] w fun e w' => e = .returned (.bool true) ∧ Below w.heap.size w w' := by
  obtain ⟨w0, hw0⟩ : ∃ w0, w0 = w.alloc (.cells #[.slice V.wa V.ws.length V.wc, .slice V.pa V.ps.length V.pc, .slice V.ca V.cs.length V.cc] 26) := ⟨_, rfl⟩
  have B0 : Below w.heap.size w w0 := by rw [hw0]; exact (Below.refl _ w).alloc (Nat.le_refl _) _
  have hI : InBox w0 w.heap.size V := by rw [hw0]; exact inBox_new w V _
  have HI := Lib.hid hI
  have HV := Lib.hid (h.stay B0)
  have HB0 := Lib.hid B0
  obtain ⟨g1, hg1⟩ : ∃ g, Hid (g = greatV V) := ⟨_, rfl⟩
  obtain ⟨n1, hn1⟩ : ∃ g, Hid (g = canV V) := ⟨_, rfl⟩
  have hc := cgreat_calls w0 V HV.out hb
  rw [← hg1.out] at hc
  have HC := Lib.hid hc
  clear h B0 hI hb hc
  obtain ⟨c0, c1, c2⟩ := HI.out
  go_enter Try.func12, Try.ntmps12
  go_wp2_with fail
  rw [← hw0]
  clear hw0
  refine (HC.out).mono ?_
  rintro e w1 ⟨rfl, hb1⟩
  have HB1 := Lib.hid hb1
  clear c0 c1 c2 HC hb1
  cases g1 with
  | true =>
    go_wp2_with fail
    go_ret
    exact ⟨rfl, HB0.out.trans (HB1.out.mono HB0.out.size)⟩
  | false =>
    have hsm := small_of hg1.out.symm
    have HCP := Lib.hid (copied_calls w1 V (HV.out.stay HB1.out) hsm)
    obtain ⟨c0, c1, c2⟩ := HI.out.keep HB1.out
    go_wp2_with fail
    refine (HCP.out).mono ?_
    rintro e w2 ⟨U, rfl, hU, hO, hb2⟩
    obtain ⟨w3, hw3⟩ : ∃ w3, w3 = w2.alloc (.cells #[.slice U.wa U.ws.length U.wc, .slice U.pa U.ps.length U.pc, .slice U.ca U.cs.length U.cc] 26) := ⟨_, rfl⟩
    obtain ⟨p, hp⟩ : ∃ p, p = w2.heap.size := ⟨_, rfl⟩
    have hb23 : Below w2.heap.size w2 w3 := by rw [hw3]; exact (Below.refl _ _).alloc (Nat.le_refl _) _
    have hUB : InBox w3 p U := by rw [hw3, hp]; exact inBox_new w2 U _
    have HUB := Lib.hid hUB
    have HB3 := Lib.hid (HB1.out.trans ((hb2.trans (hb23.mono hb2.size)).mono HB1.out.size))
    have HU := Lib.hid (And.intro hU (hO.at.stay hb23))
    have HSM := Lib.hid (small_cfg hU hsm)
    have HCU : Hid (canV U = n1) := by rw [Hid, hn1.out, canV_cfg, hU, ← canV_cfg]
    clear hU hO hb2 hb23 hUB hsm HCP c0 c1 c2
    go_upto_region 4 with fail
    rw [← hw3, ← hp]
    clear hw3 hp
    obtain ⟨d0, d1, d2⟩ := HUB.out
    cases n1 with
    | false =>
      have hpB : printB U = [] := by unfold printB; rw [HCU.out]; rfl
      have hpE : printE U = 2 := by unfold printE; rw [HCU.out]; rfl
      have HP := Lib.hid (print_is w3 U HU.out.2 HSM.out [] 0 2 hpB rfl hpE)
      clear hpB hpE
      go_wp2_with fail
      refine (HP.out).mono ?_
      rintro e w4 ⟨a4, k4, rfl, r4, hb4⟩
      have HB34 := Lib.hid hb4
      have HR4 := Lib.hid r4
      clear d0 d1 d2 hb4 HP r4
      obtain ⟨c0, c1, c2⟩ := HI.out.keep (HB3.out.trans (HB34.out.mono HB3.out.size))
      have hc := refcan_calls w4 V (HV.out.stay (HB3.out.trans (HB34.out.mono HB3.out.size)))
      rw [← hn1.out] at hc
      have HC := Lib.hid hc
      clear hc
      go_wp2_with fail
      refine (HC.out).mono ?_
      rintro e w5 ⟨rfl, hb5⟩
      have HB35 := Lib.hid (HB34.out.trans (hb5.mono HB34.out.size))
      have HR5 := Lib.hid (HR4.out.stay hb5)
      clear c0 c1 c2 hb5 HC HB34 HR4
      have hc := can_calls w5 U (HU.out.2.stay (HB35.out))
      rw [HCU.out] at hc
      have HC := Lib.hid hc
      clear hc
      obtain ⟨d0, d1, d2⟩ := HUB.out.keep HB35.out
      go_wp2_with fail
      refine (HC.out).mono ?_
      rintro e w6 ⟨rfl, hb6⟩
      have HB36 := Lib.hid (HB35.out.trans (hb6.mono HB35.out.size))
      clear d0 d1 d2 hb6 HC HB35
      obtain ⟨d0, d1, d2⟩ := HUB.out.keep HB36.out
      obtain ⟨c0, c1, c2⟩ := HI.out.keep (HB3.out.trans (HB36.out.mono HB3.out.size))
      have hs := same11_calls w6 U V (HU.out.2.stay HB36.out) (HV.out.stay (HB3.out.trans (HB36.out.mono HB3.out.size)))
      rw [decide_eq_true HU.out.1] at hs
      have HS := Lib.hid hs
      clear hs
      go_wp2_with fail
      refine (HS.out).mono ?_
      rintro e w7 ⟨rfl, hb7⟩
      have HB7 := Lib.hid ((HB3.out.trans (HB36.out.mono HB3.out.size)).trans (hb7.mono (HB3.out.trans (HB36.out.mono HB3.out.size)).size))
      clear hb7 HS HB36 d0 d1 d2 c0 c1 c2
      go_wp2_with fail
      refine (awake11_calls w7).mono ?_
      rintro e wq ⟨rfl, hbq⟩
      go_wp2_with fail
      go_ret
      exact ⟨rfl, HB0.out.trans ((HB7.out.trans (hbq.mono HB7.out.size)).mono HB0.out.size)⟩
    | true =>
      obtain ⟨F, hF⟩ : ∃ F, Hid (F = formK V.cfg) := ⟨_, rfl⟩
      obtain ⟨n, hn⟩ : ∃ n, Hid (n = F.length) := ⟨_, rfl⟩
      have hpy := print_yes (V := U) HCU.out
      have HP := Lib.hid (print_is w3 U HU.out.2 HSM.out F n 0 (by rw [hpy.1, hF.out, HU.out.1]) hn.out.symm hpy.2)
      clear hpy
      go_wp2_with fail
      refine (HP.out).mono ?_
      rintro e w4 ⟨a4, k4, rfl, r4, hb4⟩
      have HB34 := Lib.hid hb4
      have HR4 := Lib.hid r4
      clear d0 d1 d2 hb4 HP r4
      obtain ⟨c0, c1, c2⟩ := HI.out.keep (HB3.out.trans (HB34.out.mono HB3.out.size))
      have hc := refcan_calls w4 V (HV.out.stay (HB3.out.trans (HB34.out.mono HB3.out.size)))
      rw [← hn1.out] at hc
      have HC := Lib.hid hc
      clear hc
      go_wp2_with fail
      refine (HC.out).mono ?_
      rintro e w5 ⟨rfl, hb5⟩
      have HB35 := Lib.hid (HB34.out.trans (hb5.mono HB34.out.size))
      have HR5 := Lib.hid (HR4.out.stay hb5)
      clear c0 c1 c2 hb5 HC HB34 HR4
      have hc := can_calls w5 U (HU.out.2.stay (HB35.out))
      rw [HCU.out] at hc
      have HC := Lib.hid hc
      clear hc
      obtain ⟨d0, d1, d2⟩ := HUB.out.keep HB35.out
      go_wp2_with fail
      refine (HC.out).mono ?_
      rintro e w6 ⟨rfl, hb6⟩
      have HB36 := Lib.hid (HB35.out.trans (hb6.mono HB35.out.size))
      have HR6 := Lib.hid (HR5.out.stay hb6)
      clear d0 d1 d2 hb6 HC HB35 HR5
      obtain ⟨d0, d1, d2⟩ := HUB.out.keep HB36.out
      obtain ⟨c0, c1, c2⟩ := HI.out.keep (HB3.out.trans (HB36.out.mono HB3.out.size))
      have hs := same11_calls w6 U V (HU.out.2.stay HB36.out) (HV.out.stay (HB3.out.trans (HB36.out.mono HB3.out.size)))
      rw [decide_eq_true HU.out.1] at hs
      have HS := Lib.hid hs
      clear hs
      go_wp2_with fail
      refine (HS.out).mono ?_
      rintro e w7 ⟨rfl, hb7⟩
      have HB37 := Lib.hid (HB36.out.trans (hb7.mono HB36.out.size))
      have HB7 := Lib.hid (HB3.out.trans (HB37.out.mono HB3.out.size))
      have HR7 := Lib.hid (HR6.out.stay hb7)
      clear hb7 HR6
      clear HB37 HB36 HS d0 d1 d2 c0 c1 c2
      obtain ⟨c0, c1, c2⟩ := HI.out.keep HB7.out
      have hV7 := HV.out.stay HB7.out
      have HFM : Hid (∀ q : After w7, Calls Try.prog 49 #[.agg #[.slice V.wa V.ws.length V.wc, .slice V.pa V.ps.length V.pc, .slice V.ca V.cs.length V.cc]] q.to fun e w' => ∃ a' c', e = .returned (.slice a' F.length c') ∧ Row w' a' F c' ∧ Below q.to.heap.size q.to w') := fun q => by
        have := refform_calls q.to V (hV7.stay q.bel) hn1.out.symm
        rw [formV_cfg, ← hF.out] at this
        exact this.mono fun e w' ⟨a, c, h1, h2, h3⟩ => ⟨a, c, h1, h2.isRow, h3⟩
      have HR4 := HR7
      clear hV7
      go_upto_region 10 with fail
      refine wp_region_tyg (cp10 w.heap.size V F a4 k4 n) (by kernel_rfl) (by kernel_rfl) (cp10_stay w.heap.size V F a4 k4 n) ?_ ?_
      · refine opsAll_cons ?_ (opsAll_cons ?_ (opsAll_cons ?_ (opsAll_cons ?_ (opsAll_cons ?_ (opsAll_cons ?_ (opsAll_cons ?_ (opsAll_cons ?_ (opsAll_cons ?_ (opsAll_cons ?_ (opsAll_cons ?_ (opsAll_cons ?_ (opsAll_cons ?_ (opsAll_cons ?_ opsAll_nil)))))))))))))
        all_goals intro a wx hk
        · exact .inl ⟨wanted_free rfl, gp_move (.tmp 4) rfl ⟨Below.refl _ _, (hk.old 4 (by kernel_rfl)).trans rfl⟩⟩
        · exact .inl ⟨wanted_free rfl, gp_conv rfl (show a.eval (.tmp 40) = (.slice a4 n k4) from hk.slot 40 (by kernel_rfl)) hn.out.symm ((fun (q : After _) => HR4.out.stay q.bel) ⟨wx, hk.below⟩) ⟨Below.refl _ _, rfl⟩⟩
        · exact .inl ⟨wanted_free rfl, gp_load (.tmp 1) rfl (show a.eval (.tmp 1) = (.pointer (some ⟨w.heap.size, 0, none⟩)) from ((hk.old 1 (by kernel_rfl)).trans rfl)) ((fun (q : After _) => load3 (fun w => by kernel_rfl) (fun w => by kernel_rfl) (keep q.bel c0) (keep q.bel c1) (keep q.bel c2)) ⟨wx, hk.below⟩) ⟨Below.refl _ _, rfl⟩⟩
        · exact .inl ⟨wanted_free rfl, gp_call rfl (hk.fn _) #[.agg #[.slice V.wa V.ws.length V.wc, .slice V.pa V.ps.length V.pc, .slice V.ca V.cs.length V.cc]] (fun w => by kernel_rfl) (by simp only [List.map_toArray, List.map_cons, List.map_nil, (show a.eval (.tmp 42) = (.agg #[.slice V.wa V.ws.length V.wc, .slice V.pa V.ps.length V.pc, .slice V.ca V.cs.length V.cc]) from hk.slot 42 (by kernel_rfl))]) (((fun (q : After _) => HFM.out q) ⟨wx, hk.below⟩).mono fun e w' ⟨b, c, he, hv, hb⟩ => ⟨_, he, hb, b, c, rfl, hv⟩)⟩
        · obtain ⟨b1, k1, e1, q1⟩ := hk.slot 43 (by kernel_rfl)
          exact .inl ⟨wanted_free rfl, gp_conv rfl (show a.eval (.tmp 43) = _ from e1) rfl q1 ⟨Below.refl _ _, rfl⟩⟩
        · exact .inl ⟨wanted_free rfl, gp_bin rfl (show a.eval (.tmp 41) = (.string ⟨(F).toArray⟩) from hk.slot 41 (by kernel_rfl)) (show a.eval (.tmp 44) = (.string ⟨(F).toArray⟩) from hk.slot 44 (by kernel_rfl)) (v := .bool true) (fun w => eq_str F F true (decide_eq_true rfl) w) ⟨Below.refl _ _, rfl⟩⟩
        · exact .inl ⟨wanted_free rfl, gp_move (.tmp 45) rfl ⟨Below.refl _ _, hk.slot 45 (by kernel_rfl)⟩⟩
        · exact .inl ⟨wanted_by 46 true (by kernel_rfl) (show a.eval (.tmp 46) = .bool true from hk.slot 46 (by kernel_rfl)), gp_move (.tmp 5) rfl ⟨Below.refl _ _, (hk.old 5 (by kernel_rfl)).trans rfl⟩⟩
        · exact .inl ⟨wanted_by 46 true (by kernel_rfl) (show a.eval (.tmp 46) = .bool true from hk.slot 46 (by kernel_rfl)), gp_bin rfl (show a.eval (.tmp 47) = (.int .i64 0) from hk.slot 47 (by kernel_rfl)) rfl (v := .bool true) (fun w => by go_simp) ⟨Below.refl _ _, rfl⟩⟩
        · exact .inl ⟨wanted_free rfl, gp_pick rfl true (show a.eval (.tmp 46) = (.bool true) from hk.slot 46 (by kernel_rfl)) ⟨Below.refl _ _, (show a.eval (.tmp 48) = (.bool true) from hk.slot 48 (by kernel_rfl))⟩⟩
        · exact .inl ⟨wanted_free rfl, gp_move (.tmp 49) rfl ⟨Below.refl _ _, hk.slot 49 (by kernel_rfl)⟩⟩
        · exact .inl ⟨wanted_by 50 true (by kernel_rfl) (show a.eval (.tmp 50) = .bool true from hk.slot 50 (by kernel_rfl)), gp_call rfl (hk.fn _) #[] (fun w => by kernel_rfl) (by rw [List.map_toArray]; rfl) (((fun (q : After _) => awake11_calls q.to) ⟨wx, hk.below⟩).mono fun e w' ⟨he, hb⟩ => ⟨_, he, hb, rfl⟩)⟩
        · exact .inl ⟨wanted_free rfl, gp_pick rfl true (show a.eval (.tmp 50) = (.bool true) from hk.slot 50 (by kernel_rfl)) ⟨Below.refl _ _, (show a.eval (.tmp 51) = (.bool true) from hk.slot 51 (by kernel_rfl))⟩⟩
        · exact .inl ⟨wanted_free rfl, gp_assign (.tmp 52) rfl ⟨Below.refl _ _, hk.slot 52 (by kernel_rfl)⟩⟩
      intro a wz hbz hsame hall
      have he := act_same hsame [40, 41, 42, 43, 44, 45, 46, 47, 48, 49, 50, 51, 52, 2] (by kernel_rfl)
      simp only [List.foldl_cons, List.foldl_nil] at he
      rw [show a.eval (.tmp 2) = (.bool true) from hall 2 (by kernel_rfl)] at he
      generalize a.eval (.tmp 40) = y40 at he
      generalize a.eval (.tmp 41) = y41 at he
      generalize a.eval (.tmp 42) = y42 at he
      generalize a.eval (.tmp 43) = y43 at he
      generalize a.eval (.tmp 44) = y44 at he
      generalize a.eval (.tmp 45) = y45 at he
      generalize a.eval (.tmp 46) = y46 at he
      generalize a.eval (.tmp 47) = y47 at he
      generalize a.eval (.tmp 48) = y48 at he
      generalize a.eval (.tmp 49) = y49 at he
      generalize a.eval (.tmp 50) = y50 at he
      generalize a.eval (.tmp 51) = y51 at he
      generalize a.eval (.tmp 52) = y52 at he
      simp only [put_lit] at he
      dsimp only [List.set_cons_zero, List.set_cons_succ] at he
      subst he
      clear hsame hall
      have HZ := Lib.hid (HB7.out.trans (hbz.mono HB7.out.size))
      clear hbz c0 c1 c2
      go_wp2_with fail
      go_ret
      exact ⟨rfl, HB0.out.trans (HZ.out.mono HB0.out.size)⟩
theorem configPrints_all (w : World) (V : CfgV) (h : V.At w) (hb : ∀ x ∈ V.ps, x.img.length ≤ 140737488351232) : Calls Try.prog 12 #[.agg (cCfg V).toArray] w fun e w' => e = .returned (.bool true) ∧ Below w.heap.size w w' :=
  configPrints_law w V h hb
end Go.Proofs.Ytpnbaapjjchlbaa
