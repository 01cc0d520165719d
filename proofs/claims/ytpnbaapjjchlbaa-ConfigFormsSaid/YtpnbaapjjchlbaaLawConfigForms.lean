/- ConfigForms: the walk of the law. -/
import Derived.Test.YtpnbaapjjchlbaaGt
namespace Go.Proofs.Ytpnbaapjjchlbaa
open Go Go.RowKit Go.Cit

def cf5 (_ : Nat) (V W : CfgV) (F1 F2 : List UInt8) (a5 a7 : Option Addr) (k5 k7 : Nat) (B : Bool) : Nat → Value → World → Prop
  | 36 => fun v _ => v = (.int .i64 0)
  | 37 => fun v _ => v = (.bool true)
  | 38 => fun v _ => v = (.bool true)
  | 39 => fun v _ => v = (.int .i64 0)
  | 40 => fun v _ => v = (.bool true)
  | 41 => fun v _ => v = (.bool true)
  | 42 => fun v _ => v = (.bool true)
  | 43 => fun v _ => v = (.slice a5 F1.length k5)
  | 44 => fun v _ => v = (.string ⟨(F1).toArray⟩)
  | 45 => fun v _ => v = (.slice a7 F2.length k7)
  | 46 => fun v _ => v = (.string ⟨(F2).toArray⟩)
  | 47 => fun v _ => v = (.bool B)
  | 48 => fun v _ => v = (.agg #[.slice V.wa V.ws.length V.wc, .slice V.pa V.ps.length V.pc, .slice V.ca V.cs.length V.cc])
  | 49 => fun v _ => v = (.agg #[.slice W.wa W.ws.length W.wc, .slice W.pa W.ps.length W.pc, .slice W.ca W.cs.length W.cc])
  | 50 => fun v _ => v = (.bool B)
  | 51 => fun v _ => v = (.bool true)
  | 52 => fun v _ => v = (.bool true)
  | 53 => fun v _ => v = (.bool true)
  | 54 => fun v _ => v = (.bool true)
  | 55 => fun v _ => v = (.bool true)
  | 4 => fun v _ => v = (.bool true)
  | _ => fun _ _ => True
theorem cf5_stay (n : Nat) (V W : CfgV) (F1 F2 : List UInt8) (a5 a7 : Option Addr) (k5 k7 : Nat) (B : Bool) : ∀ d v w1 w2, Below w1.heap.size w1 w2 → cf5 n V W F1 F2 a5 a7 k5 k7 B d v w1 → cf5 n V W F1 F2 a5 a7 k5 k7 B d v w2 := by
  intro d v w1 w2 hb h
  unfold cf5 at h ⊢
  split at h <;> first | exact h | exact tE_stay hb h | trivial
set_option maxRecDepth 100000 in
set_option maxHeartbeats 4000000 in
theorem configForms_law (w : World) (V W : CfgV) (h : V.At w) (hb : ∀ x ∈ V.ps, x.img.length ≤ 140737488351232) (k : W.At w) (kb : ∀ x ∈ W.ps, x.img.length ≤ 140737488351232) : Calls Try.prog 16 #[.agg #[.slice V.wa V.ws.length V.wc, .slice V.pa V.ps.length V.pc, .slice V.ca V.cs.length V.cc], .agg #[.slice W.wa W.ws.length W.wc, .slice W.pa W.ps.length W.pc, .slice W.ca W.cs.length W.cc]] w fun e w' => e = .returned (.bool true) ∧ Below w.heap.size w w' := by
  obtain ⟨w0, hw0⟩ : ∃ w0, w0 = (w.alloc (.cells #[.slice V.wa V.ws.length V.wc, .slice V.pa V.ps.length V.pc, .slice V.ca V.cs.length V.cc] 26)).alloc (.cells #[.slice W.wa W.ws.length W.wc, .slice W.pa W.ps.length W.pc, .slice W.ca W.cs.length W.cc] 26) := ⟨_, rfl⟩
  have B0 : Below w.heap.size w w0 := by rw [hw0]; exact ((Below.refl _ w).alloc (Nat.le_refl _) _).alloc (by simp) _
  have hI := two_box w V W
  rw [← hw0] at hI
  have HI := Lib.hid hI
  have HV := Lib.hid (h.stay B0)
  have HK := Lib.hid (k.stay B0)
  have HB0 := Lib.hid B0
  have HKB := Lib.hid kb
  obtain ⟨g1, hg1⟩ : ∃ g, Hid (g = greatV V) := ⟨_, rfl⟩
  obtain ⟨g2, hg2⟩ : ∃ g, Hid (g = greatV W) := ⟨_, rfl⟩
  obtain ⟨n1, hn1⟩ : ∃ g, Hid (g = canV V) := ⟨_, rfl⟩
  obtain ⟨n2, hn2⟩ : ∃ g, Hid (g = canV W) := ⟨_, rfl⟩
  have hc := cgreat_calls w0 V HV.out hb
  rw [← hg1.out] at hc
  have HC := Lib.hid hc
  clear h k B0 hI hb kb hc
  obtain ⟨⟨c0, c1, c2⟩, ⟨d0, d1, d2⟩⟩ := HI.out
  go_enter Try.func16, Try.ntmps16
  go_wp2_with fail
  rw [← hw0]
  clear hw0
  refine (HC.out).mono ?_
  rintro e w1 ⟨rfl, hb1⟩
  have HB1 := Lib.hid hb1
  clear c0 c1 c2 d0 d1 d2 HC hb1
  cases g1 with
  | true =>
    go_wp2_with fail
    refine (awake11_calls w1).mono ?_
    rintro e wq ⟨rfl, hbq⟩
    go_wp2_with fail
    go_ret
    exact ⟨rfl, HB0.out.trans ((HB1.out.trans (hbq.mono HB1.out.size)).mono HB0.out.size)⟩
  | false =>
    obtain ⟨d0, d1, d2⟩ := HI.out.2.keep HB1.out
    have hc := cgreat_calls w1 W (HK.out.stay HB1.out) HKB.out
    rw [← hg2.out] at hc
    have HC := Lib.hid hc
    clear hc
    go_wp2_with fail
    refine (HC.out).mono ?_
    rintro e w2 ⟨rfl, hb2⟩
    have HB2 := Lib.hid (HB1.out.trans (hb2.mono HB1.out.size))
    clear d0 d1 d2 hb2 HC HB1
    cases g2 with
    | true =>
      go_wp2_with fail
      refine (awake11_calls w2).mono ?_
      rintro e wq ⟨rfl, hbq⟩
      go_wp2_with fail
      go_ret
      exact ⟨rfl, HB0.out.trans ((HB2.out.trans (hbq.mono HB2.out.size)).mono HB0.out.size)⟩
    | false =>
      obtain ⟨c0, c1, c2⟩ := HI.out.1.keep HB2.out
      have hc := can_calls w2 V (HV.out.stay HB2.out)
      rw [← hn1.out] at hc
      have HC := Lib.hid hc
      clear hc
      go_wp2_with fail
      refine (HC.out).mono ?_
      rintro e w3 ⟨rfl, hb3⟩
      have HB3 := Lib.hid (HB2.out.trans (hb3.mono HB2.out.size))
      clear c0 c1 c2 hb3 HC HB2
      cases n1 with
      | false =>
        go_wp2_with fail
        refine (awake11_calls w3).mono ?_
        rintro e wq ⟨rfl, hbq⟩
        go_wp2_with fail
        go_ret
        exact ⟨rfl, HB0.out.trans ((HB3.out.trans (hbq.mono HB3.out.size)).mono HB0.out.size)⟩
      | true =>
        obtain ⟨d0, d1, d2⟩ := HI.out.2.keep HB3.out
        have hc := can_calls w3 W (HK.out.stay HB3.out)
        rw [← hn2.out] at hc
        have HC := Lib.hid hc
        clear hc
        go_wp2_with fail
        refine (HC.out).mono ?_
        rintro e w4 ⟨rfl, hb4⟩
        have HB4 := Lib.hid (HB3.out.trans (hb4.mono HB3.out.size))
        clear d0 d1 d2 hb4 HC HB3
        cases n2 with
        | false =>
          go_wp2_with fail
          refine (awake11_calls w4).mono ?_
          rintro e wq ⟨rfl, hbq⟩
          go_wp2_with fail
          go_ret
          exact ⟨rfl, HB0.out.trans ((HB4.out.trans (hbq.mono HB4.out.size)).mono HB0.out.size)⟩
        | true =>
          obtain ⟨F1, hF1⟩ : ∃ F, Hid (F = formK V.cfg) := ⟨_, rfl⟩
          obtain ⟨F2, hF2⟩ : ∃ F, Hid (F = formK W.cfg) := ⟨_, rfl⟩
          obtain ⟨B, hB⟩ : ∃ B, Hid (B = decide (V.cfg = W.cfg)) := ⟨_, rfl⟩
          have HFB : Hid (decide (F1 = F2) = B) := by
            rw [Hid, hB.out, hF1.out, hF2.out, decide_eq_decide]
            refine ⟨fun e => form_inj ?_ ?_ e, fun e => by rw [e]⟩
            · rw [← canV_cfg]; exact hn1.out.symm
            · rw [← canV_cfg]; exact hn2.out.symm
          have hp1 := print_yes (V := V) hn1.out.symm
          have hp2 := print_yes (V := W) hn2.out.symm
          have HP1 := Lib.hid (print_is w4 V (HV.out.stay HB4.out) (small_of hg1.out.symm) F1 F1.length 0 (by rw [hp1.1, hF1.out]) rfl hp1.2)
          obtain ⟨c0, c1, c2⟩ := HI.out.1.keep HB4.out
          clear hp1
          go_wp2_with fail
          refine (HP1.out).mono ?_
          rintro e w5 ⟨a5, k5, rfl, r5, hb5⟩
          have HB5 := Lib.hid (HB4.out.trans (hb5.mono HB4.out.size))
          clear c0 c1 c2 hb5 HP1
          have HP2 := Lib.hid (print_is w5 W (HK.out.stay HB5.out) (small_of hg2.out.symm) F2 F2.length 0 (by rw [hp2.1, hF2.out]) rfl hp2.2)
          obtain ⟨d0, d1, d2⟩ := HI.out.2.keep HB5.out
          have HR5 := Lib.hid r5
          clear hp2 r5
          go_wp2_with fail
          refine (HP2.out).mono ?_
          rintro e w6 ⟨a7, k7, rfl, r7, hb6⟩
          have HB6 := Lib.hid (HB5.out.trans (hb6.mono HB5.out.size))
          have r5 := HR5.out.stay hb6
          clear d0 d1 d2 hb6 HP2
          go_upto_region 5 with fail
          have hV6 := HV.out.stay HB6.out
          have hW6 := HK.out.stay HB6.out
          have HCS : Hid (∀ q : After w6, Calls Try.prog 56 #[.agg #[.slice V.wa V.ws.length V.wc, .slice V.pa V.ps.length V.pc, .slice V.ca V.cs.length V.cc], .agg #[.slice W.wa W.ws.length W.wc, .slice W.pa W.ps.length W.pc, .slice W.ca W.cs.length W.cc]] q.to fun e w' => e = .returned (.bool B) ∧ Below q.to.heap.size q.to w') := fun q => by rw [hB.out]; exact csame_calls q.to V W (hV6.stay q.bel) (hW6.stay q.bel)
          obtain ⟨c0, c1, c2⟩ := HI.out.1.keep HB6.out
          obtain ⟨d0, d1, d2⟩ := HI.out.2.keep HB6.out
          clear hV6 hW6
          refine wp_region_tyg (cf5 w.heap.size V W F1 F2 a5 a7 k5 k7 B) (by kernel_rfl) (by kernel_rfl) (cf5_stay w.heap.size V W F1 F2 a5 a7 k5 k7 B) ?_ ?_
          · refine opsAll_cons ?_ (opsAll_cons ?_ (opsAll_cons ?_ (opsAll_cons ?_ (opsAll_cons ?_ (opsAll_cons ?_ (opsAll_cons ?_ (opsAll_cons ?_ (opsAll_cons ?_ (opsAll_cons ?_ (opsAll_cons ?_ (opsAll_cons ?_ (opsAll_cons ?_ (opsAll_cons ?_ (opsAll_cons ?_ (opsAll_cons ?_ (opsAll_cons ?_ (opsAll_cons ?_ (opsAll_cons ?_ (opsAll_cons ?_ (opsAll_cons ?_ opsAll_nil))))))))))))))))))))
            all_goals intro a wx hk
            · exact .inl ⟨wanted_free rfl, gp_move (.tmp 6) rfl ⟨Below.refl _ _, (hk.old 6 (by kernel_rfl)).trans rfl⟩⟩
            · exact .inl ⟨wanted_free rfl, gp_bin rfl (show a.eval (.tmp 36) = (.int .i64 0) from hk.slot 36 (by kernel_rfl)) rfl (v := .bool true) (fun w => by go_simp) ⟨Below.refl _ _, rfl⟩⟩
            · exact .inl ⟨wanted_free rfl, gp_move (.tmp 37) rfl ⟨Below.refl _ _, hk.slot 37 (by kernel_rfl)⟩⟩
            · exact .inl ⟨wanted_by 38 true (by kernel_rfl) (show a.eval (.tmp 38) = .bool true from hk.slot 38 (by kernel_rfl)), gp_move (.tmp 8) rfl ⟨Below.refl _ _, (hk.old 8 (by kernel_rfl)).trans rfl⟩⟩
            · exact .inl ⟨wanted_by 38 true (by kernel_rfl) (show a.eval (.tmp 38) = .bool true from hk.slot 38 (by kernel_rfl)), gp_bin rfl (show a.eval (.tmp 39) = (.int .i64 0) from hk.slot 39 (by kernel_rfl)) rfl (v := .bool true) (fun w => by go_simp) ⟨Below.refl _ _, rfl⟩⟩
            · exact .inl ⟨wanted_free rfl, gp_pick rfl true (show a.eval (.tmp 38) = (.bool true) from hk.slot 38 (by kernel_rfl)) ⟨Below.refl _ _, (show a.eval (.tmp 40) = (.bool true) from hk.slot 40 (by kernel_rfl))⟩⟩
            · exact .inl ⟨wanted_free rfl, gp_move (.tmp 41) rfl ⟨Below.refl _ _, hk.slot 41 (by kernel_rfl)⟩⟩
            · exact .inl ⟨wanted_by 42 true (by kernel_rfl) (show a.eval (.tmp 42) = .bool true from hk.slot 42 (by kernel_rfl)), gp_move (.tmp 5) rfl ⟨Below.refl _ _, (hk.old 5 (by kernel_rfl)).trans rfl⟩⟩
            · exact .inl ⟨wanted_by 42 true (by kernel_rfl) (show a.eval (.tmp 42) = .bool true from hk.slot 42 (by kernel_rfl)), gp_conv rfl (show a.eval (.tmp 43) = (.slice a5 F1.length k5) from hk.slot 43 (by kernel_rfl)) rfl ((fun (q : After _) => r5.stay q.bel) ⟨wx, hk.below⟩) ⟨Below.refl _ _, rfl⟩⟩
            · exact .inl ⟨wanted_by 42 true (by kernel_rfl) (show a.eval (.tmp 42) = .bool true from hk.slot 42 (by kernel_rfl)), gp_move (.tmp 7) rfl ⟨Below.refl _ _, (hk.old 7 (by kernel_rfl)).trans rfl⟩⟩
            · exact .inl ⟨wanted_by 42 true (by kernel_rfl) (show a.eval (.tmp 42) = .bool true from hk.slot 42 (by kernel_rfl)), gp_conv rfl (show a.eval (.tmp 45) = (.slice a7 F2.length k7) from hk.slot 45 (by kernel_rfl)) rfl ((fun (q : After _) => r7.stay q.bel) ⟨wx, hk.below⟩) ⟨Below.refl _ _, rfl⟩⟩
            · exact .inl ⟨wanted_by 42 true (by kernel_rfl) (show a.eval (.tmp 42) = .bool true from hk.slot 42 (by kernel_rfl)), gp_bin rfl (show a.eval (.tmp 44) = (.string ⟨(F1).toArray⟩) from hk.slot 44 (by kernel_rfl)) (show a.eval (.tmp 46) = (.string ⟨(F2).toArray⟩) from hk.slot 46 (by kernel_rfl)) (v := .bool B) (fun w => eq_str F1 F2 B HFB.out w) ⟨Below.refl _ _, rfl⟩⟩
            · exact .inl ⟨wanted_by 42 true (by kernel_rfl) (show a.eval (.tmp 42) = .bool true from hk.slot 42 (by kernel_rfl)), gp_load (.tmp 2) rfl (show a.eval (.tmp 2) = (.pointer (some ⟨w.heap.size, 0, none⟩)) from ((hk.old 2 (by kernel_rfl)).trans rfl)) ((fun (q : After _) => load3 (fun w => by kernel_rfl) (fun w => by kernel_rfl) (keep q.bel c0) (keep q.bel c1) (keep q.bel c2)) ⟨wx, hk.below⟩) ⟨Below.refl _ _, rfl⟩⟩
            · exact .inl ⟨wanted_by 42 true (by kernel_rfl) (show a.eval (.tmp 42) = .bool true from hk.slot 42 (by kernel_rfl)), gp_load (.tmp 3) rfl (show a.eval (.tmp 3) = (.pointer (some ⟨w.heap.size + 1, 0, none⟩)) from ((hk.old 3 (by kernel_rfl)).trans rfl)) ((fun (q : After _) => load3 (fun w => by kernel_rfl) (fun w => by kernel_rfl) (keep q.bel d0) (keep q.bel d1) (keep q.bel d2)) ⟨wx, hk.below⟩) ⟨Below.refl _ _, rfl⟩⟩
            · exact .inl ⟨wanted_by 42 true (by kernel_rfl) (show a.eval (.tmp 42) = .bool true from hk.slot 42 (by kernel_rfl)), gp_call rfl (hk.fn _) #[.agg #[.slice V.wa V.ws.length V.wc, .slice V.pa V.ps.length V.pc, .slice V.ca V.cs.length V.cc], .agg #[.slice W.wa W.ws.length W.wc, .slice W.pa W.ps.length W.pc, .slice W.ca W.cs.length W.cc]] (fun w => by kernel_rfl) (by simp only [List.map_toArray, List.map_cons, List.map_nil, (show a.eval (.tmp 48) = (.agg #[.slice V.wa V.ws.length V.wc, .slice V.pa V.ps.length V.pc, .slice V.ca V.cs.length V.cc]) from hk.slot 48 (by kernel_rfl)), (show a.eval (.tmp 49) = (.agg #[.slice W.wa W.ws.length W.wc, .slice W.pa W.ps.length W.pc, .slice W.ca W.cs.length W.cc]) from hk.slot 49 (by kernel_rfl))]) (((fun (q : After _) => HCS.out q) ⟨wx, hk.below⟩).mono fun e w' ⟨he, hb⟩ => ⟨_, he, hb, rfl⟩)⟩
            · exact .inl ⟨wanted_by 42 true (by kernel_rfl) (show a.eval (.tmp 42) = .bool true from hk.slot 42 (by kernel_rfl)), gp_bin rfl (show a.eval (.tmp 47) = (.bool B) from hk.slot 47 (by kernel_rfl)) (show a.eval (.tmp 50) = (.bool B) from hk.slot 50 (by kernel_rfl)) (v := .bool true) (fun w => by cases B <;> go_simp) ⟨Below.refl _ _, rfl⟩⟩
            · exact .inl ⟨wanted_free rfl, gp_pick rfl true (show a.eval (.tmp 42) = (.bool true) from hk.slot 42 (by kernel_rfl)) ⟨Below.refl _ _, (show a.eval (.tmp 51) = (.bool true) from hk.slot 51 (by kernel_rfl))⟩⟩
            · exact .inl ⟨wanted_free rfl, gp_move (.tmp 52) rfl ⟨Below.refl _ _, hk.slot 52 (by kernel_rfl)⟩⟩
            · exact .inl ⟨wanted_by 53 true (by kernel_rfl) (show a.eval (.tmp 53) = .bool true from hk.slot 53 (by kernel_rfl)), gp_call rfl (hk.fn _) #[] (fun w => by kernel_rfl) (by rw [List.map_toArray]; rfl) (((fun (q : After _) => awake11_calls q.to) ⟨wx, hk.below⟩).mono fun e w' ⟨he, hb⟩ => ⟨_, he, hb, rfl⟩)⟩
            · exact .inl ⟨wanted_free rfl, gp_pick rfl true (show a.eval (.tmp 53) = (.bool true) from hk.slot 53 (by kernel_rfl)) ⟨Below.refl _ _, (show a.eval (.tmp 54) = (.bool true) from hk.slot 54 (by kernel_rfl))⟩⟩
            · exact .inl ⟨wanted_free rfl, gp_assign (.tmp 55) rfl ⟨Below.refl _ _, hk.slot 55 (by kernel_rfl)⟩⟩
          intro a wz hbz hsame hall
          have he := act_same hsame [36, 37, 38, 39, 40, 41, 42, 43, 44, 45, 46, 47, 48, 49, 50, 51, 52, 53, 54, 55, 4] (by kernel_rfl)
          simp only [List.foldl_cons, List.foldl_nil] at he
          rw [show a.eval (.tmp 4) = (.bool true) from hall 4 (by kernel_rfl)] at he
          generalize a.eval (.tmp 36) = y36 at he
          generalize a.eval (.tmp 37) = y37 at he
          generalize a.eval (.tmp 38) = y38 at he
          generalize a.eval (.tmp 39) = y39 at he
          generalize a.eval (.tmp 40) = y40 at he
          generalize a.eval (.tmp 41) = y41 at he
          generalize a.eval (.tmp 42) = y42 at he
          generalize a.eval (.tmp 43) = y43 at he
          generalize a.eval (.tmp 44) = y44 at he
          generalize a.eval (.tmp 45) = y45 at he
          generalize a.eval (.tmp 46) = y46 at he
          generalize a.eval (.tmp 47) = y47 at he
          generalize a.eval (.tmp 48) = y48 at he
          generalize a.eval (.tmp 49) = y49 at he
          generalize a.eval (.tmp 50) = y50 at he
          generalize a.eval (.tmp 51) = y51 at he
          generalize a.eval (.tmp 52) = y52 at he
          generalize a.eval (.tmp 53) = y53 at he
          generalize a.eval (.tmp 54) = y54 at he
          generalize a.eval (.tmp 55) = y55 at he
          simp only [put_lit] at he
          dsimp only [List.set_cons_zero, List.set_cons_succ] at he
          subst he
          clear hsame hall
          have HZ := Lib.hid (HB6.out.trans (hbz.mono HB6.out.size))
          clear hbz c0 c1 c2 d0 d1 d2
          go_wp2_with fail
          go_ret
          exact ⟨rfl, HB0.out.trans (HZ.out.mono HB0.out.size)⟩
theorem configForms_all (w : World) (V W : CfgV) (h : V.At w) (hb : ∀ x ∈ V.ps, x.img.length ≤ 140737488351232) (k : W.At w) (kb : ∀ x ∈ W.ps, x.img.length ≤ 140737488351232) : Calls Try.prog 16 #[.agg (cCfg V).toArray, .agg (cCfg W).toArray] w fun e w' => e = .returned (.bool true) ∧ Below w.heap.size w w' :=
  configForms_law w V W h hb k kb
end Go.Proofs.Ytpnbaapjjchlbaa
