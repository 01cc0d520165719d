/- ConfigBack: the walk of the law. -/
import Derived.Test.YtpnbaapjjchlbaaStrP
namespace Go.Proofs.Ytpnbaapjjchlbaa
open Go Go.RowKit Go.Cit

set_option maxRecDepth 100000 in
set_option maxHeartbeats 4000000 in
theorem configBack_law (w : World) (V : CfgV) (ab : Option Addr) (L : List UInt8) (kb : Nat) (h : V.At w) (hb : ∀ x ∈ V.ps, x.img.length ≤ 140737488351232) (hr : Row w ab L kb) : Calls Try.prog 15 #[.agg #[.slice V.wa V.ws.length V.wc, .slice V.pa V.ps.length V.pc, .slice V.ca V.cs.length V.cc], .slice ab L.length kb] w fun e w' => e = .returned (.bool true) ∧ Below w.heap.size w w' := by
  obtain ⟨w0, hw0⟩ : ∃ w0, w0 = w.alloc (.cells #[.slice V.wa V.ws.length V.wc, .slice V.pa V.ps.length V.pc, .slice V.ca V.cs.length V.cc] 26) := ⟨_, rfl⟩
  have B0 : Below w.heap.size w w0 := by rw [hw0]; exact (Below.refl _ w).alloc (Nat.le_refl _) _
  have hI : InBox w0 w.heap.size V := by rw [hw0]; exact inBox_new w V _
  have HI := Lib.hid hI
  have HV := Lib.hid (h.stay B0)
  have HR := Lib.hid (hr.stay B0)
  have HB0 := Lib.hid B0
  obtain ⟨g1, hg1⟩ : ∃ g, Hid (g = greatV V) := ⟨_, rfl⟩
  obtain ⟨n1, hn1⟩ : ∃ g, Hid (g = canV V) := ⟨_, rfl⟩
  obtain ⟨nL, hnL⟩ : ∃ g, Hid (g = L.length) := ⟨_, rfl⟩
  rw [← hnL.out]
  obtain ⟨b9, hb9⟩ : ∃ b, Hid (b = decide ((nL : Int) > 9000)) := ⟨_, rfl⟩
  have hc := cgreat_calls w0 V HV.out hb
  rw [← hg1.out] at hc
  have HC := Lib.hid hc
  clear h B0 hI hb hc hr
  obtain ⟨c0, c1, c2⟩ := HI.out
  go_enter Try.func15, Try.ntmps15
  go_wp2_with fail
  rw [← hw0]
  clear hw0
  refine (HC.out).mono ?_
  rintro e w1 ⟨rfl, hb1⟩
  have HB1 := Lib.hid hb1
  clear c0 c1 c2 HC hb1
  cases g1 with
  | true =>
    go_wp2_with fail
    refine (awake11_calls w1).mono ?_
    rintro e wq ⟨rfl, hbq⟩
    go_wp2_with fail
    go_ret
    exact ⟨rfl, HB0.out.trans ((HB1.out.trans (hbq.mono HB1.out.size)).mono HB0.out.size)⟩
  | false =>
    cases b9 with
    | true =>
      have g9 : (nL : Int) > 9000 := by have := hb9.out; exact of_decide_eq_true this.symm
      go_wp2_with fail
      refine (awake11_calls w1).mono ?_
      rintro e wq ⟨rfl, hbq⟩
      go_wp2_with fail
      go_ret
      exact ⟨rfl, HB0.out.trans ((HB1.out.trans (hbq.mono HB1.out.size)).mono HB0.out.size)⟩
    | false =>
      have g9 : ¬ (nL : Int) > 9000 := by have := hb9.out; exact of_decide_eq_false this.symm
      obtain ⟨c0, c1, c2⟩ := HI.out.keep HB1.out
      have hsm := small_of hg1.out.symm
      cases n1 with
      | false =>
        have hcn : canV V = false := hn1.out.symm
        have hpE : printE V = 2 := by unfold printE; rw [hcn]; rfl
        have HP := Lib.hid (print_is w1 V (HV.out.stay HB1.out) hsm (printB V) (printB V).length 2 rfl rfl hpE)
        obtain ⟨F, hF⟩ : ∃ F, Hid (F = printB V) := ⟨_, rfl⟩
        rw [← hF.out] at HP
        clear hcn hpE hsm
        go_wp2_with fail
        refine (HP.out).mono ?_
        rintro e w2 ⟨a3, k3, rfl, _, hb2⟩
        have HB2 := Lib.hid (HB1.out.trans (hb2.mono HB1.out.size))
        clear c0 c1 c2 hb2 HP
        obtain ⟨c0, c1, c2⟩ := HI.out.keep HB2.out
        have hc := can_calls w2 V (HV.out.stay HB2.out)
        rw [← hn1.out] at hc
        have HC := Lib.hid hc
        clear hc
        go_wp2_with fail
        refine (HC.out).mono ?_
        rintro e wt ⟨rfl, hb3⟩
        have HBt := Lib.hid (HB2.out.trans (hb3.mono HB2.out.size))
        have HRt := Lib.hid (HR.out.stay HBt.out)
        clear c0 c1 c2 hb3 HC HB2 HB1
        have HPB := Lib.hid (parse_is wt HRt.out nL hnL.out.symm (parK L) (parE L) rfl rfl)
        go_wp2_with fail
        refine (HPB.out).mono ?_
        rintro e wu ⟨U, rfl, hU, aU, hbu⟩
        obtain ⟨wv, hwv⟩ : ∃ wv, wv = wu.alloc (.cells #[.slice U.wa U.ws.length U.wc, .slice U.pa U.ps.length U.pc, .slice U.ca U.cs.length U.cc] 26) := ⟨_, rfl⟩
        obtain ⟨q9, hq9⟩ : ∃ q9, q9 = wu.heap.size := ⟨_, rfl⟩
        have hbuv : Below wu.heap.size wu wv := by rw [hwv]; exact (Below.refl _ _).alloc (Nat.le_refl _) _
        have hx9 : InBox wv q9 U := by rw [hwv, hq9]; exact inBox_new wu U _
        have hbtv := hbu.trans (hbuv.mono hbu.size)
        have HBv := Lib.hid (HBt.out.trans (hbtv.mono HBt.out.size))
        have HRv := Lib.hid (HRt.out.stay hbtv)
        have HUv := Lib.hid (And.intro hU (aU.stay hbuv))
        clear hbu hbuv hbtv HBt HRt HPB hU aU
        obtain ⟨x0, x1, x2⟩ := hx9
        go_upto_region 11 with fail
        rw [← hwv, ← hq9]
        clear hwv hq9
        obtain ⟨ok, hok⟩ : ∃ ok, Hid (ok = parOk L) := ⟨_, rfl⟩
        cases ok with
        | false =>
          have hpn := par_no hok.out.symm
          have hU0 : U.cfg = ⟨[], [], []⟩ := HUv.out.1.trans hpn.1
          rw [hpn.2]
          have HSM : Hid (Calls Try.prog 56 #[.agg #[.slice U.wa U.ws.length U.wc, .slice U.pa U.ps.length U.pc, .slice U.ca U.cs.length U.cc], .agg #[.slice none 0 0, .slice none 0 0, .slice none 0 0]] wv fun e w' => e = .returned (.bool true) ∧ Below wv.heap.size wv w') := by
            have := csame_calls wv U vZ HUv.out.2 (at_Z _)
            rw [decide_eq_true (show U.cfg = vZ.cfg from hU0)] at this
            exact this
          clear hpn hU0
          go_wp2_with fail
          refine (HSM.out).mono ?_
          rintro e wx ⟨rfl, hbx⟩
          have HBx := Lib.hid (HBv.out.trans (hbx.mono HBv.out.size))
          clear hbx x0 x1 x2
          go_wp2_with fail
          refine (awake11_calls wx).mono ?_
          rintro e wq ⟨rfl, hbq⟩
          go_wp2_with fail
          go_ret
          exact ⟨rfl, HB0.out.trans ((HBx.out.trans (hbq.mono HBx.out.size)).mono HB0.out.size)⟩
        | true =>
          have hE : parE L = 0 := by unfold parE; rw [← hok.out]; rfl
          have hK : parK L = parC L := by unfold parK; rw [← hok.out]; rfl
          rw [hE]
          have hbk := par_back hok.out.symm
          have hcU : canV U = true := by rw [canV_cfg, HUv.out.1, hK]; exact hbk.2
          have hpU := print_yes hcU
          rw [HUv.out.1, hK, ← hbk.1] at hpU
          have HPR := Lib.hid (print_is wv U HUv.out.2 (small_can hcU) L nL 0 hpU.1 hnL.out.symm hpU.2)
          clear hE hK hbk hcU hpU
          go_wp2_with fail
          refine (HPR.out).mono ?_
          rintro e wx ⟨ax, kx, rfl, rx, hbx⟩
          have HBx := Lib.hid (HBv.out.trans (hbx.mono HBv.out.size))
          have HRx := Lib.hid (And.intro rx (HRv.out.stay hbx))
          clear hbx rx x0 x1 x2 HPR
          go_wp2_with (first
            | ((with_reducible refine wpList_value_gd (o := ⟨some 66, .convert _ _ _, _, _, _, _⟩) (by with_unfolding_all rfl) (exec_conv (x := .tmp 65) (by with_unfolding_all rfl) (by with_unfolding_all rfl) hnL.out.symm HRx.out.1) ?_))
            | ((with_reducible refine wpList_value_gd (o := ⟨some 68, .convert _ _ _, _, _, _, _⟩) (by with_unfolding_all rfl) (exec_conv (x := .tmp 67) (by with_unfolding_all rfl) (by with_unfolding_all rfl) hnL.out.symm HRx.out.2) ?_)))
          refine (awake11_calls wx).mono ?_
          rintro e wq ⟨rfl, hbq⟩
          go_wp2_with fail
          go_ret
          exact ⟨rfl, HB0.out.trans ((HBx.out.trans (hbq.mono HBx.out.size)).mono HB0.out.size)⟩
      | true =>
        have hcan : canC V.cfg = true := by rw [← canV_cfg]; exact hn1.out.symm
        obtain ⟨F, hF⟩ : ∃ F, Hid (F = formK V.cfg) := ⟨_, rfl⟩
        obtain ⟨n, hn⟩ : ∃ n, Hid (n = F.length) := ⟨_, rfl⟩
        have hp := print_yes (V := V) hn1.out.symm
        have HP := Lib.hid (print_is w1 V (HV.out.stay HB1.out) hsm F n 0 (by rw [hp.1, hF.out]) hn.out.symm hp.2)
        have hpy := par_yes hcan
        rw [← hF.out] at hpy
        have HPY := Lib.hid hpy
        clear hp hcan hpy hsm
        go_wp2_with fail
        refine (HP.out).mono ?_
        rintro e w2 ⟨a3, k3, rfl, r3, hb2⟩
        have HB2 := Lib.hid (HB1.out.trans (hb2.mono HB1.out.size))
        have HR2 := Lib.hid r3
        clear c0 c1 c2 hb2 HP r3
        obtain ⟨c0, c1, c2⟩ := HI.out.keep HB2.out
        have hc := can_calls w2 V (HV.out.stay HB2.out)
        rw [← hn1.out] at hc
        have HC := Lib.hid hc
        clear hc
        go_wp2_with fail
        refine (HC.out).mono ?_
        rintro e w3 ⟨rfl, hb3⟩
        have HB3 := Lib.hid (HB2.out.trans (hb3.mono HB2.out.size))
        have HP3 := Lib.hid (parse_is w3 (HR2.out.stay hb3) n hn.out.symm V.cfg 0 HPY.out.1 HPY.out.2)
        clear c0 c1 c2 hb3 HC HB2 HB1 HR2 HPY
        go_wp2_with fail
        refine (HP3.out).mono ?_
        rintro e w4 ⟨D, rfl, hD, aD, hb4⟩
        obtain ⟨w5, hw5⟩ : ∃ w5, w5 = w4.alloc (.cells #[.slice D.wa D.ws.length D.wc, .slice D.pa D.ps.length D.pc, .slice D.ca D.cs.length D.cc] 26) := ⟨_, rfl⟩
        obtain ⟨p7, hp7⟩ : ∃ p7, p7 = w4.heap.size := ⟨_, rfl⟩
        have hb45 : Below w4.heap.size w4 w5 := by rw [hw5]; exact (Below.refl _ _).alloc (Nat.le_refl _) _
        have hx7 : InBox w5 p7 D := by rw [hw5, hp7]; exact inBox_new w4 D _
        have hb35 := hb4.trans (hb45.mono hb4.size)
        have HB5 := Lib.hid (HB3.out.trans (hb35.mono HB3.out.size))
        have HSM : Hid (Calls Try.prog 56 #[.agg #[.slice V.wa V.ws.length V.wc, .slice V.pa V.ps.length V.pc, .slice V.ca V.cs.length V.cc], .agg #[.slice D.wa D.ws.length D.wc, .slice D.pa D.ps.length D.pc, .slice D.ca D.cs.length D.cc]] w5 fun e w' => e = .returned (.bool true) ∧ Below w5.heap.size w5 w') := by
          have := csame_calls w5 V D (HV.out.stay HB5.out) (aD.stay hb45)
          rw [decide_eq_true hD.symm] at this
          exact this
        obtain ⟨c0, c1, c2⟩ := HI.out.keep HB5.out
        obtain ⟨d0, d1, d2⟩ := hx7
        clear hb4 hb45 hb35 hD aD HP3 HB3
        go_upto_region 8 with fail
        rw [← hw5, ← hp7]
        clear hw5 hp7
        go_wp2_with fail
        refine (HSM.out).mono ?_
        rintro e wt ⟨rfl, hb6⟩
        have HBt := Lib.hid (HB5.out.trans (hb6.mono HB5.out.size))
        have HRt := Lib.hid (HR.out.stay HBt.out)
        clear c0 c1 c2 d0 d1 d2 hb6 HSM HB5
        have HPB := Lib.hid (parse_is wt HRt.out nL hnL.out.symm (parK L) (parE L) rfl rfl)
        go_wp2_with fail
        refine (HPB.out).mono ?_
        rintro e wu ⟨U, rfl, hU, aU, hbu⟩
        obtain ⟨wv, hwv⟩ : ∃ wv, wv = wu.alloc (.cells #[.slice U.wa U.ws.length U.wc, .slice U.pa U.ps.length U.pc, .slice U.ca U.cs.length U.cc] 26) := ⟨_, rfl⟩
        obtain ⟨q9, hq9⟩ : ∃ q9, q9 = wu.heap.size := ⟨_, rfl⟩
        have hbuv : Below wu.heap.size wu wv := by rw [hwv]; exact (Below.refl _ _).alloc (Nat.le_refl _) _
        have hx9 : InBox wv q9 U := by rw [hwv, hq9]; exact inBox_new wu U _
        have hbtv := hbu.trans (hbuv.mono hbu.size)
        have HBv := Lib.hid (HBt.out.trans (hbtv.mono HBt.out.size))
        have HRv := Lib.hid (HRt.out.stay hbtv)
        have HUv := Lib.hid (And.intro hU (aU.stay hbuv))
        clear hbu hbuv hbtv HBt HRt HPB hU aU
        obtain ⟨x0, x1, x2⟩ := hx9
        go_upto_region 11 with fail
        rw [← hwv, ← hq9]
        clear hwv hq9
        obtain ⟨ok, hok⟩ : ∃ ok, Hid (ok = parOk L) := ⟨_, rfl⟩
        cases ok with
        | false =>
          have hpn := par_no hok.out.symm
          have hU0 : U.cfg = ⟨[], [], []⟩ := HUv.out.1.trans hpn.1
          rw [hpn.2]
          have HSM : Hid (Calls Try.prog 56 #[.agg #[.slice U.wa U.ws.length U.wc, .slice U.pa U.ps.length U.pc, .slice U.ca U.cs.length U.cc], .agg #[.slice none 0 0, .slice none 0 0, .slice none 0 0]] wv fun e w' => e = .returned (.bool true) ∧ Below wv.heap.size wv w') := by
            have := csame_calls wv U vZ HUv.out.2 (at_Z _)
            rw [decide_eq_true (show U.cfg = vZ.cfg from hU0)] at this
            exact this
          clear hpn hU0
          go_wp2_with fail
          refine (HSM.out).mono ?_
          rintro e wx ⟨rfl, hbx⟩
          have HBx := Lib.hid (HBv.out.trans (hbx.mono HBv.out.size))
          clear hbx x0 x1 x2
          go_wp2_with fail
          refine (awake11_calls wx).mono ?_
          rintro e wq ⟨rfl, hbq⟩
          go_wp2_with fail
          go_ret
          exact ⟨rfl, HB0.out.trans ((HBx.out.trans (hbq.mono HBx.out.size)).mono HB0.out.size)⟩
        | true =>
          have hE : parE L = 0 := by unfold parE; rw [← hok.out]; rfl
          have hK : parK L = parC L := by unfold parK; rw [← hok.out]; rfl
          rw [hE]
          have hbk := par_back hok.out.symm
          have hcU : canV U = true := by rw [canV_cfg, HUv.out.1, hK]; exact hbk.2
          have hpU := print_yes hcU
          rw [HUv.out.1, hK, ← hbk.1] at hpU
          have HPR := Lib.hid (print_is wv U HUv.out.2 (small_can hcU) L nL 0 hpU.1 hnL.out.symm hpU.2)
          clear hE hK hbk hcU hpU
          go_wp2_with fail
          refine (HPR.out).mono ?_
          rintro e wx ⟨ax, kx, rfl, rx, hbx⟩
          have HBx := Lib.hid (HBv.out.trans (hbx.mono HBv.out.size))
          have HRx := Lib.hid (And.intro rx (HRv.out.stay hbx))
          clear hbx rx x0 x1 x2 HPR
          go_wp2_with (first
            | ((with_reducible refine wpList_value_gd (o := ⟨some 66, .convert _ _ _, _, _, _, _⟩) (by with_unfolding_all rfl) (exec_conv (x := .tmp 65) (by with_unfolding_all rfl) (by with_unfolding_all rfl) hnL.out.symm HRx.out.1) ?_))
            | ((with_reducible refine wpList_value_gd (o := ⟨some 68, .convert _ _ _, _, _, _, _⟩) (by with_unfolding_all rfl) (exec_conv (x := .tmp 67) (by with_unfolding_all rfl) (by with_unfolding_all rfl) hnL.out.symm HRx.out.2) ?_)))
          refine (awake11_calls wx).mono ?_
          rintro e wq ⟨rfl, hbq⟩
          go_wp2_with fail
          go_ret
          exact ⟨rfl, HB0.out.trans ((HBx.out.trans (hbq.mono HBx.out.size)).mono HB0.out.size)⟩
theorem configBack_all (w : World) (V : CfgV) (ab : Option Addr) (L : List UInt8) (kb : Nat) (h : V.At w) (hb : ∀ x ∈ V.ps, x.img.length ≤ 140737488351232) (hr : Row w ab L kb) : Calls Try.prog 15 #[.agg (cCfg V).toArray, .slice ab L.length kb] w fun e w' => e = .returned (.bool true) ∧ Below w.heap.size w w' :=
  configBack_law w V ab L kb h hb hr
end Go.Proofs.Ytpnbaapjjchlbaa
