/- citadelref13.Survives: under way. -/
import Derived.Test.YtpnbaapjjchlbaaRefBoth
import Derived.Test.YtpnbaapjjchlbaaOddR
namespace Go.Proofs.Ytpnbaapjjchlbaa
open Go Go.RowKit Go.Cit

set_option maxRecDepth 100000 in
set_option maxHeartbeats 2000000 in
theorem refsurv_calls (w : World) (V W : CfgV) (h : V.At w) (k : W.At w) (hs : SmallV V) (ks : SmallV W) (id : Int) : Calls Try.prog 37 #[.agg #[.slice V.wa V.ws.length V.wc, .slice V.pa V.ps.length V.pc, .slice V.ca V.cs.length V.cc], .agg #[.slice W.wa W.ws.length W.wc, .slice W.pa W.ps.length W.pc, .slice W.ca W.cs.length W.cc], .int .i64 id] w fun e w' => e = .returned (.bool (survK V W id)) ∧ Below w.heap.size w w' := by
  obtain ⟨w0, hw0⟩ : ∃ w0, w0 = (w.alloc (.cells #[.slice V.wa V.ws.length V.wc, .slice V.pa V.ps.length V.pc, .slice V.ca V.cs.length V.cc] 26)).alloc (.cells #[.slice W.wa W.ws.length W.wc, .slice W.pa W.ps.length W.pc, .slice W.ca W.cs.length W.cc] 26) := ⟨_, rfl⟩
  have B0 : Below w.heap.size w w0 := by rw [hw0]; exact ((Below.refl _ w).alloc (Nat.le_refl _) _).alloc (by simp) _
  have hI := two_box w V W
  rw [← hw0] at hI
  have HI := Lib.hid hI
  have HV := Lib.hid (h.stay B0)
  have HK := Lib.hid (k.stay B0)
  have HB0 := Lib.hid B0
  have hp := refboth_calls w0 V W (h.stay B0) (k.stay B0) id
  obtain ⟨b, hb0⟩ : ∃ f, Hid (f = bothK V.ps W.ps id) := ⟨_, rfl⟩
  rw [← hb0.out] at hp
  have HP := Lib.hid hp
  clear h k B0 hI hp
  obtain ⟨⟨c0, c1, c2⟩, ⟨d0, d1, d2⟩⟩ := HI.out
  obtain ⟨R, hR⟩ : ∃ R, Hid (R = survK V W id) := ⟨_, rfl⟩
  rw [← hR.out]
  obtain ⟨m, hm0⟩ : ∃ R, Hid (R = mayK V W) := ⟨_, rfl⟩
  go_enter Try.func37, Try.ntmps37
  go_wp2_with fail
  rw [← hw0]
  clear hw0
  refine (HP.out).mono ?_
  rintro e w1 ⟨X, Y, rfl, hxy, hb1⟩
  have HB1 := Lib.hid (HB0.out.trans (hb1.mono HB0.out.size))
  have HXY := Lib.hid hxy
  have hm := cmay_calls w1 V W (HV.out.stay hb1) (HK.out.stay hb1) hs ks
  have HBW := Lib.hid hb1
  obtain ⟨c0, c1, c2⟩ := HI.out.1.keep hb1
  obtain ⟨d0, d1, d2⟩ := HI.out.2.keep hb1
  clear hb1 hxy
  cases b with
  | false =>
    have HRF : Hid (R = false) := by rw [Hid, hR.out]; unfold survK sameK; rw [← hb0.out]; rfl
    clear hm c0 c1 c2 d0 d1 d2
    go_wp2_with fail
    go_ret
    exact ⟨ret_bool HRF.out.symm, ((HB1.out.alloc (by exact HB1.out.size) _).alloc (by simp; have := HB1.out.size; omega) _)⟩
  | true =>
    clear hm c0 c1 c2 d0 d1 d2
    go_upto_region 2 with fail
    obtain ⟨w2, hw2⟩ : ∃ w2, w2 = (w1.alloc (.cells (cA X) 43)).alloc (.cells (cA Y) 43) := ⟨_, rfl⟩
    rw [← hw2]
    have hb12 : Below w1.heap.size w1 w2 := by rw [hw2]; exact ((Below.refl _ w1).alloc (Nat.le_refl _) _).alloc (by simp) _
    have hx : w2.cell? ⟨w1.heap.size, 2, none⟩ = some (.int .i64 X.reg.size.1) := by rw [hw2]; refine keepA _ ?_; rw [World.cell?, heap_alloc_new]; rfl
    have hy : w2.cell? ⟨w1.heap.size + 1, 2, none⟩ = some (.int .i64 Y.reg.size.1) := by
      rw [hw2, World.cell?, show w1.heap.size + 1 = (w1.alloc (.cells (cA X) 43)).heap.size by simp, heap_alloc_new]; rfl
    have hb02 := HBW.out.trans (hb12.mono HBW.out.size)
    have HM := refmay_calls w2 V W (HV.out.stay hb02) (HK.out.stay hb02) hs ks
    rw [← hm0.out] at HM
    have HM := Lib.hid HM
    have HB2 := Lib.hid (HB0.out.trans (hb02.mono HB0.out.size))
    obtain ⟨c0, c1, c2⟩ := HI.out.1.keep hb02
    obtain ⟨d0, d1, d2⟩ := HI.out.2.keep hb02
    have HRF : Hid (R = (decide (X.reg.size.1 = Y.reg.size.1) && m)) := by
      have hxy := HXY.out trivial
      rw [Hid, hR.out, hm0.out]; unfold survK sameK; rw [← hb0.out, hxy.1, hxy.2]; rfl
    clear hw2 hb02 hb12
    go_wp2_with fail
    refine (HM.out).mono ?_
    rintro e w3 ⟨rfl, hb3⟩
    have hx := keep hb3 hx
    have hy := keep hb3 hy
    have HB3 := Lib.hid (HB2.out.trans (hb3.mono HB2.out.size))
    clear hb3 c0 c1 c2 d0 d1 d2
    cases m with
    | false =>
      go_wp2_with fail
      go_ret
      exact ⟨ret_bool (by rw [HRF.out]; simp), HB3.out⟩
    | true =>
      by_cases hpq : X.reg.size.1 = Y.reg.size.1
      · have HPQ := Lib.hid hpq
        rw [hpq] at hx
        clear hpq
        go_wp2_with fail
        go_ret
        exact ⟨ret_bool (by rw [HRF.out, decide_eq_true HPQ.out]; simp), HB3.out⟩
      · have HPQ := Lib.hid hpq
        go_wp2_with fail
        go_ret
        exact ⟨ret_bool (by rw [HRF.out, decide_eq_false HPQ.out]; simp [HPQ.out]), HB3.out⟩
/- citadelref13.Check. -/
set_option maxRecDepth 100000 in
set_option maxHeartbeats 4000000 in
theorem refchk_calls (w : World) (V W : CfgV) (h : V.At w) (k : W.At w) (hs : SmallV V) (ks : SmallV W) : Calls Try.prog 35 #[.agg #[.slice V.wa V.ws.length V.wc, .slice V.pa V.ps.length V.pc, .slice V.ca V.cs.length V.cc], .agg #[.slice W.wa W.ws.length W.wc, .slice W.pa W.ps.length W.pc, .slice W.ca W.cs.length W.cc]] w fun e w' => e = .returned (.int .i64 (rcheckK V W)) ∧ Below w.heap.size w w' := by
  obtain ⟨w0, hw0⟩ : ∃ w0, w0 = (w.alloc (.cells #[.slice V.wa V.ws.length V.wc, .slice V.pa V.ps.length V.pc, .slice V.ca V.cs.length V.cc] 26)).alloc (.cells #[.slice W.wa W.ws.length W.wc, .slice W.pa W.ps.length W.pc, .slice W.ca W.cs.length W.cc] 26) := ⟨_, rfl⟩
  have B0 : Below w.heap.size w w0 := by rw [hw0]; exact ((Below.refl _ w).alloc (Nat.le_refl _) _).alloc (by simp) _
  have hI := two_box w V W
  rw [← hw0] at hI
  have HI := Lib.hid hI
  have HV := Lib.hid (h.stay B0)
  have HK := Lib.hid (k.stay B0)
  have HB0 := Lib.hid B0
  have hf := refmay_calls w0 V W (h.stay B0) (k.stay B0) hs ks
  obtain ⟨f2, hf2⟩ : ∃ f, Hid (f = mayK V W) := ⟨_, rfl⟩
  rw [← hf2.out] at hf
  have HF := Lib.hid hf
  obtain ⟨R, hR⟩ : ∃ R, Hid (R = rcheckK V W) := ⟨_, rfl⟩
  have HR : Hid (R = if f2 then (if (List.range 6).any (oddR V W) then 130 else 0) else 2) := by rw [Hid, hR.out, hf2.out]; rfl
  rw [← hR.out]
  clear h k B0 hI hf
  obtain ⟨⟨c0, c1, c2⟩, ⟨d0, d1, d2⟩⟩ := HI.out
  go_enter Try.func35, Try.ntmps35
  go_wp2_with fail
  rw [← hw0]
  clear hw0
  refine (HF.out).mono ?_
  rintro e w1 ⟨rfl, hb1⟩
  have HB1 := Lib.hid hb1
  clear hb1 c0 c1 c2 d0 d1 d2
  cases f2 with
  | false =>
    have HRF : Hid (R = 2) := HR.out
    go_wp2_with fail
    go_ret
    exact ⟨ret_int HRF.out.symm, HB0.out.trans (HB1.out.mono HB0.out.size)⟩
  | true =>
    have HRF : Hid (R = if (List.range 6).any (oddR V W) then 130 else 0) := HR.out
    go_wp2_with fail
    go_loopw [5] (fun i wr => ∃ (j : Nat), i = .int .i64 (j + 1 : Nat) ∧ j ≤ 6 ∧ Hid ((List.range j).any (oddR V W) = false) ∧ Below w0.heap.size w0 wr) (fun i _ => 7 - (intOf i).toNat)
    case atStart => exact ⟨0, rfl, Nat.zero_le _, by rw [Hid]; simp, HB1.out⟩
    case round =>
      obtain ⟨j, rfl, hj, HJ, B⟩ := hrel
      have HBw := Lib.hid B
      by_cases hlt : j < 6
      · obtain ⟨c0, c1, c2⟩ := HI.out.1.keep B
        obtain ⟨d0, d1, d2⟩ := HI.out.2.keep B
        have hp := refboth_calls wr V W (HV.out.stay B) (HK.out.stay B) ((j + 1 : Nat) : Int)
        obtain ⟨b, hb0⟩ : ∃ f, Hid (f = bothK V.ps W.ps ((j + 1 : Nat) : Int)) := ⟨_, rfl⟩
        rw [← hb0.out] at hp
        have HP := Lib.hid hp
        clear hp B
        go_wp2_with fail
        refine (HP.out).mono ?_
        rintro e w2 ⟨X, Y, rfl, hxy, hb2⟩
        have HB2 := Lib.hid (HBw.out.trans (hb2.mono HBw.out.size))
        have HXY := Lib.hid hxy
        have HS := Lib.hid (range_any (oddR V W) j)
        clear hb2 hxy c0 c1 c2 d0 d1 d2
        cases b with
        | false =>
          have HJ2 : Hid ((List.range (j + 1)).any (oddR V W) = false) := by rw [Hid, HS.out, HJ.out]; unfold oddR; rw [← hb0.out]; rfl
          go_wp2_with fail
          go_roundw
          case rel => exact ⟨j + 1, by go_num, by omega, HJ2.out, ((HB2.out.alloc (by exact HB2.out.size) _).alloc (by simp; have := HB2.out.size; omega) _)⟩
          case measure => simp [intOf]; omega
        | true =>
          have HO : Hid (oddR V W j = !decide (X.reg.size.1 = Y.reg.size.1)) := by
            have hxy := HXY.out rfl
            rw [Hid]; unfold oddR sameK; rw [← hb0.out, hxy.1, hxy.2]; rfl
          by_cases hpq : X.reg.size.1 = Y.reg.size.1
          · have HJ2 : Hid ((List.range (j + 1)).any (oddR V W) = false) := by rw [Hid, HS.out, HJ.out, HO.out, decide_eq_true hpq]; rfl
            have t1 : ((X.reg.size.1 : Int) != Y.reg.size.1) = false := by rw [hpq]; simp
            clear hpq
            go_wp2_with fail
            go_roundw
            case rel => exact ⟨j + 1, by go_num, by omega, HJ2.out, ((HB2.out.alloc (by exact HB2.out.size) _).alloc (by simp; have := HB2.out.size; omega) _)⟩
            case measure => simp [intOf]; omega
          · have HRT : Hid (R = 130) := by
              rw [Hid, HRF.out, if_pos]
              rw [List.any_eq_true]; exact ⟨j, List.mem_range.2 hlt, by rw [HO.out, decide_eq_false hpq]; rfl⟩
            have t1 : ((X.reg.size.1 : Int) != Y.reg.size.1) = true := by simpa using hpq
            clear hpq
            go_wp2_with fail
            go_ret
            exact ⟨ret_int HRT.out.symm, HB0.out.trans (((HB2.out.alloc (by exact HB2.out.size) _).alloc (by simp; have := HB2.out.size; omega) _).mono HB0.out.size)⟩
      · have hk2 : j = 6 := by omega
        have HRT : Hid (R = 0) := by
          have := HJ.out
          rw [hk2] at this
          rw [Hid, HRF.out, this]; rfl
        have HB5 := Lib.hid (HB0.out.trans (HBw.out.mono HB0.out.size))
        subst hk2
        clear B
        go_wp2_with fail
        go_ret
        exact ⟨ret_int HRT.out.symm, HB5.out⟩
end Go.Proofs.Ytpnbaapjjchlbaa
