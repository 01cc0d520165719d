/- citadelref11.Can, Form: walked. -/
import Derived.Test.YtpnbaapjjchlbaaGy
import Derived.Test.YtpnbaapjjchlbaaWireLaw
import Derived.Test.YtpnbaapjjchlbaaGp
namespace Go.Proofs.Ytpnbaapjjchlbaa
open Go Go.RowKit Go.Cit

set_option maxRecDepth 100000 in
set_option maxHeartbeats 4000000 in
theorem refcan_calls (w : World) (V : CfgV) (h : V.At w) : Calls Try.prog 47 #[.agg #[.slice V.wa V.ws.length V.wc, .slice V.pa V.ps.length V.pc, .slice V.ca V.cs.length V.cc]] w fun e w' => e = .returned (.bool (canV V)) ∧ Below w.heap.size w w' := by
  obtain ⟨w0, hw0⟩ : ∃ w0, w0 = w.alloc (.cells #[.slice V.wa V.ws.length V.wc, .slice V.pa V.ps.length V.pc, .slice V.ca V.cs.length V.cc] 26) := ⟨_, rfl⟩
  have B0 : Below w.heap.size w w0 := by rw [hw0]; exact (Below.refl _ w).alloc (Nat.le_refl _) _
  have hI : InBox w0 w.heap.size V := by rw [hw0]; exact inBox_new w V _
  have HV := Lib.hid (h.stay B0)
  have HI := Lib.hid hI
  have HB0 := Lib.hid B0
  have hl1 := h.win.len_le
  have hl2 := h.pts.len_le
  have hl3 := h.chs.len_le
  obtain ⟨R, hR⟩ : ∃ R, Hid (R = canV V) := ⟨_, rfl⟩
  rw [← hR.out]
  clear h B0 hI
  go_enter Try.func47, Try.ntmps47
  go_wp2_with fail
  rw [← hw0]
  clear hw0
  go_loopw [3] (fun i wr => ∃ k : Nat, i = .int .i64 (k : Int) ∧ k ≤ V.ps.length ∧ Hid ((V.ps.take k).any longP = false) ∧ Below w0.heap.size w0 wr) (fun i _ => V.ps.length - (intOf i).toNat)
  case atStart => exact ⟨0, rfl, Nat.zero_le _, by rw [Hid]; simp, Below.refl _ _⟩
  case round =>
    obtain ⟨k, rfl, hk, HJ, B⟩ := hrel
    have HBw := Lib.hid B
    obtain ⟨c0, c1, c2⟩ := HI.out.keep B
    by_cases hlt : k < V.ps.length
    · have i0 := HV.out.pts.index etP k hlt
      obtain ⟨u0, u1, u2, u3, u4⟩ := pts_cells HV.out.pts B k hlt
      have HS := Lib.hid (any_take longP V.ps k hlt)
      have HMEM : Hid (V.ps[k] ∈ V.ps) := List.getElem_mem hlt
      obtain ⟨x, hx⟩ : ∃ x, Hid (x = V.ps[k]) := ⟨V.ps[k], rfl⟩
      rw [← hx.out] at u4 HS HMEM
      clear u0 u1 u2 u3 B
      by_cases hq : 512 < x.img.length
      · have HRF : Hid (R = false) := by
          rw [Hid, hR.out]; unfold canV
          rw [show V.ps.any longP = true from List.any_eq_true.2 ⟨x, HMEM.out, by simp [longP, hq]⟩]; simp
        have t1 : decide ((512 : Int) < (x.img.length : Int)) = true := by simp; omega
        go_wp2_with fail
        all_goals first
          | (go_ret; exact ⟨ret_bool HRF.out.symm, HB0.out.trans (HBw.out.mono HB0.out.size)⟩)
          | (exfalso; omega)
      · have HJ2 : Hid ((V.ps.take (k + 1)).any longP = false) := by rw [Hid, HS.out, HJ.out]; simp [longP]; omega
        have t1 : decide ((512 : Int) < (x.img.length : Int)) = false := by simp; omega
        go_wp2_with fail
        all_goals first
          | (go_roundw
             case rel => exact ⟨k + 1, by go_num, by omega, HJ2.out, HBw.out⟩
             case measure => simp [intOf]; omega)
          | (exfalso; omega)
    · have hk2 : k = V.ps.length := by omega
      have HAL : Hid (V.ps.any longP = false) := by have := HJ.out; rwa [hk2, List.take_length] at this
      have HRT : Hid (R = ((decide (V.ws.length ≤ 12) && decide (V.ps.length ≤ 6)) && decide (V.cs.length ≤ 8))) := by rw [Hid, hR.out]; unfold canV; rw [HAL.out]; simp
      clear B HJ
      subst hk2
      go_wp2_with fail
      all_goals first
        | (go_ret
           refine ⟨ret_bool ?_, HB0.out.trans (HBw.out.mono HB0.out.size)⟩
           rw [HRT.out]
           first | (simp; omega) | (simp; (try omega)) | grind)
        | (exfalso; omega)
set_option maxRecDepth 100000 in
set_option maxHeartbeats 8000000 in
theorem refform_calls (w : World) (V : CfgV) (h : V.At w) (hcan : canV V = true) : Calls Try.prog 49 #[.agg #[.slice V.wa V.ws.length V.wc, .slice V.pa V.ps.length V.pc, .slice V.ca V.cs.length V.cc]] w fun e w' => ∃ a' c', e = .returned (.slice a' (formV V).length c') ∧ Cit.Own 5 w.heap.size w' a' (formV V) c' ∧ Below w.heap.size w w' := by
  have hsp := can_spec hcan
  have hlw := win_flat V.ws
  have hlc := ch_flat V.cs
  have hlp := pt_flat V.ps hsp.2.2.2
  have HL : Hid ((V.ws.flatMap bWin).length ≤ 192 ∧ (V.ps.flatMap bPtV).length ≤ 3246 ∧ (V.cs.flatMap bCh).length ≤ 320) := ⟨by omega, by omega, by omega⟩
  have HLG : Hid (∀ x ∈ V.ps, x.img.length ≤ 512) := fun x hx => by
    have := List.any_eq_false.1 hsp.2.2.2 x hx
    simp [longP] at this
    exact this
  obtain ⟨w0, hw0⟩ : ∃ w0, w0 = w.alloc (.cells #[.slice V.wa V.ws.length V.wc, .slice V.pa V.ps.length V.pc, .slice V.ca V.cs.length V.cc] 26) := ⟨_, rfl⟩
  have B0 : Below w.heap.size w w0 := by rw [hw0]; exact (Below.refl _ w).alloc (Nat.le_refl _) _
  have hI : InBox w0 w.heap.size V := by rw [hw0]; exact inBox_new w V _
  have HV := Lib.hid (h.stay B0)
  have HI := Lib.hid hI
  have HB0 := Lib.hid B0
  have hl1 := h.win.len_le
  have hl2 := h.pts.len_le
  have hl3 := h.chs.len_le
  obtain ⟨c0, c1, c2⟩ := HI.out
  obtain ⟨R, hR⟩ : ∃ R, Hid (R = formV V) := ⟨_, rfl⟩
  rw [← hR.out]
  have HK := Lib.hid (refint_calls w0 (V.ws.length : Int))
  clear h B0 hI hsp hlw hlc hlp
  go_enter Try.func49, Try.ntmps49
  go_wp2_with fail
  rw [← hw0]
  clear hw0
  refine (HK.out).mono ?_
  rintro e w1 ⟨a1, X1, k1, HX1, rfl, hO, hn, hb⟩
  have HX1 : Hid (X1 = int8 V.ws.length) := HX1
  have HO1 := Lib.hid hO
  have HB1 := Lib.hid hb
  have HN1 : Hid (X1.length ≤ 8) := by rw [Hid, HX1.out, int8_len]; exact Nat.le_refl _
  clear hO hn hb c0 c1 c2 HK
  go_wp2_with fail
  go_loopw [3, 4] (fun s i wr => ∃ (k : Nat) (a : Option Addr) (X : List UInt8) (c : Nat), s = .slice a X.length c ∧ i = .int .i64 (k : Int) ∧ k ≤ V.ws.length ∧ Hid (X = int8 V.ws.length ++ (V.ws.take k).flatMap bWin) ∧ Cit.Own 5 w0.heap.size wr a X c ∧ Below w0.heap.size w0 wr) (fun _ i _ => V.ws.length - (intOf i).toNat)
  case atStart => exact ⟨0, a1, X1, k1, rfl, rfl, Nat.zero_le _, by rw [Hid, HX1.out]; simp, HO1.out, HB1.out⟩
  case round =>
    obtain ⟨k, a, X, c, rfl, rfl, hk, HX, hO, B⟩ := hrel
    have HB2 := Lib.hid B
    have HO2 := Lib.hid hO
    obtain ⟨c0, c1, c2⟩ := HI.out.keep B
    have HN2 : Hid (X.length ≤ 300) := by rw [Hid, HX.out, List.length_append, int8_len]; have := flat_le bWin V.ws k; have := HL.out.1; omega
    obtain ⟨X2, hX2⟩ : ∃ Z, Z = X := ⟨_, rfl⟩
    rw [← hX2] at HX HO2 HN2 ⊢
    have HX2 := HX
    clear HX hX2 hO B
    by_cases hlt : k < V.ws.length
    · have i0 := HV.out.win.index etW k hlt
      have u : ∀ {wx : World}, Below w0.heap.size w0 wx → _ := fun {wx} hb => win_cells HV.out.win hb k hlt
      obtain ⟨u0, u1⟩ := u HB2.out
      have HS := Lib.hid (take_flat bWin V.ws k hlt)
      obtain ⟨x, hx⟩ : ∃ x, Hid (x = V.ws[k]) := ⟨V.ws[k], rfl⟩
      rw [← hx.out] at u0 u1 HS
      have HK := Lib.hid (refint_calls wr x.len.1)
      go_wp2_with fail
      refine (HK.out).mono ?_
      rintro e w3 ⟨aY, Y, cY, HY, rfl, hY, hYn, hbY⟩
      have HYO := Lib.hid hY.isRow
      have HYN := Lib.hid hYn
      have hYl : Y.length ≤ 8 := by rw [HY.out] <;> (exact Nat.le_of_eq (rowB_length _ _))
      have HBY := Lib.hid (HB2.out.trans (hbY.mono HB2.out.size))
      have HOY := Lib.hid (HO2.out.stay hbY)
      have hXl := HN2.out
      clear hY hYn hbY HK c0 c1 c2 u0 u1
      go_upto_region 6 with ((with_reducible refine wp_append_at (o := ⟨some 30, .call _, _, _, _, _⟩) bt (.tmp 22) (.tmp 29) (by with_unfolding_all rfl) (by with_unfolding_all rfl) HOY.out HYO.out HYN.out (by omega) HBY.out.size (by with_unfolding_all rfl) (by with_unfolding_all rfl) ?_); intro a4 c4 w6 hO4 hg4 hn4; obtain ⟨X3, hX3⟩ : ∃ Z, Hid (Z = X2 ++ Y) := ⟨_, rfl⟩; rw [← hX3.out] at hO4 ⊢; have HO3 := Lib.hid hO4; have HB3 := Lib.hid (HBY.out.trans (grown_below hg4 HBY.out.size (fun k hk => (HOY.out.blk_ge hk).1))); clear hO4 hg4 hn4)
      have HX3 : Hid (X3 = int8 V.ws.length ++ (V.ws.take k).flatMap bWin ++ int8 x.len.1) := by rw [Hid, hX3.out, HX2.out, HY.out] <;> (rfl)
      have HN3 : Hid (X3.length ≤ 308) := by rw [Hid, hX3.out, List.length_append]; omega
      clear hX3 hYl hXl HYO HYN HBY HOY
      clear HO2 HB2 HX2 HN2 HY
      obtain ⟨c0, c1, c2⟩ := HI.out.keep HB3.out
      obtain ⟨u0, u1⟩ := u HB3.out
      rw [← hx.out] at u0 u1
      have HK := Lib.hid (refint_calls w6 x.part.1)
      go_wp2_with fail
      refine (HK.out).mono ?_
      rintro e w7 ⟨aY, Y, cY, HY, rfl, hY, hYn, hbY⟩
      have HYO := Lib.hid hY.isRow
      have HYN := Lib.hid hYn
      have hYl : Y.length ≤ 8 := by rw [HY.out] <;> (exact Nat.le_of_eq (rowB_length _ _))
      have HBY := Lib.hid (HB3.out.trans (hbY.mono HB3.out.size))
      have HOY := Lib.hid (HO3.out.stay hbY)
      have hXl := HN3.out
      clear hY hYn hbY HK c0 c1 c2 u0 u1
      go_wp2_with ((with_reducible refine wp_append_at (o := ⟨some 39, .call _, _, _, _, _⟩) bt (.tmp 31) (.tmp 38) (by with_unfolding_all rfl) (by with_unfolding_all rfl) HOY.out HYO.out HYN.out (by omega) HBY.out.size (by with_unfolding_all rfl) (by with_unfolding_all rfl) ?_); intro a4 c4 w6 hO4 hg4 hn4; obtain ⟨X4, hX4⟩ : ∃ Z, Hid (Z = X3 ++ Y) := ⟨_, rfl⟩; rw [← hX4.out] at hO4 ⊢; have HO4 := Lib.hid hO4; have HB4 := Lib.hid (HBY.out.trans (grown_below hg4 HBY.out.size (fun k hk => (HOY.out.blk_ge hk).1))); clear hO4 hg4 hn4)
      have HX4 : Hid (X4 = int8 V.ws.length ++ (V.ws.take (k + 1)).flatMap bWin) := by rw [Hid, hX4.out, HX3.out, HY.out] <;> (rw [HS.out]; simp [bWin, int8])
      have HN4 : Hid (X4.length ≤ 316) := by rw [Hid, hX4.out, List.length_append]; omega
      clear hX4 hYl hXl HYO HYN HBY HOY
      clear HO3 HB3 HX3 HN3 HY
      go_roundw
      case rel => exact ⟨k + 1, _, X4, _, rfl, by go_num, by omega, HX4.out, HO4.out, HB4.out⟩
      case measure => simp [intOf]; omega
    · have hk2 : k = V.ws.length := by omega
      have HXn : Hid (X2 = (int8 V.ws.length ++ V.ws.flatMap bWin)) := by rw [Hid, HX2.out, hk2, List.take_length]
      clear HX2
      have HX2 := HXn
      clear HXn
      subst hk2
      clear hk hlt
      have HK := Lib.hid (refint_calls wr (V.ps.length : Int))
      go_wp2_with fail
      refine (HK.out).mono ?_
      rintro e w3 ⟨aY, Y, cY, HY, rfl, hY, hYn, hbY⟩
      have HYO := Lib.hid hY.isRow
      have HYN := Lib.hid hYn
      have hYl : Y.length ≤ 8 := by rw [HY.out] <;> (exact Nat.le_of_eq (rowB_length _ _))
      have HBY := Lib.hid (HB2.out.trans (hbY.mono HB2.out.size))
      have HOY := Lib.hid (HO2.out.stay hbY)
      have hXl := HN2.out
      clear hY hYn hbY HK c0 c1 c2
      go_upto_region 8 with ((with_reducible refine wp_append_at (o := ⟨some 45, .call _, _, _, _, _⟩) bt (.tmp 40) (.tmp 44) (by with_unfolding_all rfl) (by with_unfolding_all rfl) HOY.out HYO.out HYN.out (by omega) HBY.out.size (by with_unfolding_all rfl) (by with_unfolding_all rfl) ?_); intro a4 c4 w6 hO4 hg4 hn4; obtain ⟨X3, hX3⟩ : ∃ Z, Hid (Z = X2 ++ Y) := ⟨_, rfl⟩; rw [← hX3.out] at hO4 ⊢; have HO3 := Lib.hid hO4; have HB3 := Lib.hid (HBY.out.trans (grown_below hg4 HBY.out.size (fun k hk => (HOY.out.blk_ge hk).1))); clear hO4 hg4 hn4)
      have HX3 : Hid (X3 = (int8 V.ws.length ++ V.ws.flatMap bWin) ++ int8 V.ps.length) := by rw [Hid, hX3.out, HX2.out, HY.out] <;> (rfl)
      have HN3 : Hid (X3.length ≤ 308) := by rw [Hid, hX3.out, List.length_append]; omega
      clear hX3 hYl hXl HYO HYN HBY HOY
      clear HO2 HB2 HX2 HN2 HY
      obtain ⟨c0, c1, c2⟩ := HI.out.keep HB3.out
      go_wp2_with fail
      go_loopw [3, 5] (fun s i wr => ∃ (k : Nat) (a : Option Addr) (X : List UInt8) (c : Nat), s = .slice a X.length c ∧ i = .int .i64 (k : Int) ∧ k ≤ V.ps.length ∧ Hid (X = (int8 V.ws.length ++ V.ws.flatMap bWin) ++ (int8 V.ps.length ++ (V.ps.take k).flatMap bPtV)) ∧ Cit.Own 5 w0.heap.size wr a X c ∧ Below w0.heap.size w0 wr) (fun _ i _ => V.ps.length - (intOf i).toNat)
      case atStart => exact ⟨0, _, X3, _, rfl, rfl, Nat.zero_le _, by rw [Hid, HX3.out]; simp, HO3.out, HB3.out⟩
      case round =>
        obtain ⟨k, a, X, c, rfl, rfl, hk, HX, hO, B⟩ := hrel
        have HB2 := Lib.hid B
        clear c0 c1 c2
        obtain ⟨c0, c1, c2⟩ := HI.out.keep B
        have HN2 : Hid (X.length ≤ 4000) := by rw [Hid, HX.out]; simp only [List.length_append, int8_len]; have := flat_le bPtV V.ps k; have := HL.out.1; have := HL.out.2.1; omega
        obtain ⟨X2, hX2⟩ : ∃ Z, Z = X := ⟨_, rfl⟩
        have HO2 := Lib.hid hO
        rw [← hX2] at HX HO2 HN2 ⊢
        have HX2 := HX
        clear HX hX2 hO HO3 HX3 HN3
        by_cases hlt : k < V.ps.length
        · have i0 := HV.out.pts.index etP k hlt
          obtain ⟨u0, u1, u2, u3, u4⟩ := pts_cells HV.out.pts B k hlt
          have HS := Lib.hid (take_flat bPtV V.ps k hlt)
          have HR := Lib.hid (HV.out.img V.ps[k] (List.getElem_mem hlt))
          have HLI := Lib.hid (HLG.out V.ps[k] (List.getElem_mem hlt))
          obtain ⟨x, hx⟩ : ∃ x, Hid (x = V.ps[k]) := ⟨V.ps[k], rfl⟩
          rw [← hx.out] at u0 u1 u2 u3 u4 HS HR HLI
          obtain ⟨wb, hwb⟩ : ∃ wb, wb = wr.alloc (.cells (cA x) 43) := ⟨_, rfl⟩
          obtain ⟨p, hp⟩ : ∃ p, p = wr.heap.size := ⟨_, rfl⟩
          have hbb : Below wr.heap.size wr wb := by rw [hwb]; exact (Below.refl _ _).alloc (Nat.le_refl _) _
          have HPb : Hid (wb.heap[p]? = some (.cells (cA x) 43 (0, 0))) := by rw [hwb, hp]; exact heap_alloc_new _ _
          have HOb := Lib.hid (HO2.out.stay hbb)
          have HBb := Lib.hid (B.trans (hbb.mono B.size))
          go_upto_region 12 with fail
          rw [← hwb, ← hp]
          clear hwb hp hbb u0 u1 u2 u3 u4 i0 c0 c1 c2 B HO2 HB2
          have HO2 := HOb
          have HB2 := HBb
          have HP2 := HPb
          clear HOb HBb HPb
          have u0 := cells_of HP2.out 0 rfl
          have HK := Lib.hid (refint_calls wb x.id.1)
          go_wp2_with fail
          refine (HK.out).mono ?_
          rintro e v2 ⟨aY, Y, cY, HY, rfl, hY, hYn, hbY⟩
          have HYO := Lib.hid hY.isRow
          have HYN := Lib.hid hYn
          have hYl : Y.length ≤ 8 := by rw [HY.out] <;> (exact Nat.le_of_eq (rowB_length _ _))
          have HBY := Lib.hid (HB2.out.trans (hbY.mono HB2.out.size))
          have HOY := Lib.hid (HO2.out.stay hbY)
          have hXl := HN2.out
          have HPY := Lib.hid (blk_stay HP2.out hbY)
          clear hY hYn hbY HK u0
          go_upto_region 13 with ((with_reducible refine wp_append_at (o := ⟨some 62, .call _, _, _, _, _⟩) bt (.tmp 58) (.tmp 61) (by with_unfolding_all rfl) (by with_unfolding_all rfl) HOY.out HYO.out HYN.out (by omega) HBY.out.size (by with_unfolding_all rfl) (by with_unfolding_all rfl) ?_); intro a4 c4 w6 hO4 hg4 hn4; obtain ⟨X3, hX3⟩ : ∃ Z, Hid (Z = X2 ++ Y) := ⟨_, rfl⟩; rw [← hX3.out] at hO4 ⊢; have HO3 := Lib.hid hO4; have HB3 := Lib.hid (HBY.out.trans (grown_below hg4 HBY.out.size (fun k hk => (HOY.out.blk_ge hk).1))); have HP3 := Lib.hid ((hg4.block p (Array.getElem?_eq_some_iff.1 HPY.out).1 (fun e => own_ne HOY.out HPY.out (by decide) e.symm)).trans HPY.out); clear hO4 hg4 hn4)
          have HX3 : Hid (X3 = (int8 V.ws.length ++ V.ws.flatMap bWin) ++ (int8 V.ps.length ++ (V.ps.take k).flatMap bPtV) ++ int8 x.id.1) := by rw [Hid, hX3.out, HX2.out, HY.out] <;> (rfl)
          have HN3 : Hid (X3.length ≤ 4008) := by rw [Hid, hX3.out, List.length_append]; omega
          clear hX3 hYl hXl HYO HYN HBY HOY
          clear HO2 HB2 HX2 HN2 HY HPY HP2
          have u0 := cells_of HP3.out 1 rfl
          have HK := Lib.hid (refint_calls w6 x.reg.base.1)
          go_wp2_with fail
          refine (HK.out).mono ?_
          rintro e v3 ⟨aY, Y, cY, HY, rfl, hY, hYn, hbY⟩
          have HYO := Lib.hid hY.isRow
          have HYN := Lib.hid hYn
          have hYl : Y.length ≤ 8 := by rw [HY.out] <;> (exact Nat.le_of_eq (rowB_length _ _))
          have HBY := Lib.hid (HB3.out.trans (hbY.mono HB3.out.size))
          have HOY := Lib.hid (HO3.out.stay hbY)
          have hXl := HN3.out
          have HPY := Lib.hid (blk_stay HP3.out hbY)
          clear hY hYn hbY HK u0
          go_upto_region 14 with ((with_reducible refine wp_append_at (o := ⟨some 68, .call _, _, _, _, _⟩) bt (.tmp 63) (.tmp 67) (by with_unfolding_all rfl) (by with_unfolding_all rfl) HOY.out HYO.out HYN.out (by omega) HBY.out.size (by with_unfolding_all rfl) (by with_unfolding_all rfl) ?_); intro a4 c4 w6 hO4 hg4 hn4; obtain ⟨X4, hX4⟩ : ∃ Z, Hid (Z = X3 ++ Y) := ⟨_, rfl⟩; rw [← hX4.out] at hO4 ⊢; have HO4 := Lib.hid hO4; have HB4 := Lib.hid (HBY.out.trans (grown_below hg4 HBY.out.size (fun k hk => (HOY.out.blk_ge hk).1))); have HP4 := Lib.hid ((hg4.block p (Array.getElem?_eq_some_iff.1 HPY.out).1 (fun e => own_ne HOY.out HPY.out (by decide) e.symm)).trans HPY.out); clear hO4 hg4 hn4)
          have HX4 : Hid (X4 = (int8 V.ws.length ++ V.ws.flatMap bWin) ++ (int8 V.ps.length ++ (V.ps.take k).flatMap bPtV) ++ int8 x.id.1 ++ int8 x.reg.base.1) := by rw [Hid, hX4.out, HX3.out, HY.out] <;> (rfl)
          have HN4 : Hid (X4.length ≤ 4016) := by rw [Hid, hX4.out, List.length_append]; omega
          clear hX4 hYl hXl HYO HYN HBY HOY
          clear HO3 HB3 HX3 HN3 HY HPY HP3
          have u0 := cells_of HP4.out 2 rfl
          have HK := Lib.hid (refint_calls w6 x.reg.size.1)
          go_wp2_with fail
          refine (HK.out).mono ?_
          rintro e v4 ⟨aY, Y, cY, HY, rfl, hY, hYn, hbY⟩
          have HYO := Lib.hid hY.isRow
          have HYN := Lib.hid hYn
          have hYl : Y.length ≤ 8 := by rw [HY.out] <;> (exact Nat.le_of_eq (rowB_length _ _))
          have HBY := Lib.hid (HB4.out.trans (hbY.mono HB4.out.size))
          have HOY := Lib.hid (HO4.out.stay hbY)
          have hXl := HN4.out
          have HPY := Lib.hid (blk_stay HP4.out hbY)
          clear hY hYn hbY HK u0
          go_upto_region 15 with ((with_reducible refine wp_append_at (o := ⟨some 74, .call _, _, _, _, _⟩) bt (.tmp 69) (.tmp 73) (by with_unfolding_all rfl) (by with_unfolding_all rfl) HOY.out HYO.out HYN.out (by omega) HBY.out.size (by with_unfolding_all rfl) (by with_unfolding_all rfl) ?_); intro a4 c4 w6 hO4 hg4 hn4; obtain ⟨X5, hX5⟩ : ∃ Z, Hid (Z = X4 ++ Y) := ⟨_, rfl⟩; rw [← hX5.out] at hO4 ⊢; have HO5 := Lib.hid hO4; have HB5 := Lib.hid (HBY.out.trans (grown_below hg4 HBY.out.size (fun k hk => (HOY.out.blk_ge hk).1))); have HP5 := Lib.hid ((hg4.block p (Array.getElem?_eq_some_iff.1 HPY.out).1 (fun e => own_ne HOY.out HPY.out (by decide) e.symm)).trans HPY.out); clear hO4 hg4 hn4)
          have HX5 : Hid (X5 = (int8 V.ws.length ++ V.ws.flatMap bWin) ++ (int8 V.ps.length ++ (V.ps.take k).flatMap bPtV) ++ int8 x.id.1 ++ int8 x.reg.base.1 ++ int8 x.reg.size.1) := by rw [Hid, hX5.out, HX4.out, HY.out] <;> (rfl)
          have HN5 : Hid (X5.length ≤ 4024) := by rw [Hid, hX5.out, List.length_append]; omega
          clear hX5 hYl hXl HYO HYN HBY HOY
          clear HO4 HB4 HX4 HN4 HY HPY HP4
          have u0 := cells_of HP5.out 3 rfl
          have HK := Lib.hid (refflag_calls w6 x.keep)
          go_wp2_with fail
          refine (HK.out).mono ?_
          rintro e v5 ⟨aY, Y, cY, HY, rfl, hY, hYn, hbY⟩
          have HYO := Lib.hid hY.isRow
          have HYN := Lib.hid hYn
          have hYl : Y.length ≤ 1 := by rw [HY.out] <;> (exact Nat.le_refl _)
          have HBY := Lib.hid (HB5.out.trans (hbY.mono HB5.out.size))
          have HOY := Lib.hid (HO5.out.stay hbY)
          have hXl := HN5.out
          have HPY := Lib.hid (blk_stay HP5.out hbY)
          clear hY hYn hbY HK u0
          go_upto_region 16 with ((with_reducible refine wp_append_at (o := ⟨some 79, .call _, _, _, _, _⟩) bt (.tmp 75) (.tmp 78) (by with_unfolding_all rfl) (by with_unfolding_all rfl) HOY.out HYO.out HYN.out (by omega) HBY.out.size (by with_unfolding_all rfl) (by with_unfolding_all rfl) ?_); intro a4 c4 w6 hO4 hg4 hn4; obtain ⟨X6, hX6⟩ : ∃ Z, Hid (Z = X5 ++ Y) := ⟨_, rfl⟩; rw [← hX6.out] at hO4 ⊢; have HO6 := Lib.hid hO4; have HB6 := Lib.hid (HBY.out.trans (grown_below hg4 HBY.out.size (fun k hk => (HOY.out.blk_ge hk).1))); have HP6 := Lib.hid ((hg4.block p (Array.getElem?_eq_some_iff.1 HPY.out).1 (fun e => own_ne HOY.out HPY.out (by decide) e.symm)).trans HPY.out); clear hO4 hg4 hn4)
          have HX6 : Hid (X6 = (int8 V.ws.length ++ V.ws.flatMap bWin) ++ (int8 V.ps.length ++ (V.ps.take k).flatMap bPtV) ++ int8 x.id.1 ++ int8 x.reg.base.1 ++ int8 x.reg.size.1 ++ flagB x.keep) := by rw [Hid, hX6.out, HX5.out, HY.out] <;> (rfl)
          have HN6 : Hid (X6.length ≤ 4025) := by rw [Hid, hX6.out, List.length_append]; omega
          clear hX6 hYl hXl HYO HYN HBY HOY
          clear HO5 HB5 HX5 HN5 HY HPY HP5
          have u0 := cells_of HP6.out 4 rfl
          have HK := Lib.hid (refbytes_calls w6 (HR.out.stay HB6.out) (Nat.le_trans HLI.out (by decide)))
          go_wp2_with fail
          refine (HK.out).mono ?_
          rintro e v6 ⟨aY, Y, cY, HY, rfl, hY, hYn, hbY⟩
          have HYO := Lib.hid hY.isRow
          have HYN := Lib.hid hYn
          have hYl : Y.length ≤ 516 := by rw [HY.out] <;> (rw [withB_length]; have := HLI.out; omega)
          have HBY := Lib.hid (HB6.out.trans (hbY.mono HB6.out.size))
          have HOY := Lib.hid (HO6.out.stay hbY)
          have hXl := HN6.out
          have HPY := Lib.hid (blk_stay HP6.out hbY)
          clear hY hYn hbY HK u0
          go_wp2_with ((with_reducible refine wp_append_at (o := ⟨some 84, .call _, _, _, _, _⟩) bt (.tmp 80) (.tmp 83) (by with_unfolding_all rfl) (by with_unfolding_all rfl) HOY.out HYO.out HYN.out (by omega) HBY.out.size (by with_unfolding_all rfl) (by with_unfolding_all rfl) ?_); intro a4 c4 w6 hO4 hg4 hn4; obtain ⟨X7, hX7⟩ : ∃ Z, Hid (Z = X6 ++ Y) := ⟨_, rfl⟩; rw [← hX7.out] at hO4 ⊢; have HO7 := Lib.hid hO4; have HB7 := Lib.hid (HBY.out.trans (grown_below hg4 HBY.out.size (fun k hk => (HOY.out.blk_ge hk).1))); have HP7 := Lib.hid ((hg4.block p (Array.getElem?_eq_some_iff.1 HPY.out).1 (fun e => own_ne HOY.out HPY.out (by decide) e.symm)).trans HPY.out); clear hO4 hg4 hn4)
          have HX7 : Hid (X7 = (int8 V.ws.length ++ V.ws.flatMap bWin) ++ (int8 V.ps.length ++ (V.ps.take (k + 1)).flatMap bPtV)) := by rw [Hid, hX7.out, HX6.out, HY.out] <;> (rw [HS.out]; simp [bPtV, int8])
          have HN7 : Hid (X7.length ≤ 4541) := by rw [Hid, hX7.out, List.length_append]; omega
          clear hX7 hYl hXl HYO HYN HBY HOY
          clear HO6 HB6 HX6 HN6 HY HPY HP6
          go_roundw
          case rel => exact ⟨k + 1, _, X7, _, rfl, by go_num, by omega, HX7.out, HO7.out, HB7.out⟩
          case measure => simp [intOf]; omega
        · have hk2 : k = V.ps.length := by omega
          have HXn : Hid (X2 = ((int8 V.ws.length ++ V.ws.flatMap bWin) ++ (int8 V.ps.length ++ V.ps.flatMap bPtV))) := by rw [Hid, HX2.out, hk2, List.take_length]
          clear HX2
          have HX2 := HXn
          clear HXn
          subst hk2
          clear hk hlt B
          have HK := Lib.hid (refint_calls wr (V.cs.length : Int))
          go_wp2_with fail
          refine (HK.out).mono ?_
          rintro e w3 ⟨aY, Y, cY, HY, rfl, hY, hYn, hbY⟩
          have HYO := Lib.hid hY.isRow
          have HYN := Lib.hid hYn
          have hYl : Y.length ≤ 8 := by rw [HY.out] <;> (exact Nat.le_of_eq (rowB_length _ _))
          have HBY := Lib.hid (HB2.out.trans (hbY.mono HB2.out.size))
          have HOY := Lib.hid (HO2.out.stay hbY)
          have hXl := HN2.out
          clear hY hYn hbY HK c0 c1 c2
          go_upto_region 18 with ((with_reducible refine wp_append_at (o := ⟨some 90, .call _, _, _, _, _⟩) bt (.tmp 85) (.tmp 89) (by with_unfolding_all rfl) (by with_unfolding_all rfl) HOY.out HYO.out HYN.out (by omega) HBY.out.size (by with_unfolding_all rfl) (by with_unfolding_all rfl) ?_); intro a4 c4 w6 hO4 hg4 hn4; obtain ⟨X3, hX3⟩ : ∃ Z, Hid (Z = X2 ++ Y) := ⟨_, rfl⟩; rw [← hX3.out] at hO4 ⊢; have HO3 := Lib.hid hO4; have HB3 := Lib.hid (HBY.out.trans (grown_below hg4 HBY.out.size (fun k hk => (HOY.out.blk_ge hk).1))); clear hO4 hg4 hn4)
          have HX3 : Hid (X3 = ((int8 V.ws.length ++ V.ws.flatMap bWin) ++ (int8 V.ps.length ++ V.ps.flatMap bPtV)) ++ int8 V.cs.length) := by rw [Hid, hX3.out, HX2.out, HY.out] <;> (rfl)
          have HN3 : Hid (X3.length ≤ 4008) := by rw [Hid, hX3.out, List.length_append]; omega
          clear hX3 hYl hXl HYO HYN HBY HOY
          clear HO2 HB2 HX2 HN2 HY
          obtain ⟨c0, c1, c2⟩ := HI.out.keep HB3.out
          go_wp2_with fail
          go_loopw [3, 7] (fun s i wr => ∃ (k : Nat) (a : Option Addr) (X : List UInt8) (c : Nat), s = .slice a X.length c ∧ i = .int .i64 (k : Int) ∧ k ≤ V.cs.length ∧ Hid (X = ((int8 V.ws.length ++ V.ws.flatMap bWin) ++ (int8 V.ps.length ++ V.ps.flatMap bPtV)) ++ (int8 V.cs.length ++ (V.cs.take k).flatMap bCh)) ∧ Cit.Own 5 w0.heap.size wr a X c ∧ Below w0.heap.size w0 wr) (fun _ i _ => V.cs.length - (intOf i).toNat)
          case atStart => exact ⟨0, _, X3, _, rfl, rfl, Nat.zero_le _, by rw [Hid, HX3.out]; simp, HO3.out, HB3.out⟩
          case round =>
            obtain ⟨k, a, X, c, rfl, rfl, hk, HX, hO, B⟩ := hrel
            have HB2 := Lib.hid B
            clear c0 c1 c2
            obtain ⟨c0, c1, c2⟩ := HI.out.keep B
            have HN2 : Hid (X.length ≤ 5000) := by rw [Hid, HX.out]; simp only [List.length_append, int8_len]; have := flat_le bCh V.cs k; have := HL.out.1; have := HL.out.2.1; have := HL.out.2.2; omega
            obtain ⟨X2, hX2⟩ : ∃ Z, Z = X := ⟨_, rfl⟩
            have HO2 := Lib.hid hO
            rw [← hX2] at HX HO2 HN2 ⊢
            have HX2 := HX
            clear HX hX2 hO HO3 HX3 HN3
            by_cases hlt : k < V.cs.length
            · have i0 := HV.out.chs.index etC k hlt
              obtain ⟨u0, u1, u2, u3, u4⟩ := chs_cells HV.out.chs B k hlt
              have HS := Lib.hid (take_flat bCh V.cs k hlt)
              obtain ⟨x, hx⟩ : ∃ x, Hid (x = V.cs[k]) := ⟨V.cs[k], rfl⟩
              rw [← hx.out] at u0 u1 u2 u3 u4 HS
              go_upto_region 22 with fail
              obtain ⟨wb, hwb⟩ : ∃ wb, wb = wr.alloc (.cells (cA5 x) 54) := ⟨_, rfl⟩
              obtain ⟨p, hp⟩ : ∃ p, p = wr.heap.size := ⟨_, rfl⟩
              have hbb : Below wr.heap.size wr wb := by rw [hwb]; exact (Below.refl _ _).alloc (Nat.le_refl _) _
              have hpx : wb.heap[p]? = some (.cells (cA5 x) 54 (0, 0)) := by rw [hwb, hp]; exact heap_alloc_new _ _
              have HOb := Lib.hid (HO2.out.stay hbb)
              have HBb := Lib.hid (B.trans (hbb.mono B.size))
              rw [← hwb, ← hp]
              clear hwb hp hbb u0 u1 u2 u3 u4 i0 c0 c1 c2 B HO2 HB2
              have x0 := cells_of hpx 0 rfl
              have x1 := cells_of hpx 1 rfl
              have x2 := cells_of hpx 2 rfl
              have x3 := cells_of hpx 3 rfl
              have x4 := cells_of hpx 4 rfl
              have hbd : Below wb.heap.size wb (wb.alloc (.cells #[.int .i64 x.id.1, .int .i64 x.src.1, .int .i64 x.dst.1, .int .i64 x.cap.1, .int .i64 x.size.1] 3)) := (Below.refl _ _).alloc (Nat.le_refl _) _
              have hq := heap_alloc_new wb (.cells #[.int .i64 x.id.1, .int .i64 x.src.1, .int .i64 x.dst.1, .int .i64 x.cap.1, .int .i64 x.size.1] 3)
              obtain ⟨wd, hwd⟩ : ∃ wd, wd = wb.alloc (.cells #[.int .i64 x.id.1, .int .i64 x.src.1, .int .i64 x.dst.1, .int .i64 x.cap.1, .int .i64 x.size.1] 3) := ⟨_, rfl⟩
              obtain ⟨q, hqq⟩ : ∃ q, q = wb.heap.size := ⟨_, rfl⟩
              rw [← hwd] at hbd hq
              rw [← hqq] at hq
              have HQd := Lib.hid hq
              have HOd := Lib.hid (HOb.out.stay hbd)
              have HBd := Lib.hid (HBb.out.trans (hbd.mono HBb.out.size))
              go_upto_region 24 with fail
              rw [← hwd, ← hqq]
              clear hwd hqq hbd hq x0 x1 x2 x3 x4 hpx HOb HBb
              obtain ⟨D, hD⟩ : ∃ D : List Int, Hid (D = [x.id.1, x.src.1, x.dst.1, x.cap.1, x.size.1]) := ⟨_, rfl⟩
              have hDl : D.length = 5 := by rw [hD.out]; rfl
              have HDV : Hid (∀ {wx : World}, wx.heap[q]? = some (.cells #[.int .i64 x.id.1, .int .i64 x.src.1, .int .i64 x.dst.1, .int .i64 x.cap.1, .int .i64 x.size.1] 3 (0, 0)) → Vec cZ 1 wx (some ⟨q, 0, none⟩) D 5) := fun {wx} h => by
                have := (vown_of_blk (f := cZ) (n := 1) (E := 3) (B := 0) (g := q) (l := D) cZ_len (Nat.zero_le _) (by omega) h (by rw [hD.out]; rfl)).vec cZ_len
                rwa [hDl] at this
              have HBC : Hid (bCh x = D.flatMap int8) := by rw [Hid, hD.out]; simp [bCh]
              go_wp2_with fail
              go_loopw [3, 10] (fun s i wy => ∃ (m : Nat) (a : Option Addr) (X : List UInt8) (c : Nat), s = .slice a X.length c ∧ i = .int .i64 (m : Int) ∧ m ≤ 5 ∧ Hid (X = X2 ++ (D.take m).flatMap int8) ∧ Cit.Own 5 w0.heap.size wy a X c ∧ Below w0.heap.size w0 wy ∧ wy.heap[q]? = some (.cells #[.int .i64 x.id.1, .int .i64 x.src.1, .int .i64 x.dst.1, .int .i64 x.cap.1, .int .i64 x.size.1] 3 (0, 0))) (fun _ i _ => 5 - (intOf i).toNat)
              case atStart => exact ⟨0, _, X2, _, rfl, rfl, Nat.zero_le _, by rw [Hid]; simp, HOd.out, HBd.out, HQd.out⟩
              case round =>
                obtain ⟨m, a, Xm, c, rfl, rfl, hm, HXm, hOm, Bm, hQm⟩ := hrel
                by_cases hmt : m < 5
                · have HO5 := Lib.hid hOm
                  have HB5 := Lib.hid Bm
                  have HP5 := Lib.hid hQm
                  have hmt' : m < D.length := by rw [hDl]; exact hmt
                  have hv := HDV.out hQm
                  have i0 := hv.index etI m hmt'
                  obtain ⟨z, hz⟩ : ∃ z, Hid (z = D[m]) := ⟨D[m], rfl⟩
                  have v0 : wr.cell? (ad (some ⟨q, 0, none⟩) (m * 1)) = some (.int .i64 z) := by rw [hz.out]; exact hv.field0 m hmt' (by decide) rfl
                  rw [Nat.mul_one] at i0 v0
                  simp only [ad_some, Nat.zero_add] at i0 v0
                  have HSm := Lib.hid (take_flat int8 D m hmt')
                  rw [← hz.out] at HSm
                  have HN5 : Hid (Xm.length ≤ 5100) := by rw [Hid, HXm.out, List.length_append]; have := flat_le int8 D m; have h40 : (D.flatMap int8).length = 40 := by rw [hD.out]; simp [int8_len]
                                                          have := HN2.out; omega
                  obtain ⟨X5, hX5⟩ : ∃ Z, Z = Xm := ⟨_, rfl⟩
                  rw [← hX5] at HXm HO5 HN5 ⊢
                  have HX5 := HXm
                  clear hv hQm hOm Bm HXm hX5
                  have HK := Lib.hid (refint_calls wr z)
                  go_wp2_with fail
                  refine (HK.out).mono ?_
                  rintro e w7 ⟨aY, Y, cY, HY, rfl, hY, hYn, hbY⟩
                  have HYO := Lib.hid hY.isRow
                  have HYN := Lib.hid hYn
                  have hYl : Y.length ≤ 8 := by rw [HY.out] <;> (exact Nat.le_of_eq (rowB_length _ _))
                  have HBY := Lib.hid (HB5.out.trans (hbY.mono HB5.out.size))
                  have HOY := Lib.hid (HO5.out.stay hbY)
                  have hXl := HN5.out
                  have HPY := Lib.hid (blk_stay HP5.out hbY)
                  clear hY hYn hbY HK v0 i0
                  go_wp2_with ((with_reducible refine wp_append_at (o := ⟨some 126, .call _, _, _, _, _⟩) bt (.tmp 120) (.tmp 125) (by with_unfolding_all rfl) (by with_unfolding_all rfl) HOY.out HYO.out HYN.out (by omega) HBY.out.size (by with_unfolding_all rfl) (by with_unfolding_all rfl) ?_); intro a4 c4 w6 hO4 hg4 hn4; obtain ⟨X6, hX6⟩ : ∃ Z, Hid (Z = X5 ++ Y) := ⟨_, rfl⟩; rw [← hX6.out] at hO4 ⊢; have HO6 := Lib.hid hO4; have HB6 := Lib.hid (HBY.out.trans (grown_below hg4 HBY.out.size (fun k hk => (HOY.out.blk_ge hk).1))); have HP6 := Lib.hid ((hg4.block q (Array.getElem?_eq_some_iff.1 HPY.out).1 (fun e => own_ne HOY.out HPY.out (by decide) e.symm)).trans HPY.out); clear hO4 hg4 hn4)
                  have HX6 : Hid (X6 = X2 ++ (D.take (m + 1)).flatMap int8) := by rw [Hid, hX6.out, HX5.out, HY.out] <;> (rw [HSm.out]; simp [int8])
                  have HN6 : Hid (X6.length ≤ 5108) := by rw [Hid, hX6.out, List.length_append]; omega
                  clear hX6 hYl hXl HYO HYN HBY HOY
                  clear HO5 HB5 HX5 HN5 HY HPY HP5
                  go_roundw
                  case rel => exact ⟨m + 1, _, X6, _, rfl, by go_num, by omega, HX6.out, HO6.out, HB6.out, HP6.out⟩
                  case measure => simp [intOf]; omega
                · have hm2 : m = 5 := by omega
                  have HN : Hid (Xm = ((int8 V.ws.length ++ V.ws.flatMap bWin) ++ (int8 V.ps.length ++ V.ps.flatMap bPtV)) ++ (int8 V.cs.length ++ (V.cs.take (k + 1)).flatMap bCh)) := by rw [Hid, HXm.out, HX2.out, HS.out, HBC.out, hm2, ← hDl, List.take_length]; simp
                  have HOm := Lib.hid hOm
                  have HBm := Lib.hid Bm
                  clear hOm Bm hQm hm2
                  go_wp2_with fail
                  go_roundw
                  case rel => exact ⟨k + 1, a, Xm, c, rfl, by go_num, by omega, HN.out, HOm.out, HBm.out⟩
                  case measure => simp [intOf]; omega
            · have hk2 : k = V.cs.length := by omega
              have HXn : Hid (X2 = R) := by rw [Hid, HX2.out, hR.out, hk2, List.take_length]; unfold formV; rfl
              subst hk2
              clear B HX2
              go_wp2_with fail
              go_ret
              exact ⟨a, c, by rw [HXn.out]; rfl, by rw [← HXn.out]; exact HO2.out.low HB0.out.size, HB0.out.trans (HB2.out.mono HB0.out.size)⟩
end Go.Proofs.Ytpnbaapjjchlbaa
