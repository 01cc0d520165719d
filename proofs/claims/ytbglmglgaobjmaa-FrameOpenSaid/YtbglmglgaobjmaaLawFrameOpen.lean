/- FrameOpen: any bytes are opened as the frame that the chapter says, or as none; what is told is the caller's own. The walk of the law. -/
import Derived.Test.YtbglmglgaobjmaaRefFrame
namespace Go.Proofs.Ytbglmglgaobjmaa
open Go Go.RowKit Go.Cit

set_option maxHeartbeats 4000000 in
theorem frameOpen_law (w : World) (kind : UInt8) (a0 : Option Addr) (l : List UInt8) (c0 : Nat) (h0 : Row w a0 l c0) :
    Calls Try.prog 12 #[vb kind, .slice a0 l.length c0] w fun e w' => e = .returned (.bool true) ∧ Below w.heap.size w w' := by
  by_cases hl : 1000 < l.length
  · go_enter Try.func12, Try.ntmps12
    go_wp2_with fail
    go_ret
    exact ⟨rfl, Below.refl _ _⟩
  have sl := ordB_self l
  go_enter Try.func12, Try.ntmps12
  go_wp2_with fail
  refine (copy_calls _ _ _ _ h0 (by omega)).mono ?_
  rintro e w1 ⟨a1, c1, rfl, ho1, hb1⟩
  have q1 := ho1.isRow
  have r1 := h0.stay hb1
  clear ho1
  go_wp2_with fail
  go_loopw [6] (fun i wr => ∃ t : Nat, t ≤ 2 ∧ i = .int .i64 t ∧ Below w1.heap.size w1 wr) (fun i _ => 2 - (intOf i).toNat)
  case atStart => exact ⟨0, by omega, rfl, Below.refl _ _⟩
  case round =>
    obtain ⟨t, ht, rfl, B⟩ := hrel
    obtain ⟨wo, rfl⟩ : ∃ wo : World, wo = wr := ⟨_, rfl⟩
    by_cases htl : t < 2
    · have rr := r1.stay B
      have qr := q1.stay B
      go_wp2_with fail
      refine (fopen_calls _ kind _ _ _ qr (by omega)).mono ?_
      rintro e w2 ⟨a2, X, c2, HX, rfl, hm2, hb2⟩
      go_wp2_with fail
      refine (refopen_calls _ kind _ _ _ (rr.stay hb2)).mono ?_
      rintro e w3 ⟨a3, Y, c3, HY, rfl, hm3, hb3⟩
      have m3 := hm2.stay hb3
      have B3 : Below wo.heap.size wo w3 := hb2.trans (hb3.mono hb2.size)
      have s1 : (ordB X Y == 0) = true := by rw [HX.out, HY.out]; exact ordB_self _
      have hXl : X.length ≤ 64 := by
        rw [HX.out, openedB]; split
        · rename_i h; rw [openB, Bool.and_eq_true] at h
          have hw := whole_len h.1
          rw [paylB_length hw.1 hw.2]; omega
        · simp
      clear hm2 hb2 HX HY
      go_wp2_with fail
      refine (fkind_calls _ _ _ _ (qr.stay B3) (by omega)).mono ?_
      rintro e w4 ⟨rfl, hb4⟩
      have y3 := hm3.row.stay hb4
      have m4 := m3.stay hb4
      have B4 : Below wo.heap.size wo w4 := B3.trans (hb4.mono B3.size)
      clear m3 B3 hm3 hb3 hb4
      go_wp2_with fail
      refine (refkind_calls _ _ _ _ (rr.stay B4)).mono ?_
      rintro e w5 ⟨rfl, hb5⟩
      have y5 := y3.stay hb5
      have m5 := m4.stay hb5
      have B5 : Below wo.heap.size wo w5 := B4.trans (hb5.mono B4.size)
      have q5 := qr.stay B5
      have r5 := rr.stay B5
      clear m4 B4 y3 hb5
      go_wp2_with fail
      refine (same_calls _ _ _ _ _ _ _ m5.row y5).mono ?_
      rintro e w6 ⟨rfl, hd6⟩
      have q6 := hd6.row q5
      have r6 := hd6.row r5
      have m6 := m5.stay (hd6.below _)
      have B6 := B5.trans (hd6.below _)
      clear m5 B5 q5 r5 y5 hd6
      go_wp2_with fail
      refine (same_calls _ _ _ _ _ _ _ q6 r6).mono ?_
      rintro e w7 ⟨rfl, hd7⟩
      have m7 := m6.stay (hd7.below _)
      have B7 := B6.trans (hd7.below _)
      clear m6 B6 q6 r6 hd7
      go_wp2_with fail
      clear s1
      go_loopw [15] (fun i wx => ∃ (k : Nat) (V : List UInt8), Hid (V.length = X.length) ∧ k ≤ X.length ∧ i = .int .i64 k ∧ Mine wo.heap.size wx a2 V c2 ∧ Below wo.heap.size wo wx) (fun i _ => X.length - (intOf i).toNat)
      case atStart => exact ⟨0, X, rfl, Nat.zero_le _, rfl, m7, B7⟩
      case round =>
        clear m7 B7
        obtain ⟨k, V, HV, hk, rfl, mx, B8⟩ := hrel
        by_cases hlt : k < X.length
        · have hkV : k < V.length := by rw [HV.out]; exact hlt
          have i0 := mx.row.index bt.slice bt.sz k hkV
          rw [HV.out] at i0
          have e0 := mx.cellOf hkV
          have f0 := mx.free k hkV
          have HS := Lib.hid (mx.stored k hkV (bAdd V[k] (bI 1)))
          go_wp2_with fail
          go_roundw
          case rel => exact ⟨k + 1, _, by rw [Hid, List.length_set]; exact HV.out, by omega, by go_num, HS.out.1, B8.trans HS.out.2.2⟩
          case measure => simp [intOf]; omega
        · go_wp2_with fail
          go_roundw
          case rel => exact ⟨t + 1, by omega, by go_num, B.trans (B8.mono B.size)⟩
          case measure => simp [intOf]; omega
    · go_wp2_with fail
      go_ret
      exact ⟨rfl, hb1.trans (B.mono hb1.size)⟩
end Go.Proofs.Ytbglmglgaobjmaa
