/- FrameSeal: any kind and payload have the frame that the chapter says, or none; what is told is the caller's own. The walk of the law. -/
import Derived.Test.YtbglmglgaobjmaaFrameSeal
namespace Go.Proofs.Ytbglmglgaobjmaa
open Go Go.RowKit Go.Cit

set_option maxHeartbeats 4000000 in
theorem frameSeal_law (w : World) (kind : UInt8) (a0 : Option Addr) (l : List UInt8) (c0 : Nat) (h0 : Row w a0 l c0) :
    Calls Try.prog 6 #[vb kind, .slice a0 l.length c0] w fun e w' => e = .returned (.bool true) ∧ Below w.heap.size w w' := by
  by_cases hl : 1000 < l.length
  · go_enter Try.func6, Try.ntmps6
    go_wp2_with fail
    go_ret
    exact ⟨rfl, Below.refl _ _⟩
  have sl := ordB_self l
  go_enter Try.func6, Try.ntmps6
  go_wp2_with fail
  refine (copy_calls _ _ _ _ h0 (by omega)).mono ?_
  rintro e w1 ⟨a1, c1, rfl, ho1, hb1⟩
  have q1 := ho1.isRow
  have r1 := h0.stay hb1
  clear ho1
  go_wp2_with fail
  go_loopw [6] (fun i wr => ∃ t : Nat, t ≤ 2 ∧ i = .int .i64 t ∧ Below w1.heap.size w1 wr) (fun i _ => 2 - (intOf i).toNat)
  case atStart => exact ⟨0, by omega, rfl, Below.refl _ _⟩
  case round =>
    obtain ⟨t, ht, rfl, B⟩ := hrel
    obtain ⟨wo, rfl⟩ : ∃ wo : World, wo = wr := ⟨_, rfl⟩
    by_cases htl : t < 2
    · have rr := r1.stay B
      have qr := q1.stay B
      by_cases h58 : 58 < l.length
      · go_wp2_with fail
        refine (fseal_long _ kind _ _ _ h58).mono ?_
        rintro e w2 ⟨rfl, rfl⟩
        go_wp2_with fail
        refine (same_calls _ _ _ _ _ _ _ qr rr).mono ?_
        rintro e w3 ⟨rfl, hd3⟩
        go_wp2_with fail
        go_ret
        exact ⟨rfl, (hb1.trans (B.mono hb1.size)).trans (hd3.below _)⟩
      · go_wp2_with fail
        refine (fseal_calls _ kind _ _ _ qr (by omega)).mono ?_
        rintro e w2 ⟨a2, X, c2, HX, rfl, hm2, hb2⟩
        go_wp2_with fail
        refine (same_calls _ _ _ _ _ _ _ (qr.stay hb2) (rr.stay hb2)).mono ?_
        rintro e w3 ⟨rfl, hd3⟩
        have B3 : Below wo.heap.size wo w3 := hb2.trans (hd3.below _)
        have r3 := rr.stay B3
        have m3 : Mine wo.heap.size w3 a2 X c2 := hm2.stay (hd3.below _)
        clear hm2 hb2 hd3
        go_wp2_with fail
        refine (reffseal_calls _ kind _ _ _ r3 (by omega)).mono ?_
        rintro e w4 ⟨a4, Y, c4, HY, rfl, hm4, hb4⟩
        have s1 : (ordB X Y == 0) = true := by rw [HX.out, HY.out]; exact ordB_self _
        have m4 := m3.stay hb4
        have B4 : Below wo.heap.size wo w4 := B3.trans (hb4.mono B3.size)
        clear m3 r3 B3
        go_wp2_with fail
        refine (same_calls _ _ _ _ _ _ _ m4.row hm4.row).mono ?_
        rintro e w5 ⟨rfl, hd5⟩
        have m5 := m4.stay (hd5.below _)
        have B5 : Below wo.heap.size wo w5 := B4.trans (hd5.below _)
        have hXl : X.length ≤ 64 := by rw [HX.out, frameB_length _ _ (by omega)]; decide
        clear m4 B4 hm4 hb4 HX HY hd5
        go_wp2_with fail
        clear s1
        go_loopw [9] (fun i wx => ∃ (k : Nat) (V : List UInt8), Hid (V.length = X.length) ∧ k ≤ X.length ∧ i = .int .i64 k ∧ Mine wo.heap.size wx a2 V c2 ∧ Below wo.heap.size wo wx) (fun i _ => X.length - (intOf i).toNat)
        case atStart => exact ⟨0, X, rfl, Nat.zero_le _, rfl, m5, B5⟩
        case round =>
          clear m5 B5
          obtain ⟨k, V, HV, hk, rfl, mx, B8⟩ := hrel
          by_cases hlt : k < X.length
          · have hkV : k < V.length := by rw [HV.out]; exact hlt
            have i0 := mx.row.index bt.slice bt.sz k hkV
            rw [HV.out] at i0
            have e0 := mx.cellOf hkV
            have f0 := mx.free k hkV
            have HS := Lib.hid (mx.stored k hkV (bAdd V[k] (bI 1)))
            go_wp2_with fail
            go_roundw
            case rel => exact ⟨k + 1, _, by rw [Hid, List.length_set]; exact HV.out, by omega, by go_num, HS.out.1, B8.trans HS.out.2.2⟩
            case measure => simp [intOf]; omega
          · go_wp2_with fail
            go_roundw
            case rel => exact ⟨t + 1, by omega, by go_num, B.trans (B8.mono B.size)⟩
            case measure => simp [intOf]; omega
    · go_wp2_with fail
      go_ret
      exact ⟨rfl, hb1.trans (B.mono hb1.size)⟩
end Go.Proofs.Ytbglmglgaobjmaa
