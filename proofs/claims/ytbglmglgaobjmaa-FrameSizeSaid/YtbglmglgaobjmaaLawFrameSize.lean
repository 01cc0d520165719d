/- FrameSize: bytes that don't fill a sector, or more, are no frame. The walk of the law. -/
import Derived.Test.YtbglmglgaobjmaaFrameLaw
import Derived.Test.YtbglmglgaobjmaaFrameAwake
namespace Go.Proofs.Ytbglmglgaobjmaa
open Go Go.RowKit Go.Cit

set_option maxHeartbeats 4000000 in
theorem frameSize_law (w : World) (kind : UInt8) (a0 : Option Addr) (l : List UInt8) (c0 : Nat) (cut : Int) (a1 : Option Addr) (s : List UInt8) (c1 : Nat) (h0 : Row w a0 l c0) (hcut : -9223372036854775808 ≤ cut ∧ cut ≤ 9223372036854775807) (h1 : Row w a1 s c1) :
    Calls Try.prog 15 #[vb kind, .slice a0 l.length c0, .int .i64 cut, .slice a1 s.length c1] w fun e w' => e = .returned (.bool true) ∧ Below w.heap.size w w' := by
  go_enter Try.func15, Try.ntmps15
  go_wp2_with fail
  refine (frameAwake_calls _).mono ?_
  rintro e w1 ⟨rfl, B1⟩
  have r0 := h0.stay B1
  have r1 := h1.stay B1
  clear h0 h1
  by_cases hl : 58 < l.length
  · go_wp2_with fail
    go_ret
    exact ⟨rfl, B1⟩
  by_cases hs : 70 < s.length
  · go_wp2_with fail
    go_ret
    exact ⟨rfl, B1⟩
  have hl8 : l.length ≤ 58 := by omega
  go_wp2_with fail
  refine (fseal_calls _ kind _ _ _ r0 hl8).mono ?_
  rintro e w2 ⟨a2, X, c2, HX, rfl, hm2, hb2⟩
  have HL : Hid (X.length = 64) := by rw [Hid, HX.out, frameB_length kind l hl8]
  have gl : ((X.length : Int) != 64) = false := by rw [HL.out]; rfl
  have HW : Hid (wholeB X = true) := by rw [Hid, HX.out, frame_whole kind l hl8]
  clear HX
  have B2 := B1.trans (hb2.mono B1.size)
  have q1 := r1.stay hb2
  have x2 := hm2.row
  clear r0 r1 hm2 hb2 B1
  go_wp2_with fail
  refine (toX (cat2_calls _ _ x2 q1 (by rw [HL.out]; decide) (by omega))).mono ?_
  rintro e w3 ⟨a3, Y, c3, HY, rfl, hm3, hb3⟩
  have hY : Y.length ≤ 200 := by rw [HY.out, List.length_append, HL.out]; omega
  have HM : Hid (wholeB Y = decide (s.length = 0)) := by
    rw [Hid]
    by_cases h : s.length = 0
    · have e : s = [] := List.eq_nil_of_length_eq_zero h
      rw [HY.out, e, List.append_nil, HW.out]; rfl
    · rw [not_whole_len (by rw [HY.out, List.length_append, HL.out]; omega)]; simp [h]
  have B3 := B2.trans (hb3.mono B2.size)
  have x3 := x2.stay hb3
  clear HY HW q1 hb3 B2 x2
  go_wp2_with fail
  refine (fkind_calls _ _ _ _ hm3.row (by omega)).mono ?_
  rintro e w4 ⟨rfl, hb4⟩
  have B4 := B3.trans (hb4.mono B3.size)
  have x4 := x3.stay hb4
  clear hm3 hb4 B3 x3
  have ge : (wholeB Y == ((s.length : Int) == 0)) = true := by
    have e : decide (s.length = 0) = ((s.length : Int) == 0) := by rw [Bool.eq_iff_iff]; simp only [decide_eq_true_eq, beq_iff_eq]; omega
    rw [HM.out, e]; simp
  clear HM
  by_cases hc : 0 < cut ∧ cut ≤ 64
  · obtain ⟨k, rfl⟩ : ∃ k : Nat, cut = k := ⟨cut.toNat, by omega⟩
    obtain ⟨hc1, hc2⟩ := hc
    obtain ⟨a5, m, c5, hm, hrun, r5⟩ := x4.upto bt.slice bt.sz (64 - k) (by rw [HL.out]; omega)
    have HP : Hid (wholeB m = false) := not_whole_len (by rw [hm, List.length_take]; omega)
    have hml : m.length ≤ 64 := by rw [hm, List.length_take]; omega
    rw [show ((64 - k : Nat) : Int) = 64 - (k : Int) by omega] at hrun
    have gp := HP.out
    clear hm
    go_wp2_with fail
    refine (fkind_calls _ _ _ _ r5 (by omega)).mono ?_
    rintro e w5 ⟨rfl, hb5⟩
    have B5 := B4.trans (hb5.mono B4.size)
    clear hb5 r5 hrun
    go_wp2_with fail
    go_ret
    exact ⟨by first | rfl | rw [ge], B5⟩
  · by_cases hc1 : 0 < cut
    · have hc2 : 64 < cut := by omega
      clear hc
      go_wp2_with fail
      go_ret
      exact ⟨by first | rfl | rw [ge], B4⟩
    · clear hc
      go_wp2_with fail
      go_ret
      exact ⟨by first | rfl | rw [ge], B4⟩
end Go.Proofs.Ytbglmglgaobjmaa
