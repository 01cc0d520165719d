/- FrameOther: a frame in which up to 4 bytes, one behind the other, are otherwise, is none. The walk of the law. -/
import Derived.Test.YtbglmglgaobjmaaFrameLaw
import Derived.Test.YtbglmglgaobjmaaFrameAwake
namespace Go.Proofs.Ytbglmglgaobjmaa
open Go Go.RowKit Go.Cit

set_option maxHeartbeats 4000000 in
theorem frameOther_law (w : World) (kind : UInt8) (a0 : Option Addr) (l : List UInt8) (c0 : Nat) (at_ : Int) (over : UInt32) (h0 : Row w a0 l c0) (hat : -9223372036854775808 ≤ at_ ∧ at_ ≤ 9223372036854775807) :
    Calls Try.prog 14 #[vb kind, .slice a0 l.length c0, .int .i64 at_, vw over] w fun e w' => e = .returned (.bool true) ∧ Below w.heap.size w w' := by
  go_enter Try.func14, Try.ntmps14
  go_wp2_with fail
  refine (frameAwake_calls _).mono ?_
  rintro e w1 ⟨rfl, hb1⟩
  have r1 := h0.stay hb1
  clear h0
  by_cases hl : 58 < l.length
  · go_wp2_with fail
    go_ret
    exact ⟨rfl, hb1⟩
  by_cases h1 : at_ < 0
  · go_wp2_with fail
    go_ret
    exact ⟨rfl, hb1⟩
  by_cases h2 : 60 < at_
  · go_wp2_with fail
    go_ret
    exact ⟨rfl, hb1⟩
  by_cases h3 : 56 < at_ ∧ at_ < 60
  · obtain ⟨h3, h4⟩ := h3
    go_wp2_with fail
    go_ret
    exact ⟨rfl, hb1⟩
  have hl8 : l.length ≤ 58 := by omega
  obtain ⟨k, rfl⟩ : ∃ k : Nat, at_ = k := ⟨at_.toNat, by omega⟩
  have hk : k ≤ 56 ∨ k = 60 := by omega
  have HK := Lib.hid hk
  have hk60 : k ≤ 60 := by omega
  by_cases hov : over = 0
  · have go : (over == wI 0) = true := by rw [hov]; rfl
    clear hov hk
    rcases Nat.lt_or_ge 56 k with h5 | h5
    · have h6 : 60 ≤ k := by omega
      clear h3
      go_wp2_with fail
      go_ret
      exact ⟨rfl, hb1⟩
    · clear h3
      go_wp2_with fail
      go_ret
      exact ⟨rfl, hb1⟩
  have go : (over == wI 0) = false := by simpa [wI] using hov
  have HOV := Lib.hid hov
  clear hov
  clear hk
  have hw : (decide (56 < (k : Int)) = true ∧ decide ((k : Int) < 60) = false) ∨ decide (56 < (k : Int)) = false := by
    rcases Nat.lt_or_ge 56 k with h5 | h5
    · exact .inl ⟨decide_eq_true (by omega), decide_eq_false (by omega)⟩
    · exact .inr (decide_eq_false (by omega))
  clear h3
  rcases hw with ⟨g3, g4⟩ | g3
  all_goals
    go_wp2_with fail
    refine (fseal_calls _ kind _ _ _ r1 hl8).mono ?_
    rintro e w2 ⟨a2, Y, c2, HY, rfl, hm2, hb2⟩
    have HYl : Hid (Y.length = 64) := by rw [Hid, HY.out, frameB_length kind l hl8]
    have gl : ((Y.length : Int) != 64) = false := by rw [HYl.out]; rfl
    try clear g3
    try clear g4
    go_wp2_with fail
    refine (toXn (rowB_length _ _) (put32_calls _ over)).mono ?_
    rintro e w3 ⟨a3, X, c3, HX, rfl, hm3, hb3⟩
    have m3 := hm2.stay hb3
    have B3 : Below w1.heap.size w1 w3 := hb2.trans (hb3.mono hb2.size)
    have hXl : Hid (X.length = 4) := by rw [Hid, HX.out, rowB_length]
    have gx : Hid (4 ≤ X.length) := by rw [Hid, hXl.out]; decide
    have hdis : ∀ g, blk a3 = some g → w2.heap.size ≤ g := fun g hg => by have := hm3.new g hg; omega
    have hlow : Hid (∀ g, blk a2 = some g → g < w2.heap.size) := by
      intro g hg
      have : 0 < Y.length := by rw [HYl.out]; decide
      have h := hm2.row.blk this
      cases a2 with
      | none => simp [blk] at hg
      | some p => simp [blk, ad] at hg h; omega
    have HN : Hid (wholeB (overB X k 4 Y) = false) := by rw [Hid, HX.out, HY.out]; exact frame_over kind l hl8 k over HK.out HOV.out
    clear HY HX r1 hm2 hb2 gl
    have HS3 := Lib.hid hm3
    clear hm3
    go_wp2_with fail
    go_loopw [12] (fun i wr => ∃ (t : Nat) (V : List UInt8), Hid (V = overB X k t Y) ∧ Hid (V.length = Y.length) ∧ t ≤ 4 ∧ i = .int .i64 t ∧ Mine w1.heap.size wr a2 V c2 ∧ Mine w2.heap.size wr a3 X c3 ∧ Below w1.heap.size w1 wr) (fun i _ => 4 - (intOf i).toNat)
    case atStart => exact ⟨0, Y, rfl, rfl, by omega, rfl, m3, HS3.out, B3⟩
    case round =>
      clear m3 HS3 hb3 B3
      obtain ⟨t, V, HV, HVl, ht, rfl, mx, my, B⟩ := hrel
      obtain ⟨wo, rfl⟩ : ∃ wo : World, wo = wr := ⟨_, rfl⟩
      by_cases htl : t < 4
      · have hkV : k + t < V.length := by rw [HVl.out, HYl.out]; have := HK.out; omega
        have htX : t < X.length := by rw [hXl.out]; exact htl
        have i0 := mx.row.index bt.slice bt.sz (k + t) hkV
        rw [HVl.out, show ((k + t : Nat) : Int) = (k : Int) + (t : Int) by omega] at i0
        have e0 := mx.cellOf hkV
        have f0 := mx.free (k + t) hkV
        have i1 := my.row.index bt.slice bt.sz t htX
        have e1 := my.cellOf htX
        have HS := Lib.hid (mx.stored (k + t) hkV (bXor V[k + t] X[t]))
        have HT := Lib.hid (my.other (ad a2 (k + t)) (vb (bXor V[k + t] X[t])) (fun g hg => by
          have h5 := hdis g hg
          cases a2 with
          | none => have h6 := mx.row.spot (by intro h; simp [h] at hkV); simp at h6
          | some p => have := hlow.out p.block (by simp [blk]); simp only [ad]; omega))
        go_wp2_with fail
        go_region
        go_wp2_with fail
        go_roundw
        case rel =>
          obtain ⟨sm, _, sb⟩ := HS.out
          refine ⟨t + 1, V.set (k + t) (bXor V[k + t] X[t]), ?_, by rw [Hid, List.length_set]; exact HVl.out, by omega, by go_num, sm.drewN 1, HT.out.drewN 1, B.trans (sb.trans (below_drewN _ _ 1))⟩
          have e5 : V.getD (k + t) 0 = V[k + t] := by simp [List.getD, hkV]
          have e6 : X.getD t 0 = X[t] := by simp [List.getD, htX]
          rw [Hid, overB, ← HV.out, e5, e6]
        case measure => simp [intOf]; omega
      · have ht4 : t = 4 := by omega
        subst ht4
        have HP : Hid (wholeB V = false) := by rw [Hid, HV.out]; exact HN.out
        have hkd := fkind_calls _ _ _ _ mx.row (by rw [HVl.out, HYl.out]; decide)
        rw [HVl.out, HP.out] at hkd
        go_wp2_with fail
        refine Calls.mono hkd ?_
        rintro e w4 ⟨rfl, hb4⟩
        have B5 := hb1.trans ((B.trans (hb4.mono B.size)).mono hb1.size)
        clear hkd
        go_wp2_with fail
        go_ret
        exact ⟨rfl, B5⟩
end Go.Proofs.Ytbglmglgaobjmaa
