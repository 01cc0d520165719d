/- WordsOrder: of any two rows it is told whether they are the same, and which one comes ahead; put together they are as the chapter says. The walk of the law. -/
import Derived.Test.YtbglmglgaobjmaaSame
namespace Go.Proofs.Ytbglmglgaobjmaa
open Go Go.RowKit Go.Cit


set_option maxHeartbeats 4000000 in
theorem wordsOrder_law (w : World) (a0 : Option Addr) (l : List UInt8) (c0 : Nat) (a1 : Option Addr) (m : List UInt8) (c1 : Nat) (a2 : Option Addr) (p : List UInt8) (c2 : Nat) (h0 : Row w a0 l c0) (h1 : Row w a1 m c1) (h2 : Row w a2 p c2) :
    Calls Try.prog 5 #[.slice a0 l.length c0, .slice a1 m.length c1, .slice a2 p.length c2] w fun e w' => e = .returned (.bool true) ∧ Below w.heap.size w w' := by
  by_cases hl : 1000 < l.length
  · go_enter Try.func5, Try.ntmps5
    go_wp2_with fail
    go_ret
    exact ⟨rfl, Below.refl _ _⟩
  by_cases hm : 1000 < m.length
  · go_enter Try.func5, Try.ntmps5
    go_wp2_with fail
    go_ret
    exact ⟨rfl, Below.refl _ _⟩
  by_cases hp : 1000 < p.length
  · go_enter Try.func5, Try.ntmps5
    go_wp2_with fail
    go_ret
    exact ⟨rfl, Below.refl _ _⟩
  have sl := ordB_self l
  have sm := ordB_self m
  go_enter Try.func5, Try.ntmps5
  go_wp2_with fail
  refine (copy_calls _ _ _ _ h0 (by omega)).mono ?_
  rintro e w1 ⟨x0, d0, rfl, ho1, hb1⟩
  go_wp2_with fail
  refine (copy_calls _ _ _ _ (h1.stay hb1) (by omega)).mono ?_
  rintro e w2 ⟨x1, d1, rfl, ho2, hb2⟩
  have rx := ho1.isRow.stay hb2
  have ry := ho2.isRow
  have B2 : Below w.heap.size w w2 := hb1.trans (hb2.mono hb1.size)
  have r0 := h0.stay B2
  have r1 := h1.stay B2
  have r2 := h2.stay B2
  clear ho1 ho2 hb1 hb2
  go_wp2_with fail
  refine (toX (cat3_calls w2 _ rx ry r2 (by omega) (by omega) (by omega))).mono ?_
  rintro e w3 ⟨a3, X, d3, HX, rfl, hm3, hb3⟩
  go_wp2_with fail
  refine (toXo (refcat_calls _ _ _ _ _ _ _ (r0.stay hb3) (r1.stay hb3) (by omega) (by omega))).mono ?_
  rintro e w4 ⟨a4, Y, d4, HY, rfl, hm4, hb4⟩
  have B4 : Below w2.heap.size w2 w4 := hb3.trans (hb4.mono hb3.size)
  have hY : Y.length ≤ 2000 := by rw [HY.out]; simp; omega
  go_wp2_with fail
  refine (toXo (refcat_calls _ _ _ _ _ _ _ hm4.row (r2.stay B4) (by omega) (by omega))).mono ?_
  rintro e w5 ⟨a5, Z, d5, HZ, rfl, hm5, hb5⟩
  have B5 : Below w2.heap.size w2 w5 := B4.trans (hb5.mono B4.size)
  have hm35 : Mine w2.heap.size w5 a3 X d3 := (hm3.stay hb4).stay hb5
  have sx : (ordB X Z == 0) = true := by rw [HZ.out, HY.out, HX.out, ordB_beq]; simp
  have hXl : X.length ≤ 3000 := by rw [HX.out]; simp; omega
  go_wp2_with fail
  refine (same_calls _ _ _ _ _ _ _ hm35.row hm5.row).mono ?_
  rintro e w6 ⟨rfl, hd6⟩
  have B6 : Below w2.heap.size w2 w6 := B5.trans (hd6.below _)
  obtain ⟨n6, rfl⟩ := hd6
  have hm6 := hm35.drewN n6
  clear hm3 hm4 hm5 hm35 hb3 hb4 hb5 B4 B5 HX HY HZ hY
  go_wp2_with fail
  clear sx
  go_loopw [10] (fun i wr => ∃ (k : Nat) (V : List UInt8), Hid (V.length = X.length) ∧ k ≤ X.length ∧ i = .int .i64 k ∧ Mine w2.heap.size wr a3 V d3 ∧ Below w2.heap.size w2 wr) (fun i _ => X.length - (intOf i).toNat)
  case atStart => exact ⟨0, X, rfl, Nat.zero_le _, rfl, hm6, B6⟩
  case round =>
    obtain ⟨k, V, HV, hk, rfl, hmr, B⟩ := hrel
    by_cases hlt : k < X.length
    · have hkV : k < V.length := by rw [HV.out]; exact hlt
      have i0 := hmr.row.index bt.slice bt.sz k hkV
      rw [HV.out] at i0
      have e0 := hmr.cellOf hkV
      have f0 := hmr.free k hkV
      have HS := Lib.hid (hmr.stored k hkV (bAdd V[k] (bI 1)))
      go_wp2_with fail
      go_roundw
      case rel => exact ⟨k + 1, _, by rw [Hid, List.length_set]; exact HV.out, by omega, by go_num, HS.out.1, B.trans HS.out.2.2⟩
      case measure => simp [intOf]; omega
    · have q0 := r0.stay B
      have q1 := r1.stay B
      have qx := rx.stay B
      have qy := ry.stay B
      have BB : Below w.heap.size w wr := B2.trans (B.mono B2.size)
      clear hmr hm6 B6 HV
      go_wp2_with fail
      refine (wsame_calls _ _ _ _ _ _ _ qx qy).mono ?_
      rintro e w7 ⟨rfl, rfl⟩
      go_wp2_with fail
      refine (same_calls _ _ _ _ _ _ _ q0 q1).mono ?_
      rintro e w8 ⟨rfl, hd8⟩
      obtain ⟨n8, rfl⟩ := hd8
      go_wp2_with fail
      refine (wahead_calls _ _ _ _ _ _ _ (qx.drewN _) (qy.drewN _)).mono ?_
      rintro e w9 ⟨rfl, rfl⟩
      go_wp2_with fail
      refine (ahead_calls _ _ _ _ _ _ _ (q0.drewN _) (q1.drewN _)).mono ?_
      rintro e w10 ⟨rfl, hd10⟩
      obtain ⟨n10, rfl⟩ := hd10
      go_wp2_with fail
      refine (wahead_calls _ _ _ _ _ _ _ (qy.drewN _) (qx.drewN _)).mono ?_
      rintro e w11 ⟨rfl, rfl⟩
      go_wp2_with fail
      refine (ahead_calls _ _ _ _ _ _ _ (q1.drewN _) (q0.drewN _)).mono ?_
      rintro e w12 ⟨rfl, hd12⟩
      obtain ⟨n12, rfl⟩ := hd12
      go_wp2_with fail
      refine (same_calls _ _ _ _ _ _ _ (qx.drewN _) (q0.drewN _)).mono ?_
      rintro e w13 ⟨rfl, hd13⟩
      obtain ⟨n13, rfl⟩ := hd13
      go_wp2_with fail
      refine (same_calls _ _ _ _ _ _ _ (qy.drewN _) (q1.drewN _)).mono ?_
      rintro e w14 ⟨rfl, hd14⟩
      go_wp2_with fail
      refine (cat0_calls _).mono ?_
      rintro e w15 ⟨a15, c15, rfl, _, hb15⟩
      go_wp2_with fail
      go_ret
      have hd : Drew w7 w14 := Drew.trans ⟨_, rfl⟩ hd14
      exact ⟨rfl, (BB.trans (hd.below _)).trans (hb15.mono ((BB.trans (hd.below _)).size))⟩
end Go.Proofs.Ytbglmglgaobjmaa
