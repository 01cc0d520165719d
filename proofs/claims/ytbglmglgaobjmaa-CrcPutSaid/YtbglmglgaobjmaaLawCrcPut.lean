/- CrcPut: any bytes have their sum put behind them, are checked, as the chapter says; what is told is the caller's own. The walk of the law. -/
import Derived.Test.YtbglmglgaobjmaaCrcPut
namespace Go.Proofs.Ytbglmglgaobjmaa
open Go Go.RowKit Go.Cit

set_option maxHeartbeats 4000000 in
theorem crcPut_law (w : World) (a0 : Option Addr) (l : List UInt8) (c0 : Nat) (h0 : Row w a0 l c0) :
    Calls Try.prog 7 #[.slice a0 l.length c0] w fun e w' => e = .returned (.bool true) ∧ Below w.heap.size w w' := by
  by_cases hl : 5000 < l.length
  · go_enter Try.func7, Try.ntmps7
    go_wp2_with fail
    go_ret
    exact ⟨rfl, Below.refl _ _⟩
  have sl := ordB_self l
  go_enter Try.func7, Try.ntmps7
  go_wp2_with fail
  refine (copy_calls _ _ _ _ h0 (by omega)).mono ?_
  rintro e w1 ⟨a1, c1, rfl, ho1, hb1⟩
  have q1 := ho1.isRow
  have r1 := h0.stay hb1
  clear ho1
  go_wp2_with fail
  go_loopw [4] (fun i wr => ∃ t : Nat, t ≤ 2 ∧ i = .int .i64 t ∧ Below w1.heap.size w1 wr) (fun i _ => 2 - (intOf i).toNat)
  case atStart => exact ⟨0, by omega, rfl, Below.refl _ _⟩
  case round =>
    obtain ⟨t, ht, rfl, B⟩ := hrel
    obtain ⟨wo, rfl⟩ : ∃ wo : World, wo = wr := ⟨_, rfl⟩
    by_cases htl : t < 2
    · have rr := r1.stay B
      have qr := q1.stay B
      go_wp2_with fail
      refine (crcput_calls _ _ _ _ qr (by omega)).mono ?_
      rintro e w2 ⟨a2, X, c2, HX, rfl, hm2, hb2⟩
      go_wp2_with fail
      refine (crccheck_calls _ _ _ _ (qr.stay hb2) (by omega)).mono ?_
      rintro e w3 ⟨a3, Y, c3, HY, rfl, hm3, hb3⟩
      have B3 : Below wo.heap.size wo w3 := hb2.trans (hb3.mono hb2.size)
      go_wp2_with fail
      refine (refcrccheck_calls _ _ _ _ (rr.stay B3) (by omega)).mono ?_
      rintro e w4 ⟨a4, Z, c4, HZ, rfl, hm4, hb4⟩
      have B4 : Below wo.heap.size wo w4 := B3.trans (hb4.mono B3.size)
      go_wp2_with fail
      refine (refcrcput_calls _ _ _ _ (rr.stay B4) (by omega)).mono ?_
      rintro e w5 ⟨a5, V, c5, HV, rfl, hm5, hb5⟩
      have B5 : Below wo.heap.size wo w5 := B4.trans (hb5.mono B4.size)
      have mx : Mine wo.heap.size w5 a2 X c2 := (hm2.stay (hb3.trans (hb4.mono hb3.size))).stay hb5
      have my : Mine wo.heap.size w5 a3 Y c3 := ((hm3.stay hb4).stay hb5).low hb2.size
      have mz : Row w5 a4 Z c4 := hm4.row.stay hb5
      have s1 : (ordB X V == 0) = true := by rw [HX.out, HV.out]; exact ordB_self _
      have s2 : (ordB Y Z == 0) = true := by rw [HY.out, HZ.out]; exact ordB_self _
      go_wp2_with fail
      refine (same_calls _ _ _ _ _ _ _ mx.row hm5.row).mono ?_
      rintro e w6 ⟨rfl, hd6⟩
      obtain ⟨n6, rfl⟩ := hd6
      go_wp2_with fail
      refine (same_calls _ _ _ _ _ _ _ (my.row.drewN _) (mz.drewN _)).mono ?_
      rintro e w7 ⟨rfl, hd7⟩
      obtain ⟨n7, rfl⟩ := hd7
      have q5 := qr.stay B5
      have r5 := rr.stay B5
      go_wp2_with fail
      refine (same_calls _ _ _ _ _ _ _ (q5.drewN _) (r5.drewN _)).mono ?_
      rintro e w8 ⟨rfl, hd8⟩
      have hd : Drew w5 w8 := Drew.trans ⟨_, rfl⟩ hd8
      obtain ⟨n8, rfl⟩ := hd
      have mx8 := mx.drewN n8
      have my8 := my.drewN n8
      have B8 : Below wo.heap.size wo (w5.drewN n8) := B5.trans (below_drewN _ _ _)
      have hXl : X.length ≤ 6000 := by rw [HX.out, putB_length]; omega
      have hYl : Y.length ≤ 6000 := by
        rw [HY.out, chkB]; split
        · rw [bodyB, List.length_take]; omega
        · simp
      have hlow : ∀ i, i < X.length → (ad a2 i).block < w2.heap.size := fun i hi => hm2.row.blk hi
      have hdis : ∀ g, blk a3 = some g → w2.heap.size ≤ g := hm3.new
      clear hm2 hm3 hm4 hm5 mx my mz HX HY HZ HV hb2 hb3 hb4 hb5 B3 B4 B5 q5 r5
      go_wp2_with fail
      clear s1 s2
      go_loopw [10] (fun i wx => ∃ (k : Nat) (V : List UInt8), Hid (V.length = X.length) ∧ k ≤ X.length ∧ i = .int .i64 k ∧ Mine wo.heap.size wx a2 V c2 ∧ Mine wo.heap.size wx a3 Y c3 ∧ Below wo.heap.size wo wx) (fun i _ => X.length - (intOf i).toNat)
      case atStart => exact ⟨0, X, rfl, Nat.zero_le _, rfl, mx8, my8, B8⟩
      case round =>
        clear mx8 my8 B8
        obtain ⟨k, V, HV, hk, rfl, mx, my, B8⟩ := hrel
        by_cases hlt : k < X.length
        · have hkV : k < V.length := by rw [HV.out]; exact hlt
          have i0 := mx.row.index bt.slice bt.sz k hkV
          rw [HV.out] at i0
          have e0 := mx.cellOf hkV
          have f0 := mx.free k hkV
          have HS := Lib.hid (mx.stored k hkV (bAdd V[k] (bI 1)))
          have HY := Lib.hid (my.other (ad a2 k) (vb (bAdd V[k] (bI 1))) (fun g hg => by have := hdis g hg; have := hlow k hlt; omega))
          go_wp2_with fail
          go_roundw
          case rel => exact ⟨k + 1, _, by rw [Hid, List.length_set]; exact HV.out, by omega, by go_num, HS.out.1, HY.out, B8.trans HS.out.2.2⟩
          case measure => simp [intOf]; omega
        · clear mx HV hlow hdis
          go_wp2_with fail
          go_loopw [11] (fun i wy => ∃ (k : Nat) (V : List UInt8), Hid (V.length = Y.length) ∧ k ≤ Y.length ∧ i = .int .i64 k ∧ Mine wo.heap.size wy a3 V c3 ∧ Below wo.heap.size wo wy) (fun i _ => Y.length - (intOf i).toNat)
          case atStart => exact ⟨0, Y, rfl, Nat.zero_le _, rfl, my, B8⟩
          case round =>
            clear my B8 hlt hk
            obtain ⟨k, V, HV, hk, rfl, my, B8⟩ := hrel
            by_cases hlt : k < Y.length
            · have hkV : k < V.length := by rw [HV.out]; exact hlt
              have i0 := my.row.index bt.slice bt.sz k hkV
              rw [HV.out] at i0
              have e0 := my.cellOf hkV
              have f0 := my.free k hkV
              have HS := Lib.hid (my.stored k hkV (bAdd V[k] (bI 1)))
              go_wp2_with fail
              go_roundw
              case rel => exact ⟨k + 1, _, by rw [Hid, List.length_set]; exact HV.out, by omega, by go_num, HS.out.1, B8.trans HS.out.2.2⟩
              case measure => simp [intOf]; omega
            · go_wp2_with fail
              go_roundw
              case rel => exact ⟨t + 1, by omega, by go_num, B.trans (B8.mono B.size)⟩
              case measure => simp [intOf]; omega
    · go_wp2_with fail
      go_ret
      exact ⟨rfl, hb1.trans (B.mono hb1.size)⟩
end Go.Proofs.Ytbglmglgaobjmaa
