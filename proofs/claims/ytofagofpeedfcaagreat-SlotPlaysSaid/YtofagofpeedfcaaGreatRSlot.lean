/- Chapter 15: the reference's slot: refused, Read, Write: walked. -/
import Derived.Test.YtofagofpeedfcaaGreatSlotP
import Derived.Test.YtofagofpeedfcaaGreatOne6
import Derived.Test.YtofagofpeedfcaaGreatRDisk5
namespace Go.Proofs.YtofagofpeedfcaaGreat
open Go Go.RowKit Go.Cit

def rfE (slot at_ n : Int) : Int := if slot < 0 ∨ 1 < slot ∨ at_ < 0 ∨ n < 0 then 2 else if 4096 < n ∨ 4096 - n < at_ then 4 else 0
theorem rfE_eq (N slot at_ n : Int) (hN : N ≠ 0) : refE N slot at_ n = rfE slot at_ n := by rw [refE, if_neg hN, rfE]
set_option maxRecDepth 100000 in
theorem rrefused_calls (w : World) (s at_ n : Int) (hs : -9223372036854775808 ≤ s ∧ s ≤ 9223372036854775807) (ha : -9223372036854775808 ≤ at_ ∧ at_ ≤ 9223372036854775807) (hn : -9223372036854775808 ≤ n ∧ n ≤ 9223372036854775807) :
    Calls Tryz.prog 36 #[.int .i64 s, .int .i64 at_, .int .i64 n] w fun e w' => e = .returned (.int .i64 (rfE s at_ n)) ∧ w' = w := by
  by_cases h1 : s = 0 ∨ s = 1
  · by_cases h2 : at_ < 0
    · rw [show rfE s at_ n = 2 by rw [rfE, if_pos (by omega)]]
      rcases h1 with rfl | rfl <;> (go_enter Tryz.func36, Tryz.ntmps36
                                    go_wp2_with fail
                                    go_ret
                                    exact ⟨rfl, rfl⟩)
    · by_cases h3 : n < 0
      · rw [show rfE s at_ n = 2 by rw [rfE, if_pos (by omega)]]
        rcases h1 with rfl | rfl <;> (go_enter Tryz.func36, Tryz.ntmps36
                                      go_wp2_with fail
                                      go_ret
                                      exact ⟨rfl, rfl⟩)
      · by_cases h4 : 4096 < n
        · rw [show rfE s at_ n = 4 by rw [rfE, if_neg (by omega), if_pos (by omega)]]
          rcases h1 with rfl | rfl <;> (go_enter Tryz.func36, Tryz.ntmps36
                                        go_wp2_with fail
                                        go_ret
                                        exact ⟨rfl, rfl⟩)
        · by_cases h5 : 4096 - n < at_
          · rw [show rfE s at_ n = 4 by rw [rfE, if_neg (by omega), if_pos (by omega)]]
            rcases h1 with rfl | rfl <;> (go_enter Tryz.func36, Tryz.ntmps36
                                          go_wp2_with fail
                                          go_ret
                                          exact ⟨rfl, rfl⟩)
          · rw [show rfE s at_ n = 0 by rw [rfE, if_neg (by omega), if_neg (by omega)]]
            rcases h1 with rfl | rfl <;> (go_enter Tryz.func36, Tryz.ntmps36
                                          go_wp2_with fail
                                          go_ret
                                          exact ⟨rfl, rfl⟩)
  · have h6 : ¬ s = 0 := fun e => h1 (.inl e)
    have h7 : ¬ s = 1 := fun e => h1 (.inr e)
    rw [show rfE s at_ n = 2 by rw [rfE, if_pos (by omega)]]
    clear h1
    go_enter Tryz.func36, Tryz.ntmps36
    go_wp2_with fail
    go_ret
    exact ⟨rfl, rfl⟩
/-- Its Read. -/
theorem rrd_step (D : Dk) (hok : D.Ok) (hu : D.up = true) (base k : Nat) (h : base + k < D.S.length) : readE D ((base + k : Nat) : Int) = 0 ∧ readR D ((base + k : Nat) : Int) = contD D (64 * base + 64 * k) 64 := by
  refine ⟨by rw [readE, if_neg (by rw [hu]; decide), if_pos ⟨by omega, by omega⟩], ?_⟩
  rw [readR, if_pos ⟨hu, by omega, by omega⟩, Int.toNat_natCast, show 64 * base + 64 * k = 64 * (base + k) by omega, contD_sec D hok _ h]
theorem rrd_none (D : Dk) (hu : D.up = true) (base k : Nat) (h : ¬ base + k < D.S.length) : readE D ((base + k : Nat) : Int) = 61 ∧ readR D ((base + k : Nat) : Int) = [] :=
  ⟨by rw [readE, if_neg (by rw [hu]; decide), if_neg (by omega)], by rw [readR, if_neg (by omega)]⟩
set_option maxRecDepth 100000 in
set_option maxHeartbeats 2000000 in
theorem rrd_good (w : World) (r : Rl) (D : Dk) (h : RefAt w r D) (hok : D.Ok) (hu : D.up = true) (s : Nat) (hs : s ≤ 1) (n : Nat) (hn : n ≤ 4096) :
    Calls Tryz.prog 14 #[.pointer (some ⟨r.b, 0, none⟩), .int .i64 (s : Int), .int .i64 (n : Int)] w fun e w' => ∃ a c m, e = .returned (.tuple #[.slice a m.length c, .int .i64 (rdF D (3 + 64 * s) n).2]) ∧ m = (rdF D (3 + 64 * s) n).1 ∧ Row w' a m c ∧ Below w.heap.size w w' := by
  have hrf := rrefused_calls w s 0 n (by omega) (by decide) (by omega)
  rw [show rfE s 0 n = 0 by rw [rfE, if_neg (by omega), if_neg (by omega)]] at hrf
  have HH := Lib.hid h
  have HOK := Lib.hid hok
  have q1 : w.cell? ⟨r.b, 1, none⟩ = some (.bool false) := by have := h.cells.2; rw [hu] at this; exact this
  have HU := Lib.hid hu
  clear h hok hu
  go_enter Tryz.func14, Tryz.ntmps14
  go_wp2_with fail
  refine (hrf).mono ?_
  rintro e w2 ⟨rfl, rfl⟩
  clear hrf
  go_wp2_with fail
  clear q1
  go_loopw [9, 10] (fun al i wr => ∃ (k m : Nat) (a : Option Addr) (c : Nat) (l : List UInt8), k ≤ 64 ∧ al = .slice a m c ∧ i = .int .i64 (k : Int) ∧ Hid (m = l.length ∧ l = contD D (64 * (3 + 64 * s)) (64 * k) ∧ (k = 0 ∨ 3 + 64 * s + k ≤ D.S.length)) ∧ Hid (Cit.Own 5 w2.heap.size wr a l c) ∧ Hid (Below w2.heap.size w2 wr)) (fun _ i _ => 64 - (intOf i).toNat)
  case atStart => exact ⟨0, 0, none, 0, [], by omega, rfl, rfl, ⟨rfl, by simp [contD], .inl rfl⟩, Cit.Own.nil _ _ _, Below.refl _ _⟩
  case round =>
    obtain ⟨k, m, a, c, l, hk, rfl, rfl, HL, HO, HB⟩ := hrel
    by_cases hlt : k < 64
    · have hrd := rread_calls wr r D (HH.out.stay HB.out) ((3 + 64 * s + k : Nat) : Int)
      by_cases hsec : 3 + 64 * s + k < D.S.length
      · obtain ⟨e0, e1⟩ := rrd_step D HOK.out HU.out (3 + 64 * s) k hsec
        obtain ⟨R, hR⟩ : ∃ R, Hid (R = contD D (64 * (3 + 64 * s) + 64 * k) 64) := ⟨_, rfl⟩
        have HRL : Hid (R.length = 64) := by rw [Hid, hR.out, contD_len]
        rw [e0, e1, ← hR.out, HRL.out, show ((3 + 64 * s + k : Nat) : Int) = 3 + 64 * (s : Int) + (k : Int) by omega] at hrd
        clear e0 e1
        go_wp2_with fail
        refine (hrd).mono ?_
        rintro e w4 ⟨a4, c4, rfl, hO4, hb4⟩
        have HR4 := Lib.hid hO4.isRow
        have HO4 := Lib.hid (HO.out.save (Save.of (S := fun _ => True) hb4) (fun _ _ => trivial))
        have HB4 := Lib.hid (HB.out.trans (hb4.mono HB.out.size))
        have HLE : Hid (l.length + R.length ≤ 1000000000) := by have := HL.out.2.1; rw [Hid, this, contD_len, HRL.out]; omega
        clear hrd hO4 hb4
        go_wp2_with ((with_reducible refine wp_append_row (o := ⟨some 46, .call _, _, _, _, _⟩) bt (.tmp 44) (.tmp 45) (by with_unfolding_all rfl) (by with_unfolding_all rfl) HO4.out HR4.out HLE.out HB4.out.size (by rw [← HL.out.1]; with_unfolding_all rfl) (by rw [HRL.out]; with_unfolding_all rfl) ?_); intro a5 c5 w5 hO5 hg5; obtain ⟨n5, hn5⟩ : ∃ n5, Hid (n5 = (l ++ R).length) := ⟨_, rfl⟩; rw [← hn5.out]; have HO5 := Lib.hid hO5; have HG5 := Lib.hid hg5; clear hO5 hg5)
        have HB5 := Lib.hid (HB4.out.trans (grown_below HG5.out HB4.out.size (fun g hg => (HO4.out.blk_ge hg).1)))
        go_roundw
        case rel => exact ⟨k + 1, n5, a5, c5, l ++ R, hlt, rfl, by go_num, ⟨hn5.out, by rw [show 64 * (k + 1) = 64 * k + 64 by omega, contD_add, ← HL.out.2.1, hR.out], .inr (by omega)⟩, HO5.out, HB5.out⟩
        case measure => simp [intOf]; omega
      · obtain ⟨e0, e1⟩ := rrd_none D HU.out (3 + 64 * s) k hsec
        rw [e0, e1, show ((3 + 64 * s + k : Nat) : Int) = 3 + 64 * (s : Int) + (k : Int) by omega] at hrd
        clear e0 e1
        have HKS : Hid (64 * (D.S.length - (3 + 64 * s)) = 64 * k ∨ (k = 0 ∧ D.S.length ≤ 3 + 64 * s)) := by rcases HL.out.2.2 with h | h <;> (rw [Hid]; omega)
        by_cases hkn : 64 * k < n
        · go_wp2_with fail
          refine (hrd).mono ?_
          rintro e w4 ⟨a4, c4, rfl, hO4, hb4⟩
          have HB4 := Lib.hid (HB.out.trans (hb4.mono HB.out.size))
          clear hrd hO4 hb4
          have HF : Hid (rdF D (3 + 64 * s) n = ([], 61)) := by have := HKS.out; rw [Hid, rdF, if_pos (by omega)]
          go_wp2_with fail
          go_ret2
          exact ⟨none, 0, [], by rw [HF.out]; rfl, by rw [HF.out], Row.nil_ _, HB4.out⟩
        · go_wp2_with fail
          refine (hrd).mono ?_
          rintro e w4 ⟨a4, c4, rfl, hO4, hb4⟩
          have HB4 := Lib.hid (HB.out.trans (hb4.mono HB.out.size))
          have HR4 := Lib.hid (HO.out.isRow.stay hb4)
          clear hrd hO4 hb4
          have HF : Hid (rdF D (3 + 64 * s) n = (contD D (64 * (3 + 64 * s)) n, 0)) := by have := HKS.out; rw [Hid, rdF, if_neg (by omega)]
          obtain ⟨a9, m9, c9, hm9, hsl, hr9⟩ := Row.upto (P := Tryz.prog) bt.slice bt.sz HR4.out n (by rw [HL.out.2.1, contD_len]; omega)
          have HM9 : Hid (m9 = contD D (64 * (3 + 64 * s)) n) := by rw [Hid, hm9, HL.out.2.1, contD_take _ _ _ _ (by omega)]
          have HR9 := Lib.hid hr9
          rw [← HL.out.1] at hsl
          clear hm9 hr9
          go_wp2_with fail
          go_ret2
          exact ⟨a9, c9, m9, by rw [HF.out]; rfl, by rw [HF.out]; exact HM9.out, HR9.out, HB4.out⟩
    · have hk6 : k = 64 := by omega
      have HF : Hid (rdF D (3 + 64 * s) n = (contD D (64 * (3 + 64 * s)) n, 0)) := by have := HL.out.2.2; rw [Hid, rdF, if_neg (by omega)]
      obtain ⟨a9, m9, c9, hm9, hsl, hr9⟩ := Row.upto (P := Tryz.prog) bt.slice bt.sz HO.out.isRow n (by rw [HL.out.2.1, contD_len]; omega)
      have HM9 : Hid (m9 = contD D (64 * (3 + 64 * s)) n) := by rw [Hid, hm9, HL.out.2.1, contD_take _ _ _ _ (by omega)]
      have HR9 := Lib.hid hr9
      rw [← HL.out.1] at hsl
      clear hm9 hr9 hk6
      go_wp2_with fail
      go_ret2
      exact ⟨a9, c9, m9, by rw [HF.out]; rfl, by rw [HF.out]; exact HM9.out, HR9.out, HB.out⟩
end Go.Proofs.YtofagofpeedfcaaGreat
