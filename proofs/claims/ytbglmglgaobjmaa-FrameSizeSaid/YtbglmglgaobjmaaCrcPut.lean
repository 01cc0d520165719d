/- crc.Put, crc.Check and the reference's: contracts. -/
import Derived.Test.YtbglmglgaobjmaaSame
import Derived.Test.YtbglmglgaobjmaaWordsLoad
import Derived.Test.YtbglmglgaobjmaaRefCrc
import Derived.Test.YtbglmglgaobjmaaCrcTab
import Derived.Test.YtbglmglgaobjmaaCrcLaw
namespace Go.Proofs.Ytbglmglgaobjmaa
open Go Go.RowKit Go.Cit

/-- Bytes with their sum behind them. -/
def putB (l : List UInt8) : List UInt8 := l ++ rowB (qOfW (addP 0 l)) 4
theorem putB_length (l : List UInt8) : (putB l).length = l.length + 4 := by rw [putB, List.length_append, rowB_length]
/-- The bytes without their last four. -/
def bodyB (l : List UInt8) : List UInt8 := l.take (l.length - 4)
/-- Is the sum behind them? -/
def okB (l : List UInt8) : Bool := decide (4 ≤ l.length) && decide (putB (bodyB l) = l)
/-- What Check tells. -/
def chkB (l : List UInt8) : List UInt8 := if okB l then bodyB l else []

theorem crcput_calls (w : World) (a0 : Option Addr) (l : List UInt8) (c0 : Nat) (h0 : Row w a0 l c0) (hl : l.length ≤ 200000000) :
    Calls Try.prog 40 #[.slice a0 l.length c0] w fun e w' => ∃ a X cp, Hid (X = putB l) ∧ e = .returned (.slice a X.length cp) ∧ Mine w.heap.size w' a X cp ∧ Below w.heap.size w w' := by
  go_enter Try.func40, Try.ntmps40
  go_wp2_with fail
  refine (sum_calls _ _ _ _ h0).mono ?_
  rintro e w1 ⟨rfl, hb1⟩
  go_wp2_with fail
  refine (toXn (rowB_length _ _) (put32_calls w1 (addP 0 l))).mono ?_
  rintro e w2 ⟨a2, R, c2, HR, rfl, hm2, hb2⟩
  have B2 := hb1.trans (hb2.mono hb1.size)
  have r2 := h0.stay B2
  have hR : R.length ≤ 4 := by rw [HR.out, rowB_length]; decide
  go_wp2_with fail
  refine (toX (cat2_calls w2 _ r2 hm2.row (by omega) (by omega))).mono ?_
  rintro e w3 ⟨a3, X, c3, HX, rfl, hm3, hb3⟩
  go_wp2_with fail
  go_ret
  exact ⟨a3, X, c3, by rw [Hid, HX.out, HR.out]; rfl, rfl, hm3.low B2.size, B2.trans (hb3.mono B2.size)⟩

theorem refcrcput_calls (w : World) (a0 : Option Addr) (l : List UInt8) (c0 : Nat) (h0 : Row w a0 l c0) (hl : l.length ≤ 200000000) :
    Calls Try.prog 43 #[.slice a0 l.length c0] w fun e w' => ∃ a X cp, Hid (X = putB l) ∧ e = .returned (.slice a X.length cp) ∧ Mine w.heap.size w' a X cp ∧ Below w.heap.size w w' := by
  have HS : Hid (addR 0 l = addP 0 l) := (addP_eq 0 l).symm
  go_enter Try.func43, Try.ntmps43
  go_wp2_with fail
  refine (refsum_calls _ _ _ _ h0).mono ?_
  rintro e w1 ⟨rfl, rfl⟩
  go_wp2_with fail
  refine (toXn (rowB_length _ _) (refput_calls w1 (qOfW (addR 0 l)) 4 (by decide))).mono ?_
  rintro e w2 ⟨a2, R, c2, HR, rfl, hm2, hb2⟩
  have r2 := h0.stay hb2
  have hR : R.length ≤ 4 := by rw [HR.out, rowB_length]; decide
  go_wp2_with fail
  refine (toXo (refcat_calls _ _ _ _ _ _ _ r2 hm2.row (by omega) (by omega))).mono ?_
  rintro e w3 ⟨a3, X, c3, HX, rfl, hm3, hb3⟩
  go_wp2_with fail
  go_ret
  exact ⟨a3, X, c3, by rw [Hid, HX.out, HR.out, HS.out]; rfl, rfl, hm3.low hb2.size, hb2.trans (hb3.mono hb2.size)⟩

theorem ordB_put (l : List UInt8) (X : List UInt8) (h4 : 4 ≤ l.length) (hX : X = putB (bodyB l)) : (ordB X l == 0) = okB l := by
  rw [ordB_beq, hX, okB]; simp [h4]

theorem crccheck_calls (w : World) (a0 : Option Addr) (l : List UInt8) (c0 : Nat) (h0 : Row w a0 l c0) (hl : l.length ≤ 200000000) :
    Calls Try.prog 41 #[.slice a0 l.length c0] w fun e w' => ∃ a X cp, Hid (X = chkB l) ∧ e = .returned (.tuple #[.slice a X.length cp, .bool (okB l)]) ∧ Mine w.heap.size w' a X cp ∧ Below w.heap.size w w' := by
  by_cases h4 : 4 ≤ l.length
  · obtain ⟨a1, m, c1, hm, hrun, r1⟩ := h0.upto bt.slice bt.sz (l.length - 4) (by omega)
    rw [show ((l.length - 4 : Nat) : Int) = (l.length : Int) - 4 by omega] at hrun
    have HM : Hid (m = bodyB l) := hm
    have hml : m.length ≤ 200000000 := by rw [hm, List.length_take]; omega
    have g1 : decide ((l.length : Int) - 4 < 0) = false := by simp; omega
    clear hm
    go_enter Try.func41, Try.ntmps41
    go_wp2_with fail
    refine (crcput_calls _ _ _ _ r1 hml).mono ?_
    rintro e w1 ⟨a2, X, c2, HX, rfl, hm2, hb1⟩
    have HO := Lib.hid (ordB_put l X h4 (by rw [HX.out, HM.out]))
    have hXl : X.length ≤ 300000000 := by rw [HX.out, putB_length]; omega
    go_wp2_with fail
    refine (wsame_calls _ _ _ _ _ _ _ hm2.row (h0.stay hb1)).mono ?_
    rintro e w2 ⟨rfl, rfl⟩
    have rm := r1.stay hb1
    cases hok : okB l
    · have g2 : (ordB X l == 0) = false := by rw [HO.out, hok]
      have HK := Lib.hid hok
      clear hok
      go_wp2_with fail
      go_ret2
      exact ⟨none, [], 0, by rw [Hid, chkB, HK.out]; rfl, by rw [HK.out]; rfl, Mine.nil _ _, hb1⟩
    · have g2 : (ordB X l == 0) = true := by rw [HO.out, hok]
      have HK := Lib.hid hok
      clear hok
      go_wp2_with fail
      refine (toX (cat1_calls w2 _ rm (by omega))).mono ?_
      rintro e w3 ⟨a3, Y, c3, HY, rfl, hm3, hb3⟩
      go_wp2_with fail
      go_ret2
      exact ⟨a3, Y, c3, by rw [Hid, chkB, HK.out, HY.out, HM.out]; rfl, by rw [HK.out]; rfl, hm3.low hb1.size, hb1.trans (hb3.mono hb1.size)⟩
  · have HK : Hid (okB l = false) := by rw [Hid, okB]; simp [h4]
    have g1 : decide ((l.length : Int) - 4 < 0) = true := by simp; omega
    have b0 := h0.len_le
    go_enter Try.func41, Try.ntmps41
    go_wp2_with fail
    go_ret2
    exact ⟨none, [], 0, by rw [Hid, chkB, HK.out]; rfl, by rw [HK.out]; rfl, Mine.nil _ _, Below.refl _ _⟩

theorem refcrccheck_calls (w : World) (a0 : Option Addr) (l : List UInt8) (c0 : Nat) (h0 : Row w a0 l c0) (hl : l.length ≤ 200000000) :
    Calls Try.prog 42 #[.slice a0 l.length c0] w fun e w' => ∃ a X cp, Hid (X = chkB l) ∧ e = .returned (.tuple #[.slice a X.length cp, .bool (okB l)]) ∧ Mine w.heap.size w' a X cp ∧ Below w.heap.size w w' := by
  by_cases h4 : 4 ≤ l.length
  · obtain ⟨a1, m, c1, hm, hrun, r1⟩ := h0.upto bt.slice bt.sz (l.length - 4) (by omega)
    rw [show ((l.length - 4 : Nat) : Int) = (l.length : Int) - 4 by omega] at hrun
    have HM : Hid (m = bodyB l) := hm
    have hml : m.length ≤ 200000000 := by rw [hm, List.length_take]; omega
    have g1 : decide ((l.length : Int) < 4) = false := by simp; omega
    clear hm
    go_enter Try.func42, Try.ntmps42
    go_wp2_with fail
    refine (refcrcput_calls _ _ _ _ r1 hml).mono ?_
    rintro e w1 ⟨a2, X, c2, HX, rfl, hm2, hb1⟩
    have HO := Lib.hid (ordB_put l X h4 (by rw [HX.out, HM.out]))
    go_wp2_with fail
    refine (same_calls _ _ _ _ _ _ _ hm2.row (h0.stay hb1)).mono ?_
    rintro e w2 ⟨rfl, hd⟩
    have B2 := hb1.trans (hd.below _)
    have rm := r1.stay B2
    cases hok : okB l
    · have g2 : (ordB X l == 0) = false := by rw [HO.out, hok]
      have HK := Lib.hid hok
      clear hok
      go_wp2_with fail
      go_ret2
      exact ⟨none, [], 0, by rw [Hid, chkB, HK.out]; rfl, by rw [HK.out]; rfl, Mine.nil _ _, B2⟩
    · have g2 : (ordB X l == 0) = true := by rw [HO.out, hok]
      have HK := Lib.hid hok
      clear hok
      go_wp2_with fail
      refine (toXo (copy_calls _ _ _ _ rm (by omega))).mono ?_
      rintro e w3 ⟨a3, Y, c3, HY, rfl, hm3, hb3⟩
      go_wp2_with fail
      go_ret2
      exact ⟨a3, Y, c3, by rw [Hid, chkB, HK.out, HY.out, HM.out]; rfl, by rw [HK.out]; rfl, hm3.low B2.size, B2.trans (hb3.mono B2.size)⟩
  · have HK : Hid (okB l = false) := by rw [Hid, okB]; simp [h4]
    have g1 : decide ((l.length : Int) < 4) = true := by simp; omega
    have b0 := h0.len_le
    go_enter Try.func42, Try.ntmps42
    go_wp2_with fail
    go_ret2
    exact ⟨none, [], 0, by rw [Hid, chkB, HK.out]; rfl, by rw [HK.out]; rfl, Mine.nil _ _, Below.refl _ _⟩
end Go.Proofs.Ytbglmglgaobjmaa
