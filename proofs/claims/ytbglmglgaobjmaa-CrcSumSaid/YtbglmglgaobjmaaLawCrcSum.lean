/- CrcSum: any bytes have the sum that the chapter says. The walk of the law. -/
import Derived.Test.YtbglmglgaobjmaaProg
import Derived.Test.YtbglmglgaobjmaaRefOrder
import Derived.Test.YtbglmglgaobjmaaRefCrc
import Derived.Test.YtbglmglgaobjmaaCrcTab
import Derived.Test.YtbglmglgaobjmaaCrcLaw
namespace Go.Proofs.Ytbglmglgaobjmaa
open Go Go.RowKit Go.Cit

set_option maxHeartbeats 1000000 in
theorem crcSum_law (w : World) (c : UInt32) (a0 : Option Addr) (l : List UInt8) (c0 : Nat) (h0 : Row w a0 l c0) :
    Calls Try.prog 3 #[vw c, .slice a0 l.length c0] w fun e w' => e = .returned (.bool true) ∧ Below w.heap.size w w' := by
  by_cases hl : l.length ≤ 5000
  · have HL := Lib.hid h0
    have t1 : (addP 0 l == addR 0 l) = true := by rw [addP_eq]; exact beq_self_eq_true _
    have t2 : (addP c l == addR c l) = true := by rw [addP_eq]; exact beq_self_eq_true _
    have t3 : (ordB l l == 0) = true := by rw [ordB_beq]; simp
    go_enter Try.func3, Try.ntmps3
    go_wp2_with fail
    refine (copy_calls _ _ _ _ h0 (by omega)).mono ?_
    rintro e w1 ⟨a1, c1, rfl, ho1, hb1⟩
    have r1 := ho1.isRow
    have q1 := h0.stay hb1
    go_wp2_with fail
    refine (sum_calls _ _ _ _ r1).mono ?_
    rintro e w2 ⟨rfl, hb2⟩
    have r2 := r1.stay hb2
    have q2 := q1.stay hb2
    go_wp2_with fail
    refine (refsum_calls _ _ _ _ q2).mono ?_
    rintro e w3 ⟨rfl, rfl⟩
    go_wp2_with fail
    refine (add_calls _ _ _ _ _ r2).mono ?_
    rintro e w4 ⟨rfl, hb4⟩
    have r4 := r2.stay hb4
    have q4 := q2.stay hb4
    go_wp2_with fail
    refine (refadd_calls _ _ _ _ _ q4).mono ?_
    rintro e w5 ⟨rfl, rfl⟩
    go_wp2_with fail
    refine (same_calls _ _ _ _ _ _ _ r4 q4).mono ?_
    rintro e w6 ⟨rfl, hd⟩
    go_wp2_with fail
    go_ret
    exact ⟨rfl, ((hb1.trans (hb2.mono hb1.size)).trans (hb4.mono (Nat.le_trans hb1.size hb2.size))).trans (hd.below _)⟩
  · go_enter Try.func3, Try.ntmps3
    go_wp2_with fail
    go_ret
    exact ⟨rfl, Below.refl _ _⟩
end Go.Proofs.Ytbglmglgaobjmaa
