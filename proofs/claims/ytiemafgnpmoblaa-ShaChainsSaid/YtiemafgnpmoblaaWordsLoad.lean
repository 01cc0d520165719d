/- words.Load32, Load64, Put32, Put64 and the reference's Load: walked. -/
import Derived.Test.YtiemafgnpmoblaaWordsNum
namespace Go.Proofs.Ytiemafgnpmoblaa
open Go Go.RowKit Go.Cit

theorem load32_calls (w : World) (a0 : Option Addr) (l : List UInt8) (c0 : Nat) (t : Int) (h0 : Row w a0 l c0) :
    Calls Try.prog 82 #[.slice a0 l.length c0, .int .i64 t] w fun e w' => e = .returned (.tuple #[vw (wOfQ (loadB l t 4).1), .bool (loadB l t 4).2]) ∧ w' = w := by
  go_enter Try.func82, Try.ntmps82
  go_wp2_with (go_at_call 61; refine (load_calls _ _ _ _ _ _ 4 rfl (by decide) (by decide) h0).mono ?_; rintro e w' ⟨rfl, rfl⟩)
  go_ret2
  exact ⟨rfl, rfl⟩

theorem load64_calls (w : World) (a0 : Option Addr) (l : List UInt8) (c0 : Nat) (t : Int) (h0 : Row w a0 l c0) :
    Calls Try.prog 32 #[.slice a0 l.length c0, .int .i64 t] w fun e w' => e = .returned (.tuple #[vq (loadB l t 8).1, .bool (loadB l t 8).2]) ∧ w' = w := by
  go_enter Try.func32, Try.ntmps32
  go_wp2_with (go_at_call 61; refine (load_calls _ _ _ _ _ _ 8 rfl (by decide) (by decide) h0).mono ?_; rintro e w' ⟨rfl, rfl⟩)
  go_ret2
  exact ⟨rfl, rfl⟩

theorem put32_calls (w : World) (x : UInt32) :
    Calls Try.prog 53 #[vw x] w fun e w' => ∃ a c, e = .returned (.slice a 4 c) ∧ Own 5 w.heap.size w' a (rowB (qOfW x) 4) c ∧ Below w.heap.size w w' := by
  have hc := row_calls w (qOfW x) 4 (by decide) (by decide)
  go_enter Try.func53, Try.ntmps53
  go_wp2_with (go_at_call 73; refine hc.mono ?_; rintro e w' ⟨a, c, rfl, ho, hb⟩)
  go_ret
  exact ⟨a, c, rfl, ho, hb⟩

theorem put64_calls (w : World) (x : UInt64) :
    Calls Try.prog 59 #[vq x] w fun e w' => ∃ a c, e = .returned (.slice a 8 c) ∧ Own 5 w.heap.size w' a (rowB x 8) c ∧ Below w.heap.size w w' := by
  have hc := row_calls w x 8 (by decide) (by decide)
  go_enter Try.func59, Try.ntmps59
  go_wp2_with (go_at_call 73; refine hc.mono ?_; rintro e w' ⟨a, c, rfl, ho, hb⟩)
  go_ret
  exact ⟨a, c, rfl, ho, hb⟩

set_option maxHeartbeats 1000000 in
theorem refload_calls (w : World) (a0 : Option Addr) (l : List UInt8) (c0 : Nat) (t m : Int) (n : Nat) (hm : m = (n : Int)) (h1 : 1 ≤ n) (h8 : n ≤ 8) (ht : -9223372036854775808 ≤ t ∧ t ≤ 9223372036854775807) (h0 : Row w a0 l c0) :
    Calls Try.prog 74 #[.slice a0 l.length c0, .int .i64 t, .int .i64 m] w fun e w' => e = .returned (.tuple #[vq (loadB l t n).1, .bool (loadB l t n).2]) ∧ w' = w := by
  subst hm
  have b0 := h0.len_le
  by_cases hok : 0 ≤ t ∧ t + n ≤ l.length
  · obtain ⟨k, rfl⟩ := Int.eq_ofNat_of_zero_le hok.1
    obtain ⟨a2, m2, c2, hm2, hrun2, r2⟩ := h0.part bt.slice bt.sz k (k + n) (by omega) (by omega)
    have HV : Hid (numV m2 = (loadB l k n).1 ∧ numOk m2 = (loadB l k n).2) := by
      have e : m2 = (l.drop k).take n := by rw [hm2, List.drop_take]; congr 1; omega
      have hl2 : m2.length = n := by rw [e, List.length_take, List.length_drop]; omega
      rw [Hid, loadB, if_pos (by omega), numV, numOk, if_pos (by omega), e]
      exact ⟨rfl, by simp; omega⟩
    have g1 : decide ((k : Int) < 0) = false := by simp
    have g2 : decide ((l.length : Int) - n < k) = false := by simp; omega
    have g3 : decide (l.length < n) = false := by simp; omega
    rw [show ((k + n : Nat) : Int) = (k : Int) + n by omega] at hrun2
    clear hm2
    go_enter Try.func74, Try.ntmps74
    go_wp2_with (go_at_call 86; refine (refnumber_calls _ _ _ _ r2).mono ?_; rintro e w' ⟨rfl, rfl⟩)
    go_ret2
    exact ⟨ret_qb HV.out.1 HV.out.2, rfl⟩
  · have HV : Hid ((0 : UInt64) = (loadB l t n).1 ∧ false = (loadB l t n).2) := by
      rw [Hid, loadB, if_neg hok]; exact ⟨rfl, rfl⟩
    by_cases hneg : t < 0
    · have g1 : decide (t < 0) = true := by simpa using hneg
      go_enter Try.func74, Try.ntmps74
      go_wp2_with fail
      go_ret2
      exact ⟨ret_qb HV.out.1 HV.out.2, rfl⟩
    · have g1 : decide (t < 0) = false := by simp; omega
      by_cases hl : (l.length : Int) - n < t
      · have g2 : decide ((l.length : Int) - n < t) = true := by simp; omega
        go_enter Try.func74, Try.ntmps74
        go_wp2_with fail
        go_ret2
        exact ⟨ret_qb HV.out.1 HV.out.2, rfl⟩
      · omega
end Go.Proofs.Ytiemafgnpmoblaa
