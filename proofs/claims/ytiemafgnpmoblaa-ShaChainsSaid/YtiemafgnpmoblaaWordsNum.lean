/- words.Number, words.load, Load32, Load64, Put32, Put64 and the reference's Number, Load: walked. -/
import Derived.Test.YtiemafgnpmoblaaWordsRow
namespace Go.Proofs.Ytiemafgnpmoblaa
open Go Go.RowKit Go.Cit

/-- The number of a row, and whether it has one. -/
def numV (l : List UInt8) : UInt64 := if 1 ≤ l.length ∧ l.length ≤ 8 then numB l else 0
def numOk (l : List UInt8) : Bool := decide (1 ≤ l.length ∧ l.length ≤ 8)

theorem ret_qb {a b : UInt64} {s t : Bool} (h : a = b) (k : s = t) : Ending.returned (.tuple #[vq a, .bool s]) = .returned (.tuple #[vq b, .bool t]) := by rw [h, k]
theorem ret_wb {a b : UInt32} {s t : Bool} (h : a = b) (k : s = t) : Ending.returned (.tuple #[vw a, .bool s]) = .returned (.tuple #[vw b, .bool t]) := by rw [h, k]

set_option maxHeartbeats 1000000 in
theorem number_calls (w : World) (a0 : Option Addr) (l : List UInt8) (c0 : Nat) (h0 : Row w a0 l c0) :
    Calls Try.prog 78 #[.slice a0 l.length c0] w fun e w' => e = .returned (.tuple #[vq (numV l), .bool (numOk l)]) ∧ w' = w := by
  have b0 := h0.len_le
  by_cases h1 : l.length < 1
  · have HV : Hid ((0 : UInt64) = numV l ∧ false = numOk l) := ⟨by rw [numV, if_neg (by omega)], by rw [numOk]; simp; omega⟩
    go_enter Try.func78, Try.ntmps78
    go_wp2
    go_ret2
    exact ⟨ret_qb HV.out.1 HV.out.2, rfl⟩
  by_cases h8 : 8 < l.length
  · have HV : Hid ((0 : UInt64) = numV l ∧ false = numOk l) := ⟨by rw [numV, if_neg (by omega)], by rw [numOk]; simp; omega⟩
    go_enter Try.func78, Try.ntmps78
    go_wp2
    go_ret2
    exact ⟨ret_qb HV.out.1 HV.out.2, rfl⟩
  have HV : Hid (numB l = numV l ∧ true = numOk l) := ⟨by rw [numV, if_pos (by omega)], by rw [numOk]; simp; omega⟩
  go_enter Try.func78, Try.ntmps78
  go_wp2
  go_loop [4, 17] (fun s i => ∃ (k : Nat) (d : UInt64), Hid (d = (l.take k).foldl stepF (qI 0)) ∧ k ≤ l.length ∧ i = .int .i64 k ∧ s = vq d) (fun _ i => l.length - (intOf i).toNat)
  case atStart => exact ⟨0, _, rfl, Nat.zero_le _, rfl, rfl⟩
  case round =>
    obtain ⟨k, d, HD, hk, rfl, rfl⟩ := hrel
    by_cases hlt : k < l.length
    · have i0 := h0.index bt.slice bt.sz k hlt
      have e0 := h0.cell k hlt
      go_wp2
      go_round
      case rel => exact ⟨k + 1, stepF d l[k], by rw [Hid, ← take_snoc l k hlt, List.foldl_append, ← HD.out]; rfl, by omega, by go_num, rfl⟩
      case measure => simp [intOf]; omega
    · have hk2 : k = l.length := by omega
      have HD2 : Hid (d = numB l) := by rw [Hid, HD.out, hk2, List.take_length]; rfl
      clear HD hk2
      go_wp2
      go_ret2
      exact ⟨ret_qb (HD2.out.trans HV.out.1) HV.out.2, rfl⟩

set_option maxHeartbeats 1000000 in
theorem refnumber_calls (w : World) (a0 : Option Addr) (l : List UInt8) (c0 : Nat) (h0 : Row w a0 l c0) :
    Calls Try.prog 86 #[.slice a0 l.length c0] w fun e w' => e = .returned (.tuple #[vq (numV l), .bool (numOk l)]) ∧ w' = w := by
  have b0 := h0.len_le
  by_cases h1 : l.length = 0
  · have HV : Hid ((0 : UInt64) = numV l ∧ false = numOk l) := ⟨by rw [numV, if_neg (by omega)], by rw [numOk]; simp; omega⟩
    have t1 : ((l.length : Int) == 0) = true := by simp; exact List.eq_nil_of_length_eq_zero h1
    clear h1
    go_enter Try.func86, Try.ntmps86
    go_wp2
    go_ret2
    exact ⟨ret_qb HV.out.1 HV.out.2, rfl⟩
  have t1 : ((l.length : Int) == 0) = false := by simp; intro h; simp [h] at h1
  by_cases h8 : 8 < l.length
  · have HV : Hid ((0 : UInt64) = numV l ∧ false = numOk l) := ⟨by rw [numV, if_neg (by omega)], by rw [numOk]; simp; omega⟩
    go_enter Try.func86, Try.ntmps86
    go_wp2
    go_ret2
    exact ⟨ret_qb HV.out.1 HV.out.2, rfl⟩
  have HV : Hid ((numR l).1 = numV l ∧ true = numOk l) := ⟨by rw [numV, if_pos (by omega), numR_eq], by rw [numOk]; simp; omega⟩
  have h1' : 1 ≤ l.length := by omega
  clear h1
  go_enter Try.func86, Try.ntmps86
  go_wp2
  go_loop [4, 5, 6] (fun s u i => ∃ (k : Nat) (p : UInt64 × UInt64), Hid (p = (l.reverse.take k).foldl numStep (qI 0, qI 1)) ∧ k ≤ l.length ∧ i = .int .i64 ((l.length : Int) - 1 - k) ∧ s = vq p.1 ∧ u = vq p.2) (fun _ _ i => (intOf i + 1).toNat)
  case atStart => exact ⟨0, _, rfl, Nat.zero_le _, by go_num, rfl, rfl⟩
  case round =>
    obtain ⟨k, ⟨d, u⟩, HD, hk, rfl, rfl, rfl⟩ := hrel
    by_cases hlt : k < l.length
    · have hi : l.length - 1 - k < l.length := by omega
      have i0 := h0.index bt.slice bt.sz (l.length - 1 - k) hi
      have e0 := h0.cell (l.length - 1 - k) hi
      have ei : ((l.length : Int) - 1 - k) = ((l.length - 1 - k : Nat) : Int) := by omega
      rw [← ei] at i0
      clear ei
      obtain ⟨b, hb⟩ : ∃ b, l[l.length - 1 - k] = b := ⟨_, rfl⟩
      rw [hb] at e0
      have HB : Hid ((l.reverse.take (k + 1)).foldl numStep (qI 0, qI 1) = numStep (d, u) b) := by
        have hr : k < l.reverse.length := by simpa using hlt
        rw [Hid, ← take_snoc l.reverse k hr, List.foldl_append, ← HD.out, List.getElem_reverse, ← hb]; rfl
      clear hb
      go_wp2
      go_round
      case rel => exact ⟨k + 1, numStep (d, u) b, by rw [Hid, HB.out], by omega, by go_num, rfl, rfl⟩
      case measure => simp [intOf]; omega
    · have hk2 : k = l.length := by omega
      have HD2 : Hid (d = (numR l).1) := by
        have := HD.out
        rw [hk2, List.take_of_length_le (by simp)] at this
        rw [Hid, numR, ← this]
      clear HD
      go_wp2
      go_ret2
      exact ⟨ret_qb (HD2.out.trans HV.out.1) HV.out.2, rfl⟩

/-- The number of n bytes that begins at a place. -/
def loadB (l : List UInt8) (at_ : Int) (n : Nat) : UInt64 × Bool :=
  if 0 ≤ at_ ∧ at_ + n ≤ l.length then (numB ((l.drop at_.toNat).take n), true) else (0, false)

set_option maxHeartbeats 1000000 in
theorem load_calls (w : World) (a0 : Option Addr) (l : List UInt8) (c0 : Nat) (t m : Int) (n : Nat) (hm : m = (n : Int)) (h1 : 1 ≤ n) (h8 : n ≤ 8) (h0 : Row w a0 l c0) :
    Calls Try.prog 61 #[.slice a0 l.length c0, .int .i64 t, .int .i64 m] w fun e w' => e = .returned (.tuple #[vq (loadB l t n).1, .bool (loadB l t n).2]) ∧ w' = w := by
  subst hm
  have b0 := h0.len_le
  by_cases ht : 0 ≤ t ∧ t ≤ l.length
  · obtain ⟨k, rfl⟩ := Int.eq_ofNat_of_zero_le ht.1
    have hk : k ≤ l.length := by omega
    obtain ⟨a1, m1, c1, hm1, hrun, r1⟩ := h0.from_ bt.slice bt.sz k hk
    have hl1 : m1.length = l.length - k := by rw [hm1, List.length_drop]
    have HM := Lib.hid hm1
    have g1 : decide ((k : Int) < 0) = false := by simp
    have g2 : decide (l.length < k) = false := by simpa using hk
    by_cases hn : k + n ≤ l.length
    · obtain ⟨a2, m2, c2, hm2, hrun2, r2⟩ := r1.upto bt.slice bt.sz n (by omega)
      have HV : Hid (numV m2 = (loadB l k n).1 ∧ numOk m2 = (loadB l k n).2) := by
        have hl2 : m2.length = n := by rw [hm2, List.length_take]; omega
        rw [Hid, loadB, if_pos (by omega), numV, numOk, if_pos (by omega), hm2, hm1]
        exact ⟨rfl, by simp; omega⟩
      have g3 : decide (m1.length < n) = false := by simp; omega
      have b1 := r1.len_le
      clear hm1 hm2 hl1 hk ht
      go_enter Try.func61, Try.ntmps61
      go_wp2_with (go_at_call 78; refine (number_calls _ _ _ _ r2).mono ?_; rintro e w' ⟨rfl, rfl⟩)
      go_ret2
      exact ⟨ret_qb HV.out.1 HV.out.2, rfl⟩
    · have HV : Hid ((0 : UInt64) = (loadB l k n).1 ∧ false = (loadB l k n).2) := by
        rw [Hid, loadB, if_neg (by omega)]; exact ⟨rfl, rfl⟩
      have g3 : decide (m1.length < n) = true := by simp; omega
      have b1 := r1.len_le
      clear hm1 hl1 hk ht hn
      go_enter Try.func61, Try.ntmps61
      go_wp2_with fail
      go_ret2
      exact ⟨ret_qb HV.out.1 HV.out.2, rfl⟩
  · have HV : Hid ((0 : UInt64) = (loadB l t n).1 ∧ false = (loadB l t n).2) := by
      rw [Hid, loadB, if_neg (by omega)]; exact ⟨rfl, rfl⟩
    by_cases hneg : t < 0
    · have g1 : decide (t < 0) = true := by simpa using hneg
      go_enter Try.func61, Try.ntmps61
      go_wp2_with fail
      go_ret2
      exact ⟨ret_qb HV.out.1 HV.out.2, rfl⟩
    · have g1 : decide (t < 0) = false := by simp; omega
      have g2 : decide ((l.length : Int) < t) = true := by simp; omega
      go_enter Try.func61, Try.ntmps61
      go_wp2_with fail
      go_ret2
      exact ⟨ret_qb HV.out.1 HV.out.2, rfl⟩
end Go.Proofs.Ytiemafgnpmoblaa
