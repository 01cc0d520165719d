/- schedule.May, the reference's May: walked. -/
import Derived.Test.YtpnbaapjjchlbaaFind
namespace Go.Proofs.Ytpnbaapjjchlbaa
open Go Go.RowKit Go.Cit

def winOk (x : Win) : Bool := decide (1 ≤ x.len.1 ∧ x.len.1 ≤ 64 ∧ 0 ≤ x.part.1 ∧ x.part.1 ≤ 6)
def sumL (l : List Win) : Int := (l.map (·.len.1)).sum
theorem sumL_take (l : List Win) (k : Nat) (h : k < l.length) : sumL (l.take (k + 1)) = sumL (l.take k) + l[k].len.1 := by
  rw [sumL, sumL, List.take_succ_eq_append_getElem h, List.map_append, List.sum_append]; simp
def mayW (l : List Win) : Bool := decide (1 ≤ l.length ∧ l.length ≤ 12) && (l.all winOk && decide (sumL l ≤ 64))
set_option maxRecDepth 100000 in
set_option maxHeartbeats 2000000 in
theorem smay_calls (w : World) (a : Option Addr) (l : List Win) (c : Nat) (h : Vec cWin 2 w a l c) : Calls Try.prog 28 #[.slice a l.length c] w fun e w' => e = .returned (.bool (mayW l)) ∧ Below w.heap.size w w' := by
  obtain ⟨R, HR⟩ : ∃ R, Hid (R = mayW l) := ⟨_, rfl⟩
  rw [← HR.out]
  have hlen := h.len_le
  have HH := Lib.hid h
  clear h
  by_cases h1 : l.length < 1
  · have HF : Hid (R = false) := by rw [Hid, HR.out, mayW, decide_eq_false (by omega)]; rfl
    go_enter Try.func28, Try.ntmps28
    go_wp2_with fail
    go_ret
    exact ⟨ret_bool HF.out.symm, Below.refl _ _⟩
  by_cases h2 : 12 < l.length
  · have HF : Hid (R = false) := by rw [Hid, HR.out, mayW, decide_eq_false (by omega)]; rfl
    go_enter Try.func28, Try.ntmps28
    go_wp2_with fail
    go_ret
    exact ⟨ret_bool HF.out.symm, Below.refl _ _⟩
  have HR : Hid (R = (l.all winOk && decide (sumL l ≤ 64))) := by rw [Hid, HR.out, mayW, decide_eq_true (by omega)]; rfl
  go_enter Try.func28, Try.ntmps28
  go_wp2_with fail
  go_loopw [3, 16] (fun s i wr => ∃ (k : Nat) (m : Int), Hid ((l.take k).all winOk = true) ∧ Hid (m = sumL (l.take k)) ∧ k ≤ l.length ∧ 0 ≤ m ∧ m ≤ 64 * k ∧ s = .int .i64 m ∧ i = .int .i64 k ∧ Below w.heap.size w wr) (fun _ i _ => l.length - (intOf i).toNat)
  case atStart => exact ⟨0, 0, rfl, rfl, by omega, by omega, by omega, rfl, rfl, Below.refl _ _⟩
  case round =>
    obtain ⟨k, m, ha, hm, hk, hm0, hm1, rfl, rfl, B⟩ := hrel
    by_cases hlt : k < l.length
    · have i0 := HH.out.index etW k hlt
      obtain ⟨d0, d1⟩ := win_cells HH.out B k hlt
      have HB : Hid (∀ C, Below w.heap.size w (wr.alloc (.cells C 52))) := fun C => B.alloc B.size _
      obtain ⟨x, hx⟩ : ∃ x, x = l[k].len.1 := ⟨_, rfl⟩
      obtain ⟨y, hy⟩ : ∃ y, y = l[k].part.1 := ⟨_, rfl⟩
      have HW : Hid (winOk l[k] = decide (1 ≤ x ∧ x ≤ 64 ∧ 0 ≤ y ∧ y ≤ 6)) := by rw [hx, hy]; rfl
      have HS : Hid (m + x = sumL (l.take (k + 1))) := by rw [Hid, sumL_take _ _ hlt, hm.out, hx]
      rw [← hx] at d0
      rw [← hy] at d1
      clear hx hy B
      by_cases hq : 1 ≤ x ∧ x ≤ 64 ∧ 0 ≤ y ∧ y ≤ 6
      · obtain ⟨q1, q2, q3, q4⟩ := hq
        have HA : Hid ((l.take (k + 1)).all winOk = true) := by rw [Hid, all_take _ _ _ hlt, ha.out, HW.out, decide_eq_true ⟨q1, q2, q3, q4⟩]; rfl
        go_wp2_with fail
        go_roundw
        case rel => exact ⟨k + 1, m + x, HA.out, HS.out, by omega, by omega, by omega, rfl, by go_num, HB.out _⟩
        case measure => simp [intOf]; omega
      · have HF : Hid (R = false) := by rw [Hid, HR.out, all_not _ _ _ hlt (by rw [HW.out, decide_eq_false hq])]; rfl
        have HQ := Lib.hid hq
        clear hq
        go_wp2_with fail
        all_goals first
          | (go_ret; exact ⟨ret_bool HF.out.symm, HB.out _⟩)
          | (exfalso; have := HQ.out; omega)
    · have hk2 : k = l.length := by omega
      have HA : Hid (l.all winOk = true) := by have := ha.out; rw [hk2, List.take_length] at this; exact this
      have HM : Hid (m = sumL l) := by rw [Hid, hm.out, hk2, List.take_length]
      have HK := Lib.hid hk2
      clear hk2
      go_wp2_with fail
      all_goals
        go_ret
        refine ⟨ret_bool ?_, B⟩
        rw [HR.out, HA.out, ← HM.out, Bool.true_and]
        try simp only [*]

set_option maxRecDepth 100000 in
set_option maxHeartbeats 4000000 in
theorem refsmay_calls (w : World) (a : Option Addr) (l : List Win) (c : Nat) (h : Vec cWin 2 w a l c) : Calls Try.prog 59 #[.slice a l.length c] w fun e w' => e = .returned (.bool (mayW l)) ∧ Below w.heap.size w w' := by
  obtain ⟨R, HR⟩ : ∃ R, Hid (R = mayW l) := ⟨_, rfl⟩
  rw [← HR.out]
  have hlen := h.len_le
  have HH := Lib.hid h
  clear h
  go_enter Try.func59, Try.ntmps59
  go_wp2_with fail
  go_loopw [3, 4] (fun s i wr => ∃ (k : Nat) (m : Int), Hid ((l.take k).all winOk = true) ∧ Hid (m = sumL (l.take k)) ∧ k ≤ l.length ∧ k ≤ 12 ∧ k ≤ m ∧ m ≤ 64 * k ∧ s = .int .i64 m ∧ i = .int .i64 k ∧ wr = w) (fun _ i _ => l.length - (intOf i).toNat)
  case atStart => exact ⟨0, 0, rfl, rfl, by omega, by omega, by omega, by omega, rfl, rfl, rfl⟩
  case round =>
    obtain ⟨k, m, ha, hm, hk, hk12, hm0, hm1, rfl, rfl, hwr⟩ := hrel
    subst hwr
    by_cases hlt : k < l.length
    · have i0 := HH.out.index etW k hlt
      obtain ⟨d0, d1⟩ := win_cells HH.out (Below.refl _ _) k hlt
      obtain ⟨x, hx⟩ : ∃ x, x = l[k].len.1 := ⟨_, rfl⟩
      obtain ⟨y, hy⟩ : ∃ y, y = l[k].part.1 := ⟨_, rfl⟩
      have HW : Hid (winOk l[k] = decide (1 ≤ x ∧ x ≤ 64 ∧ 0 ≤ y ∧ y ≤ 6)) := by rw [hx, hy]; rfl
      have HS : Hid (m + x = sumL (l.take (k + 1))) := by rw [Hid, sumL_take _ _ hlt, hm.out, hx]
      rw [← hx] at d0
      rw [← hy] at d1
      clear hx hy
      by_cases h12 : 12 ≤ k
      · have HF : Hid (R = false) := by rw [Hid, HR.out, mayW, decide_eq_false (by omega)]; rfl
        go_wp2_with fail
        go_ret
        exact ⟨ret_bool HF.out.symm, Below.refl _ _⟩
      by_cases hq : 1 ≤ x ∧ x ≤ 64 ∧ 0 ≤ y ∧ y ≤ 6
      · obtain ⟨q1, q2, q3, q4⟩ := hq
        have HA : Hid ((l.take (k + 1)).all winOk = true) := by rw [Hid, all_take _ _ _ hlt, ha.out, HW.out, decide_eq_true ⟨q1, q2, q3, q4⟩]; rfl
        go_wp2_with fail
        go_roundw
        case rel => exact ⟨k + 1, m + x, HA.out, HS.out, by omega, by omega, by omega, by omega, rfl, by go_num, trivial⟩
        case measure => simp [intOf]; omega
      · have HF : Hid (R = false) := by rw [Hid, HR.out, mayW, all_not _ _ _ hlt (by rw [HW.out, decide_eq_false hq])]; simp
        have HQ := Lib.hid hq
        clear hq
        go_wp2_with fail
        all_goals first
          | (go_ret; exact ⟨ret_bool HF.out.symm, Below.refl _ _⟩)
          | (exfalso; have := HQ.out; omega)
    · have hk2 : k = l.length := by omega
      have HA : Hid (l.all winOk = true) := by have := ha.out; rw [hk2, List.take_length] at this; exact this
      have HM : Hid (m = sumL l) := by rw [Hid, hm.out, hk2, List.take_length]
      have HK := Lib.hid hk2
      clear hk2
      go_wp2_with fail
      all_goals
        go_ret
        refine ⟨ret_bool ?_, Below.refl _ _⟩
        rw [HR.out, mayW, HA.out, ← HM.out, Bool.true_and]
        have := HK.out
        first | (rw [Bool.eq_iff_iff]; simp only [Bool.and_eq_true, decide_eq_true_eq]; omega) | (rw [decide_eq_false (by omega)]; rfl)
end Go.Proofs.Ytpnbaapjjchlbaa
