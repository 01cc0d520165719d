/- ShaTails: the walk of the law. -/
import Derived.Test.YtiemafgnpmoblaaShaAwake
import Derived.Test.YtiemafgnpmoblaaWordsOrd
namespace Go.Proofs.Ytiemafgnpmoblaa
open Go Go.RowKit Go.Cit

theorem tails_out (w : World) (n m : Int) (h : n < 0 ∨ 100000 < n ∨ m < 0 ∨ 100000 < m) :
    Calls Try.prog 7 #[.int .i64 n, .int .i64 m] w fun e w' => e = .returned (.bool true) ∧ Below w.heap.size w w' := by
  have HAW := Lib.hid (shaAwake_calls w)
  by_cases c1 : n < 0
  · have d1 : decide (n < 0) = true := by simpa using c1
    go_enter Try.func7, Try.ntmps7
    go_wp2_with fail
    refine HAW.out.mono ?_
    rintro e w1 ⟨rfl, B⟩
    go_wp2_with fail
    go_ret
    exact ⟨rfl, B⟩
  · have d1 : decide (n < 0) = false := by simpa using c1
    by_cases c2 : 100000 < n
    · have d2 : decide (100000 < n) = true := by simpa using c2
      go_enter Try.func7, Try.ntmps7
      go_wp2_with fail
      refine HAW.out.mono ?_
      rintro e w1 ⟨rfl, B⟩
      go_wp2_with fail
      go_ret
      exact ⟨rfl, B⟩
    · have d2 : decide (100000 < n) = false := by simpa using c2
      by_cases c3 : m < 0
      · have d3 : decide (m < 0) = true := by simpa using c3
        go_enter Try.func7, Try.ntmps7
        go_wp2_with fail
        refine HAW.out.mono ?_
        rintro e w1 ⟨rfl, B⟩
        go_wp2_with fail
        go_ret
        exact ⟨rfl, B⟩
      · have d3 : decide (m < 0) = false := by simpa using c3
        have c4 : 100000 < m := by omega
        have d4 : decide (100000 < m) = true := by simpa using c4
        go_enter Try.func7, Try.ntmps7
        go_wp2_with fail
        refine HAW.out.mono ?_
        rintro e w1 ⟨rfl, B⟩
        go_wp2_with fail
        go_ret
        exact ⟨rfl, B⟩

theorem tail_ge (n : Nat) : tailB n = 128 :: (List.replicate ((tailB n).length - 9) 0 ++ rowB (qMul (qI 8) (qOfI n)) 8) := by
  have h : (tailB n).length = (119 - n % 64) % 64 + 9 := by unfold tailB; simp [rowB_length]
  rw [h, Nat.add_sub_cancel]; rfl
theorem tail_num8 (n : Nat) (hn : n ≤ 100000) : (qMul (qI 8) (qOfI (n : Int))).toNat = 8 * n := by
  have h1 : ((qOfI (8 * (n : Int))).toNat : Int) = (8 * (n : Int)) % 18446744073709551616 := qOfI_nat _
  rw [tail_num] at h1
  omega
theorem tail_last (n : Nat) : loadB (tailB n) (((tailB n).length : Int) - 8) 8 = (qMul (qI 8) (qOfI n), true) := by
  have h1 := (tailB_len n).1
  have hd : (tailB n).drop ((tailB n).length - 8) = rowB (qMul (qI 8) (qOfI n)) 8 := by
    have h := tail_ge n
    generalize (tailB n).length = k at h h1 ⊢
    rw [h, show k - 8 = (k - 9) + 1 by omega, List.drop_succ_cons, List.drop_append_of_le_length (by simp), List.drop_of_length_le (by simp)]
    rfl
  unfold loadB
  rw [if_pos (by omega), show (((tailB n).length : Int) - 8).toNat = (tailB n).length - 8 by omega, hd, List.take_of_length_le (by rw [rowB_length]; exact Nat.le_refl _), numB_rowB _ 8 (by decide) (by have := q_lt (qMul (qI 8) (qOfI (n : Int))); simpa using this)]
theorem tail_zero (n i : Nat) (h1 : 1 ≤ i) (h2 : i + 8 < (tailB n).length) : (tailB n)[i]? = some 0 := by
  have h := tail_ge n
  generalize (tailB n).length = k at h h2
  rw [h]
  obtain ⟨j, rfl⟩ : ∃ j, i = j + 1 := ⟨i - 1, by omega⟩
  rw [List.getElem?_cons_succ, List.getElem?_append_left (by rw [List.length_replicate]; omega), List.getElem?_replicate, if_pos (by omega)]
theorem tail_inj (n m : Nat) (hn : n ≤ 100000) (hm : m ≤ 100000) : (tailB n = tailB m) ↔ n = m := by
  constructor
  · intro h
    have h1 := tail_last n
    rw [h, tail_last m] at h1
    have h2 := congrArg (fun p => p.1.toNat) h1
    simp only [tail_num8 _ hn, tail_num8 _ hm] at h2
    omega
  · rintro rfl; rfl
theorem tail_mod (n : Nat) : (n + (tailB n).length) % 64 = 0 ∧ 1 ≤ (n + (tailB n).length) / 64 - n / 64 ∧ (n + (tailB n).length) / 64 - n / 64 ≤ 2 := by
  have h : (tailB n).length = (119 - n % 64) % 64 + 9 := by unfold tailB; simp [rowB_length]
  have hw := tail_whole n
  refine ⟨hw, ?_⟩
  rw [h]
  omega

set_option maxRecDepth 100000 in
set_option maxHeartbeats 4000000 in
theorem tails_in (w : World) (n m : Nat) (hn : n ≤ 100000) (hm : m ≤ 100000) :
    Calls Try.prog 7 #[.int .i64 n, .int .i64 m] w fun e w' => e = .returned (.bool true) ∧ Below w.heap.size w w' := by
  have HAW := Lib.hid (shaAwake_calls w)
  have d1 : decide ((n : Int) < 0) = false := by simp
  have d2 : decide ((100000 : Int) < (n : Int)) = false := by simp; omega
  have d2' : decide (100000 < n) = false := by simp; omega
  have d3 : decide ((m : Int) < 0) = false := by simp
  have d4 : decide ((100000 : Int) < (m : Int)) = false := by simp; omega
  have d4' : decide (100000 < m) = false := by simp; omega
  go_enter Try.func7, Try.ntmps7
  go_wp2_with fail
  refine HAW.out.mono ?_
  rintro e w1 ⟨rfl, B1⟩
  go_wp2_with fail
  refine (tail_calls w1 n (by omega)).mono ?_
  rintro e w2 ⟨a5, c5, rfl, r5, hb2⟩
  have B2 := B1.trans (hb2.mono B1.size)
  obtain ⟨L, hL⟩ : ∃ L, Hid (L = tailB n) := ⟨_, rfl⟩
  rw [← hL.out] at r5 ⊢
  clear hb2 B1 HAW
  go_wp2_with fail
  refine (tail_calls w2 m (by omega)).mono ?_
  rintro e w3 ⟨a6, c6, rfl, r6, hb3⟩
  have B3 := B2.trans (hb3.mono B2.size)
  have R5 := r5.stay hb3
  obtain ⟨M, hM⟩ : ∃ M, Hid (M = tailB m) := ⟨_, rfl⟩
  rw [← hM.out] at r6 ⊢
  have hl1 : 9 ≤ L.length := by rw [hL.out]; exact (tailB_len n).1
  have hl2 : L.length ≤ 72 := by rw [hL.out]; exact (tailB_len n).2
  have hmod := tail_mod n
  rw [← hL.out] at hmod
  have f1 : (((n : Int) + (L.length : Int)) % 64 != 0) = false := by rw [bne_eq_false_iff_eq]; omega
  have f2 : decide (((n : Int) + (L.length : Int)) / 64 - (n : Int) / 64 < 1) = false := by simp; omega
  have f3 : decide (2 < ((n : Int) + (L.length : Int)) / 64 - (n : Int) / 64) = false := by simp; omega
  have f4 : decide ((L.length : Int) < 9) = false := by simp; omega
  have f4' : decide (L.length < 9) = false := by simp; omega
  have f5 : decide ((72 : Int) < (L.length : Int)) = false := by simp; omega
  have f5' : decide (72 < L.length) = false := by simp; omega
  have i0 : ∀ w, (Instr.indexAt 25 (.slice a5 L.length c5) (.int .i64 0)).run Try.prog w = .ok (.pointer (some (ad a5 0))) w := R5.index bt.slice bt.sz 0 (by omega)
  have e0 : w3.cell? (ad a5 0) = some (.int .u8 128) := by
    have h := R5.cell 0 (by omega)
    have h2 : L[0]'(by omega) = 128 := by simp only [hL.out]; rfl
    rw [h2] at h; exact h
  have HL8 : Hid (loadB L ((L.length : Int) - 8) 8 = (qMul (qI 8) (qOfI n), true)) := by rw [Hid, hL.out]; exact tail_last n
  have HLD := load64_calls w3 a5 L c5 ((L.length : Int) - 8) R5
  rw [HL8.out] at HLD
  have hq8 : ((qMul (qI 8) (qOfI (n : Int))).toNat : Int) = 8 * (n : Int) := by have := tail_num8 n hn; omega
  dsimp only [vq] at HLD
  rw [hq8] at HLD
  have HLDH := Lib.hid HLD
  clear hb3 r5 B2 hmod HLD hq8
  go_wp2_with fail
  refine HLDH.out.mono ?_
  rintro e w4 ⟨rfl, rfl⟩
  have HZ : Hid (∀ i, 1 ≤ i → i + 8 < L.length → w4.cell? (ad a5 i) = some (.int .u8 0)) := fun i h1 h2 => by
    have h := R5.cell i (by omega)
    have h3 : L[i]'(by omega) = 0 := by
      have := tail_zero n i h1 (by rw [← hL.out]; exact h2)
      rw [← hL.out, List.getElem?_eq_getElem (by omega)] at this
      exact Option.some.inj this
    rw [h3] at h; exact h
  have HR5 := Lib.hid R5
  have HR6 := Lib.hid r6
  clear i0 e0 f1 f2 f3 R5 r6 HL8 HLDH
  go_wp2_with fail
  go_loop [10] (fun i => ∃ k : Nat, 1 ≤ k ∧ k + 8 ≤ L.length ∧ i = .int .i64 k) (fun i => L.length - (intOf i).toNat)
  case atStart => exact ⟨1, by omega, by omega, rfl⟩
  case round =>
    obtain ⟨k, hk1, hk, rfl⟩ := hrel
    by_cases hlt : k + 8 < L.length
    · have g1 : decide ((k : Int) < (L.length : Int) - 8) = true := by simp; omega
      have ek := HZ.out k hk1 hlt
      have ik := HR5.out.index bt.slice bt.sz k (by omega)
      go_wp2_with fail
      go_round
      case rel => exact ⟨k + 1, by omega, by omega, by go_num⟩
      case measure => simp [intOf]; omega
    · have g1 : decide ((k : Int) < (L.length : Int) - 8) = false := by simp; omega
      have HSM := Lib.hid (wsame_calls w4 a5 a6 L M c5 c6 HR5.out HR6.out)
      go_wp2_with fail
      refine HSM.out.mono ?_
      rintro e w5 ⟨rfl, rfl⟩
      by_cases hnm : n = m
      · have q1 : (ordB L M == 0) = true := by rw [ordB_beq, hL.out, hM.out, hnm]; simp
        have q2 : ((n : Int) == (m : Int)) = true := by rw [beq_iff_eq]; omega
        rw [q1]
        go_wp2_with fail
        go_ret
        exact ⟨rfl, B3⟩
      · have q1 : (ordB L M == 0) = false := by
          rw [ordB_beq, hL.out, hM.out]; simp only [decide_eq_false_iff_not]; intro h; exact hnm ((tail_inj n m hn hm).1 h)
        have q2 : ((n : Int) == (m : Int)) = false := by rw [beq_eq_false_iff_ne]; omega
        have q3 : (n == m) = false := by rw [beq_eq_false_iff_ne]; exact hnm
        rw [q1]
        go_wp2_with fail
        go_ret
        exact ⟨rfl, B3⟩

theorem shaTails_law (w : World) (n m : Int) (_hn : -9223372036854775808 ≤ n ∧ n ≤ 9223372036854775807) (_hm : -9223372036854775808 ≤ m ∧ m ≤ 9223372036854775807) :
    Calls Try.prog 7 #[.int .i64 n, .int .i64 m] w fun e w' => e = .returned (.bool true) ∧ Below w.heap.size w w' := by
  by_cases h : n < 0 ∨ 100000 < n ∨ m < 0 ∨ 100000 < m
  · exact tails_out w n m h
  · obtain ⟨a, rfl⟩ := Int.eq_ofNat_of_zero_le (show 0 ≤ n by omega)
    obtain ⟨b, rfl⟩ := Int.eq_ofNat_of_zero_le (show 0 ≤ m by omega)
    exact tails_in w a b (by omega) (by omega)
end Go.Proofs.Ytiemafgnpmoblaa
