/- WordsCounts: rows of one length come in the order of their numbers; of any two rows one comes ahead, or they are the same; it goes on from one to the next. The walk of the law. -/
import Derived.Test.YtbglmglgaobjmaaLawWordsBoth
namespace Go.Proofs.Ytbglmglgaobjmaa
open Go Go.RowKit Go.Cit

set_option maxHeartbeats 8000000 in
theorem wordsCounts_law (w : World) (x y : UInt64) (n : Int) (a0 : Option Addr) (l : List UInt8) (c0 : Nat) (a1 : Option Addr) (m : List UInt8) (c1 : Nat) (a2 : Option Addr) (p : List UInt8) (c2 : Nat)
    (_hn : -9223372036854775808 ≤ n ∧ n ≤ 9223372036854775807) (h0 : Row w a0 l c0) (h1 : Row w a1 m c1) (h2 : Row w a2 p c2) :
    Calls Try.prog 17 #[vq x, vq y, .int .i64 n, .slice a0 l.length c0, .slice a1 m.length c1, .slice a2 p.length c2] w fun e w' => e = .returned (.bool true) ∧ Below w.heap.size w w' := by
  by_cases hn1 : n < 1 ∨ 8 < n ∨ 100 < l.length ∨ 100 < m.length ∨ 100 < p.length
  · have hcs : n < 1 ∨ (¬ n < 1 ∧ 8 < n) ∨ (¬ n < 1 ∧ ¬ 8 < n ∧ 100 < l.length) ∨ (¬ n < 1 ∧ ¬ 8 < n ∧ ¬ 100 < l.length ∧ 100 < m.length) ∨ (¬ n < 1 ∧ ¬ 8 < n ∧ ¬ 100 < l.length ∧ ¬ 100 < m.length ∧ 100 < p.length) := by omega
    clear hn1
    rcases hcs with g1 | ⟨g1, g2⟩ | ⟨g1, g2, g3⟩ | ⟨g1, g2, g3, g4⟩ | ⟨g1, g2, g3, g4, g5⟩
    all_goals
      go_enter Try.func17, Try.ntmps17
      go_wp2_with fail
      refine (wordsAwake_calls _).mono ?_
      rintro e w1 ⟨rfl, hb1⟩
      go_wp2_with fail
      go_ret
      exact ⟨rfl, hb1⟩
  obtain ⟨k, rfl, hk1, hk8⟩ : ∃ k : Nat, n = k ∧ 1 ≤ k ∧ k ≤ 8 := ⟨n.toNat, by omega, by omega, by omega⟩
  have g1 : decide ((k : Int) < 1) = false := by simp; omega
  have g2 : decide (8 < (k : Int)) = false := by simp; omega
  have g3 : decide (100 < (l.length : Int)) = false := by simp; omega
  have g4 : decide (100 < (m.length : Int)) = false := by simp; omega
  have g5 : decide (100 < (p.length : Int)) = false := by simp; omega
  clear hn1 _hn
  obtain ⟨b1, hb1⟩ : ∃ b1, decide (ordB (rowB x k) (rowB y k) < 0) = b1 := ⟨_, rfl⟩
  obtain ⟨b2, hb2⟩ : ∃ b2, (ordB (rowB x k) (rowB y k) == 0) = b2 := ⟨_, rfl⟩
  obtain ⟨u, hu⟩ : ∃ u, numV (rowB x k) = u := ⟨_, rfl⟩
  obtain ⟨v, hv⟩ : ∃ v, numV (rowB y k) = v := ⟨_, rfl⟩
  have hok1 : numOk (rowB x k) = true := by rw [numOk, rowB_length]; simp; omega
  have hok2 : numOk (rowB y k) = true := by rw [numOk, rowB_length]; simp; omega
  have hu2 : u.toNat = numN (rowB x k) := by
    rw [← hu, numV, rowB_length, if_pos ⟨hk1, hk8⟩, numB_toNat _ (by rw [rowB_length]; exact hk8)]
  have hv2 : v.toNat = numN (rowB y k) := by
    rw [← hv, numV, rowB_length, if_pos ⟨hk1, hk8⟩, numB_toNat _ (by rw [rowB_length]; exact hk8)]
  have ho := ordB_num (rowB x k) (rowB y k) (by rw [rowB_length, rowB_length])
  rw [← hu2, ← hv2] at ho
  have d1 : decide ((u.toNat : Int) < (v.toNat : Int)) = b1 := by
    rw [← hb1, ho]
    by_cases hlt : u.toNat < v.toNat
    · rw [if_pos hlt]; simp; omega
    · rw [if_neg hlt]; split <;> simp <;> omega
  have d1' : decide (u.toNat < v.toNat) = b1 := by rw [← d1]; simp
  have d2 : (u == v) = b2 := by
    rw [← hb2, ho]
    by_cases hlt : u.toNat < v.toNat
    · rw [if_pos hlt]
      have hne : u ≠ v := fun e => by rw [e] at hlt; omega
      simpa using hne
    · rw [if_neg hlt]
      by_cases hgt : v.toNat < u.toNat
      · rw [if_pos hgt]
        have hne : u ≠ v := fun e => by rw [e] at hgt; omega
        simpa using hne
      · rw [if_neg hgt]
        have he : u = v := UInt64.toNat_inj.1 (by omega)
        simpa using he
  have HX := Lib.hid (And.intro hb1 hb2)
  have HN := Lib.hid (And.intro (And.intro hu hok1) (And.intro hv hok2))
  clear hb1 hb2 hu hv hok1 hok2 hu2 hv2 ho
  -- the order of the rows that came in
  have hab : (ordB l m = -1 ∧ ordB m l = 1) ∨ (ordB l m = 0 ∧ ordB m l = 0) ∨ (ordB l m = 1 ∧ ordB m l = -1) := by
    have h := ordB_neg l m
    rcases ordB_vals l m with e | e | e <;> rw [e] at h <;> simp [e, h]
  have hcs : ∃ r1 r2 r3 r4 r5 : Bool, Hid (decide (ordB l m < 0) = r1 ∧ decide (ordB m l < 0) = r2 ∧ (ordB l m == 0) = r3 ∧ decide (ordB m p < 0) = r4 ∧ decide (ordB l p < 0) = r5) ∧
      ((r1 = true ∧ r2 = false ∧ r3 = false ∧ r4 = true ∧ r5 = true) ∨ (r1 = true ∧ r2 = false ∧ r3 = false ∧ r4 = false) ∨ (r1 = false ∧ r2 = false ∧ r3 = true) ∨ (r1 = false ∧ r2 = true ∧ r3 = false)) := by
    refine ⟨_, _, _, _, _, ⟨rfl, rfl, rfl, rfl, rfl⟩, ?_⟩
    rcases hab with ⟨e1, e2⟩ | ⟨e1, e2⟩ | ⟨e1, e2⟩
    · by_cases h3 : ordB m p < 0
      · have := ordB_trans l m p (by rw [e1]; decide) h3
        simp [e1, e2, h3, this]
      · simp [e1, e2, h3]
    · simp [e1, e2]
    · simp [e1, e2]
  obtain ⟨r1, r2, r3, r4, r5, HR, hcs⟩ := hcs
  clear hab
  rcases hcs with ⟨rfl, rfl, rfl, rfl, rfl⟩ | ⟨rfl, rfl, rfl, rfl⟩ | ⟨rfl, rfl, rfl⟩ | ⟨rfl, rfl, rfl⟩
  all_goals
    go_enter Try.func17, Try.ntmps17
    go_wp2_with fail
    refine (wordsAwake_calls _).mono ?_
    rintro e w1 ⟨rfl, hb1⟩
    have q0 := h0.stay hb1
    have q1 := h1.stay hb1
    have q2 := h2.stay hb1
    go_wp2_with fail
    refine (rowI_calls w1 x _ k rfl hk1 hk8).mono ?_
    rintro e w2 ⟨a3, X, c3, HX3, rfl, r2, hb2⟩
    go_wp2_with fail
    refine (rowI_calls w2 y _ k rfl hk1 hk8).mono ?_
    rintro e w3 ⟨a4, Y, c4, HY4, rfl, r3, hb3⟩
    replace r2 := r2.stay hb3
    have B3 : Below w1.heap.size w1 w3 := hb2.trans (hb3.mono hb2.size)
    replace q0 := q0.stay B3
    replace q1 := q1.stay B3
    replace q2 := q2.stay B3
    have B := hb1.trans (B3.mono hb1.size)
    clear hb2 hb3 B3 hb1
    have HN2 := HN
    rw [← HX3.out, ← HY4.out] at HN2
    have HX2 := HX
    rw [← HX3.out, ← HY4.out] at HX2
    go_wp2_with fail
    refine (numI_calls _ _ _ _ r2 u true HN2.out.1.1 HN2.out.1.2).mono ?_
    rintro e w4 ⟨rfl, rfl⟩
    go_wp2_with fail
    refine (numI_calls _ _ _ _ r3 v true HN2.out.2.1 HN2.out.2.2).mono ?_
    rintro e w4 ⟨rfl, rfl⟩
    go_wp2_with fail
    refine (waw_ahead _ _ _ _ _ _ _ r2 r3 b1 HX2.out.1).mono ?_
    rintro e w4 ⟨rfl, rfl⟩
    go_wp2_with fail
    refine (waw_same _ _ _ _ _ _ _ r2 r3 b2 HX2.out.2).mono ?_
    rintro e w4 ⟨rfl, rfl⟩
    go_wp2_with fail
    refine (waw_ahead _ _ _ _ _ _ _ q0 q1 _ HR.out.1).mono ?_
    rintro e w4 ⟨rfl, rfl⟩
    go_wp2_with fail
    refine (waw_ahead _ _ _ _ _ _ _ q1 q0 _ HR.out.2.1).mono ?_
    rintro e w4 ⟨rfl, rfl⟩
    go_wp2_with fail
    refine (waw_same _ _ _ _ _ _ _ q0 q1 _ HR.out.2.2.1).mono ?_
    rintro e w4 ⟨rfl, rfl⟩
    go_wp2_with fail
  · refine (waw_ahead _ _ _ _ _ _ _ q1 q2 _ HR.out.2.2.2.1).mono ?_
    rintro e w4 ⟨rfl, rfl⟩
    go_wp2_with fail
    refine (waw_ahead _ _ _ _ _ _ _ q0 q2 _ HR.out.2.2.2.2).mono ?_
    rintro e w4 ⟨rfl, rfl⟩
    go_wp2_with fail
    go_ret
    exact ⟨rfl, B⟩
  · refine (waw_ahead _ _ _ _ _ _ _ q1 q2 _ HR.out.2.2.2.1).mono ?_
    rintro e w4 ⟨rfl, rfl⟩
    go_wp2_with fail
    go_ret
    exact ⟨rfl, B⟩
  · go_ret
    exact ⟨rfl, B⟩
  · go_ret
    exact ⟨rfl, B⟩
end Go.Proofs.Ytbglmglgaobjmaa
