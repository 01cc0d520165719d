/- WordsBoth: a number that is less than 256 to the n-th is that of its row; a row of 1 to 8 bytes is that of its number. The walk of the law. -/
import Derived.Test.YtbglmglgaobjmaaWordsAwake
namespace Go.Proofs.Ytbglmglgaobjmaa
open Go Go.RowKit Go.Cit

theorem rowI_calls (w : World) (x : UInt64) (n : Int) (k : Nat) (hn : n = (k : Int)) (h1 : 1 ≤ k) (h8 : k ≤ 8) :
    Calls Try.prog 24 #[vq x, .int .i64 n] w fun e w' => ∃ a X c, Hid (X = rowB x k) ∧ e = .returned (.slice a X.length c) ∧ Row w' a X c ∧ Below w.heap.size w w' := by
  subst hn
  refine (row_calls w x k h1 h8).mono ?_
  rintro e w' ⟨a, c, rfl, ho, hb⟩
  exact ⟨a, rowB x k, c, rfl, by rw [rowB_length], ho.isRow, hb⟩
theorem numI_calls (w : World) (a : Option Addr) (l : List UInt8) (c : Nat) (h : Row w a l c) (y : UInt64) (b : Bool) (h1 : numV l = y) (h2 : numOk l = b) :
    Calls Try.prog 26 #[.slice a l.length c] w fun e w' => e = .returned (.tuple #[vq y, .bool b]) ∧ w' = w := by
  subst h1 h2; exact number_calls w a l c h
theorem numV_row (x : UInt64) (k : Nat) (h1 : 1 ≤ k) (h8 : k ≤ 8) (hx : x.toNat < 256 ^ k) : numV (rowB x k) = x ∧ numOk (rowB x k) = true := by
  rw [numV, numOk, rowB_length, if_pos ⟨h1, h8⟩, numB_rowB x k h8 hx]
  exact ⟨rfl, by simp; omega⟩
theorem qMod_lt (x : UInt64) (m : Nat) (h0 : 0 < m) (hm : m < 18446744073709551616) : (qMod x (qI m)).toNat < m := by
  have := qI_nat (m : Int) (by omega) (by omega)
  unfold qMod
  rw [UInt64.toNat_mod]
  have e : (qI (m : Int)).toNat = m := by omega
  rw [e]; exact Nat.mod_lt _ h0

set_option maxHeartbeats 8000000 in
theorem wordsBoth_law (w : World) (x : UInt64) (n : Int) (a0 : Option Addr) (l : List UInt8) (c0 : Nat) (_hn : -9223372036854775808 ≤ n ∧ n ≤ 9223372036854775807) (h0 : Row w a0 l c0) :
    Calls Try.prog 16 #[vq x, .int .i64 n, .slice a0 l.length c0] w fun e w' => e = .returned (.bool true) ∧ Below w.heap.size w w' := by
  by_cases hn1 : n < 1
  · go_enter Try.func16, Try.ntmps16
    go_wp2_with fail
    refine (wordsAwake_calls _).mono ?_
    rintro e w1 ⟨rfl, hb1⟩
    go_wp2_with fail
    go_ret
    exact ⟨rfl, hb1⟩
  by_cases hn8 : 8 < n
  · go_enter Try.func16, Try.ntmps16
    go_wp2_with fail
    refine (wordsAwake_calls _).mono ?_
    rintro e w1 ⟨rfl, hb1⟩
    go_wp2_with fail
    go_ret
    exact ⟨rfl, hb1⟩
  by_cases hl8 : 8 < l.length
  · go_enter Try.func16, Try.ntmps16
    go_wp2_with fail
    refine (wordsAwake_calls _).mono ?_
    rintro e w1 ⟨rfl, hb1⟩
    go_wp2_with fail
    go_ret
    exact ⟨rfl, hb1⟩
  have hl8' : l.length ≤ 8 := by omega
  have hk : n = 1 ∨ n = 2 ∨ n = 3 ∨ n = 4 ∨ n = 5 ∨ n = 6 ∨ n = 7 ∨ n = 8 := by omega
  clear hn1 hn8 _hn
  rcases hk with rfl | rfl | rfl | rfl | rfl | rfl | rfl | rfl
  · have HY : (qMod x (qI 256)).toNat < 256 ^ 1 := qMod_lt x 256 (by decide) (by decide)
    go_enter Try.func16, Try.ntmps16
    go_wp2_with fail
    refine (wordsAwake_calls _).mono ?_
    rintro e w1 ⟨rfl, hb1⟩
    have r1 := h0.stay hb1
    go_wp2_with fail
    generalize qMod x (qI 256) = y at HY ⊢
    refine (rowI_calls w1 y _ 1 (by rfl) (by decide) (by decide)).mono ?_
    rintro e w2 ⟨a2, X, c2, HX, rfl, r2, hb2⟩
    have hX1 : X.length = 1 := by rw [HX.out, rowB_length]
    have r3 := r1.stay hb2
    have B2 : Below w.heap.size w w2 := hb1.trans (hb2.mono hb1.size)
    have hnv := numV_row y 1 (by decide) (by decide) HY
    rw [← HX.out] at hnv
    have HNV := Lib.hid hnv
    have HXL := Lib.hid hX1
    have t1 : ((X.length : Int) != 1) = false := by rw [hX1]; rfl
    clear hnv hX1 HY
    go_wp2_with fail
    refine (numI_calls _ _ _ _ r2 y true HNV.out.1 HNV.out.2).mono ?_
    rintro e w3 ⟨rfl, rfl⟩
    go_wp2_with fail
    rcases Nat.eq_zero_or_pos l.length with hl0 | hl0
    · have hn0 : numOk l = false := by simp [numOk, hl0]
      have t2 : decide (0 < l.length) = false := by simp [hl0]
      clear hl0 hl8
      refine (numI_calls _ _ _ _ r3 (numV l) false rfl hn0).mono ?_
      rintro e w3 ⟨rfl, rfl⟩
      clear hn0
      go_wp2_with fail
      go_ret
      exact ⟨rfl, B2⟩
    · have hn0 : numOk l = true := by simp [numOk]; omega
      have HL : Hid (rowB (numV l) l.length = l) := by
        rw [Hid, numV, if_pos ⟨hl0, hl8'⟩]; exact rowB_numB l hl8'
      have t2 : decide (0 < l.length) = true := by simpa using hl0
      obtain ⟨z, hz⟩ : ∃ z, numV l = z := ⟨_, rfl⟩
      rw [hz] at HL
      refine (numI_calls _ _ _ _ r3 z true hz hn0).mono ?_
      rintro e w3 ⟨rfl, rfl⟩
      clear hn0 hz hl8
      go_wp2_with fail
      refine (rowI_calls _ z _ l.length rfl hl0 hl8').mono ?_
      rintro e w4 ⟨a4, Z, c4, HZ, rfl, r4, hb4⟩
      have hs0 : (ordB Z l == 0) = true := by rw [HZ.out, HL.out, ordB_self]
      go_wp2_with fail
      refine (waw_same _ _ _ _ _ _ _ r4 (r3.stay hb4) true hs0).mono ?_
      rintro e w5 ⟨rfl, rfl⟩
      clear hs0
      go_wp2_with fail
      go_ret
      exact ⟨rfl, B2.trans (hb4.mono B2.size)⟩
  · have HY : (qMod x (qI 65536)).toNat < 256 ^ 2 := qMod_lt x 65536 (by decide) (by decide)
    go_enter Try.func16, Try.ntmps16
    go_wp2_with fail
    refine (wordsAwake_calls _).mono ?_
    rintro e w1 ⟨rfl, hb1⟩
    have r1 := h0.stay hb1
    go_wp2_with fail
    generalize qMod x (qI 65536) = y at HY ⊢
    refine (rowI_calls w1 y _ 2 (by rfl) (by decide) (by decide)).mono ?_
    rintro e w2 ⟨a2, X, c2, HX, rfl, r2, hb2⟩
    have hX1 : X.length = 2 := by rw [HX.out, rowB_length]
    have r3 := r1.stay hb2
    have B2 : Below w.heap.size w w2 := hb1.trans (hb2.mono hb1.size)
    have hnv := numV_row y 2 (by decide) (by decide) HY
    rw [← HX.out] at hnv
    have HNV := Lib.hid hnv
    have HXL := Lib.hid hX1
    have t1 : ((X.length : Int) != 2) = false := by rw [hX1]; rfl
    clear hnv hX1 HY
    go_wp2_with fail
    refine (numI_calls _ _ _ _ r2 y true HNV.out.1 HNV.out.2).mono ?_
    rintro e w3 ⟨rfl, rfl⟩
    go_wp2_with fail
    rcases Nat.eq_zero_or_pos l.length with hl0 | hl0
    · have hn0 : numOk l = false := by simp [numOk, hl0]
      have t2 : decide (0 < l.length) = false := by simp [hl0]
      clear hl0 hl8
      refine (numI_calls _ _ _ _ r3 (numV l) false rfl hn0).mono ?_
      rintro e w3 ⟨rfl, rfl⟩
      clear hn0
      go_wp2_with fail
      go_ret
      exact ⟨rfl, B2⟩
    · have hn0 : numOk l = true := by simp [numOk]; omega
      have HL : Hid (rowB (numV l) l.length = l) := by
        rw [Hid, numV, if_pos ⟨hl0, hl8'⟩]; exact rowB_numB l hl8'
      have t2 : decide (0 < l.length) = true := by simpa using hl0
      obtain ⟨z, hz⟩ : ∃ z, numV l = z := ⟨_, rfl⟩
      rw [hz] at HL
      refine (numI_calls _ _ _ _ r3 z true hz hn0).mono ?_
      rintro e w3 ⟨rfl, rfl⟩
      clear hn0 hz hl8
      go_wp2_with fail
      refine (rowI_calls _ z _ l.length rfl hl0 hl8').mono ?_
      rintro e w4 ⟨a4, Z, c4, HZ, rfl, r4, hb4⟩
      have hs0 : (ordB Z l == 0) = true := by rw [HZ.out, HL.out, ordB_self]
      go_wp2_with fail
      refine (waw_same _ _ _ _ _ _ _ r4 (r3.stay hb4) true hs0).mono ?_
      rintro e w5 ⟨rfl, rfl⟩
      clear hs0
      go_wp2_with fail
      go_ret
      exact ⟨rfl, B2.trans (hb4.mono B2.size)⟩
  · have HY : (qMod x (qI 16777216)).toNat < 256 ^ 3 := qMod_lt x 16777216 (by decide) (by decide)
    go_enter Try.func16, Try.ntmps16
    go_wp2_with fail
    refine (wordsAwake_calls _).mono ?_
    rintro e w1 ⟨rfl, hb1⟩
    have r1 := h0.stay hb1
    go_wp2_with fail
    generalize qMod x (qI 16777216) = y at HY ⊢
    refine (rowI_calls w1 y _ 3 (by rfl) (by decide) (by decide)).mono ?_
    rintro e w2 ⟨a2, X, c2, HX, rfl, r2, hb2⟩
    have hX1 : X.length = 3 := by rw [HX.out, rowB_length]
    have r3 := r1.stay hb2
    have B2 : Below w.heap.size w w2 := hb1.trans (hb2.mono hb1.size)
    have hnv := numV_row y 3 (by decide) (by decide) HY
    rw [← HX.out] at hnv
    have HNV := Lib.hid hnv
    have HXL := Lib.hid hX1
    have t1 : ((X.length : Int) != 3) = false := by rw [hX1]; rfl
    clear hnv hX1 HY
    go_wp2_with fail
    refine (numI_calls _ _ _ _ r2 y true HNV.out.1 HNV.out.2).mono ?_
    rintro e w3 ⟨rfl, rfl⟩
    go_wp2_with fail
    rcases Nat.eq_zero_or_pos l.length with hl0 | hl0
    · have hn0 : numOk l = false := by simp [numOk, hl0]
      have t2 : decide (0 < l.length) = false := by simp [hl0]
      clear hl0 hl8
      refine (numI_calls _ _ _ _ r3 (numV l) false rfl hn0).mono ?_
      rintro e w3 ⟨rfl, rfl⟩
      clear hn0
      go_wp2_with fail
      go_ret
      exact ⟨rfl, B2⟩
    · have hn0 : numOk l = true := by simp [numOk]; omega
      have HL : Hid (rowB (numV l) l.length = l) := by
        rw [Hid, numV, if_pos ⟨hl0, hl8'⟩]; exact rowB_numB l hl8'
      have t2 : decide (0 < l.length) = true := by simpa using hl0
      obtain ⟨z, hz⟩ : ∃ z, numV l = z := ⟨_, rfl⟩
      rw [hz] at HL
      refine (numI_calls _ _ _ _ r3 z true hz hn0).mono ?_
      rintro e w3 ⟨rfl, rfl⟩
      clear hn0 hz hl8
      go_wp2_with fail
      refine (rowI_calls _ z _ l.length rfl hl0 hl8').mono ?_
      rintro e w4 ⟨a4, Z, c4, HZ, rfl, r4, hb4⟩
      have hs0 : (ordB Z l == 0) = true := by rw [HZ.out, HL.out, ordB_self]
      go_wp2_with fail
      refine (waw_same _ _ _ _ _ _ _ r4 (r3.stay hb4) true hs0).mono ?_
      rintro e w5 ⟨rfl, rfl⟩
      clear hs0
      go_wp2_with fail
      go_ret
      exact ⟨rfl, B2.trans (hb4.mono B2.size)⟩
  · have HY : (qMod x (qI 4294967296)).toNat < 256 ^ 4 := qMod_lt x 4294967296 (by decide) (by decide)
    go_enter Try.func16, Try.ntmps16
    go_wp2_with fail
    refine (wordsAwake_calls _).mono ?_
    rintro e w1 ⟨rfl, hb1⟩
    have r1 := h0.stay hb1
    go_wp2_with fail
    generalize qMod x (qI 4294967296) = y at HY ⊢
    refine (rowI_calls w1 y _ 4 (by rfl) (by decide) (by decide)).mono ?_
    rintro e w2 ⟨a2, X, c2, HX, rfl, r2, hb2⟩
    have hX1 : X.length = 4 := by rw [HX.out, rowB_length]
    have r3 := r1.stay hb2
    have B2 : Below w.heap.size w w2 := hb1.trans (hb2.mono hb1.size)
    have hnv := numV_row y 4 (by decide) (by decide) HY
    rw [← HX.out] at hnv
    have HNV := Lib.hid hnv
    have HXL := Lib.hid hX1
    have t1 : ((X.length : Int) != 4) = false := by rw [hX1]; rfl
    clear hnv hX1 HY
    go_wp2_with fail
    refine (numI_calls _ _ _ _ r2 y true HNV.out.1 HNV.out.2).mono ?_
    rintro e w3 ⟨rfl, rfl⟩
    go_wp2_with fail
    rcases Nat.eq_zero_or_pos l.length with hl0 | hl0
    · have hn0 : numOk l = false := by simp [numOk, hl0]
      have t2 : decide (0 < l.length) = false := by simp [hl0]
      clear hl0 hl8
      refine (numI_calls _ _ _ _ r3 (numV l) false rfl hn0).mono ?_
      rintro e w3 ⟨rfl, rfl⟩
      clear hn0
      go_wp2_with fail
      go_ret
      exact ⟨rfl, B2⟩
    · have hn0 : numOk l = true := by simp [numOk]; omega
      have HL : Hid (rowB (numV l) l.length = l) := by
        rw [Hid, numV, if_pos ⟨hl0, hl8'⟩]; exact rowB_numB l hl8'
      have t2 : decide (0 < l.length) = true := by simpa using hl0
      obtain ⟨z, hz⟩ : ∃ z, numV l = z := ⟨_, rfl⟩
      rw [hz] at HL
      refine (numI_calls _ _ _ _ r3 z true hz hn0).mono ?_
      rintro e w3 ⟨rfl, rfl⟩
      clear hn0 hz hl8
      go_wp2_with fail
      refine (rowI_calls _ z _ l.length rfl hl0 hl8').mono ?_
      rintro e w4 ⟨a4, Z, c4, HZ, rfl, r4, hb4⟩
      have hs0 : (ordB Z l == 0) = true := by rw [HZ.out, HL.out, ordB_self]
      go_wp2_with fail
      refine (waw_same _ _ _ _ _ _ _ r4 (r3.stay hb4) true hs0).mono ?_
      rintro e w5 ⟨rfl, rfl⟩
      clear hs0
      go_wp2_with fail
      go_ret
      exact ⟨rfl, B2.trans (hb4.mono B2.size)⟩
  · have HY : (qMod x (qI 1099511627776)).toNat < 256 ^ 5 := qMod_lt x 1099511627776 (by decide) (by decide)
    go_enter Try.func16, Try.ntmps16
    go_wp2_with fail
    refine (wordsAwake_calls _).mono ?_
    rintro e w1 ⟨rfl, hb1⟩
    have r1 := h0.stay hb1
    go_wp2_with fail
    generalize qMod x (qI 1099511627776) = y at HY ⊢
    refine (rowI_calls w1 y _ 5 (by rfl) (by decide) (by decide)).mono ?_
    rintro e w2 ⟨a2, X, c2, HX, rfl, r2, hb2⟩
    have hX1 : X.length = 5 := by rw [HX.out, rowB_length]
    have r3 := r1.stay hb2
    have B2 : Below w.heap.size w w2 := hb1.trans (hb2.mono hb1.size)
    have hnv := numV_row y 5 (by decide) (by decide) HY
    rw [← HX.out] at hnv
    have HNV := Lib.hid hnv
    have HXL := Lib.hid hX1
    have t1 : ((X.length : Int) != 5) = false := by rw [hX1]; rfl
    clear hnv hX1 HY
    go_wp2_with fail
    refine (numI_calls _ _ _ _ r2 y true HNV.out.1 HNV.out.2).mono ?_
    rintro e w3 ⟨rfl, rfl⟩
    go_wp2_with fail
    rcases Nat.eq_zero_or_pos l.length with hl0 | hl0
    · have hn0 : numOk l = false := by simp [numOk, hl0]
      have t2 : decide (0 < l.length) = false := by simp [hl0]
      clear hl0 hl8
      refine (numI_calls _ _ _ _ r3 (numV l) false rfl hn0).mono ?_
      rintro e w3 ⟨rfl, rfl⟩
      clear hn0
      go_wp2_with fail
      go_ret
      exact ⟨rfl, B2⟩
    · have hn0 : numOk l = true := by simp [numOk]; omega
      have HL : Hid (rowB (numV l) l.length = l) := by
        rw [Hid, numV, if_pos ⟨hl0, hl8'⟩]; exact rowB_numB l hl8'
      have t2 : decide (0 < l.length) = true := by simpa using hl0
      obtain ⟨z, hz⟩ : ∃ z, numV l = z := ⟨_, rfl⟩
      rw [hz] at HL
      refine (numI_calls _ _ _ _ r3 z true hz hn0).mono ?_
      rintro e w3 ⟨rfl, rfl⟩
      clear hn0 hz hl8
      go_wp2_with fail
      refine (rowI_calls _ z _ l.length rfl hl0 hl8').mono ?_
      rintro e w4 ⟨a4, Z, c4, HZ, rfl, r4, hb4⟩
      have hs0 : (ordB Z l == 0) = true := by rw [HZ.out, HL.out, ordB_self]
      go_wp2_with fail
      refine (waw_same _ _ _ _ _ _ _ r4 (r3.stay hb4) true hs0).mono ?_
      rintro e w5 ⟨rfl, rfl⟩
      clear hs0
      go_wp2_with fail
      go_ret
      exact ⟨rfl, B2.trans (hb4.mono B2.size)⟩
  · have HY : (qMod x (qI 281474976710656)).toNat < 256 ^ 6 := qMod_lt x 281474976710656 (by decide) (by decide)
    go_enter Try.func16, Try.ntmps16
    go_wp2_with fail
    refine (wordsAwake_calls _).mono ?_
    rintro e w1 ⟨rfl, hb1⟩
    have r1 := h0.stay hb1
    go_wp2_with fail
    generalize qMod x (qI 281474976710656) = y at HY ⊢
    refine (rowI_calls w1 y _ 6 (by rfl) (by decide) (by decide)).mono ?_
    rintro e w2 ⟨a2, X, c2, HX, rfl, r2, hb2⟩
    have hX1 : X.length = 6 := by rw [HX.out, rowB_length]
    have r3 := r1.stay hb2
    have B2 : Below w.heap.size w w2 := hb1.trans (hb2.mono hb1.size)
    have hnv := numV_row y 6 (by decide) (by decide) HY
    rw [← HX.out] at hnv
    have HNV := Lib.hid hnv
    have HXL := Lib.hid hX1
    have t1 : ((X.length : Int) != 6) = false := by rw [hX1]; rfl
    clear hnv hX1 HY
    go_wp2_with fail
    refine (numI_calls _ _ _ _ r2 y true HNV.out.1 HNV.out.2).mono ?_
    rintro e w3 ⟨rfl, rfl⟩
    go_wp2_with fail
    rcases Nat.eq_zero_or_pos l.length with hl0 | hl0
    · have hn0 : numOk l = false := by simp [numOk, hl0]
      have t2 : decide (0 < l.length) = false := by simp [hl0]
      clear hl0 hl8
      refine (numI_calls _ _ _ _ r3 (numV l) false rfl hn0).mono ?_
      rintro e w3 ⟨rfl, rfl⟩
      clear hn0
      go_wp2_with fail
      go_ret
      exact ⟨rfl, B2⟩
    · have hn0 : numOk l = true := by simp [numOk]; omega
      have HL : Hid (rowB (numV l) l.length = l) := by
        rw [Hid, numV, if_pos ⟨hl0, hl8'⟩]; exact rowB_numB l hl8'
      have t2 : decide (0 < l.length) = true := by simpa using hl0
      obtain ⟨z, hz⟩ : ∃ z, numV l = z := ⟨_, rfl⟩
      rw [hz] at HL
      refine (numI_calls _ _ _ _ r3 z true hz hn0).mono ?_
      rintro e w3 ⟨rfl, rfl⟩
      clear hn0 hz hl8
      go_wp2_with fail
      refine (rowI_calls _ z _ l.length rfl hl0 hl8').mono ?_
      rintro e w4 ⟨a4, Z, c4, HZ, rfl, r4, hb4⟩
      have hs0 : (ordB Z l == 0) = true := by rw [HZ.out, HL.out, ordB_self]
      go_wp2_with fail
      refine (waw_same _ _ _ _ _ _ _ r4 (r3.stay hb4) true hs0).mono ?_
      rintro e w5 ⟨rfl, rfl⟩
      clear hs0
      go_wp2_with fail
      go_ret
      exact ⟨rfl, B2.trans (hb4.mono B2.size)⟩
  · have HY : (qMod x (qI 72057594037927936)).toNat < 256 ^ 7 := qMod_lt x 72057594037927936 (by decide) (by decide)
    go_enter Try.func16, Try.ntmps16
    go_wp2_with fail
    refine (wordsAwake_calls _).mono ?_
    rintro e w1 ⟨rfl, hb1⟩
    have r1 := h0.stay hb1
    go_wp2_with fail
    generalize qMod x (qI 72057594037927936) = y at HY ⊢
    refine (rowI_calls w1 y _ 7 (by rfl) (by decide) (by decide)).mono ?_
    rintro e w2 ⟨a2, X, c2, HX, rfl, r2, hb2⟩
    have hX1 : X.length = 7 := by rw [HX.out, rowB_length]
    have r3 := r1.stay hb2
    have B2 : Below w.heap.size w w2 := hb1.trans (hb2.mono hb1.size)
    have hnv := numV_row y 7 (by decide) (by decide) HY
    rw [← HX.out] at hnv
    have HNV := Lib.hid hnv
    have HXL := Lib.hid hX1
    have t1 : ((X.length : Int) != 7) = false := by rw [hX1]; rfl
    clear hnv hX1 HY
    go_wp2_with fail
    refine (numI_calls _ _ _ _ r2 y true HNV.out.1 HNV.out.2).mono ?_
    rintro e w3 ⟨rfl, rfl⟩
    go_wp2_with fail
    rcases Nat.eq_zero_or_pos l.length with hl0 | hl0
    · have hn0 : numOk l = false := by simp [numOk, hl0]
      have t2 : decide (0 < l.length) = false := by simp [hl0]
      clear hl0 hl8
      refine (numI_calls _ _ _ _ r3 (numV l) false rfl hn0).mono ?_
      rintro e w3 ⟨rfl, rfl⟩
      clear hn0
      go_wp2_with fail
      go_ret
      exact ⟨rfl, B2⟩
    · have hn0 : numOk l = true := by simp [numOk]; omega
      have HL : Hid (rowB (numV l) l.length = l) := by
        rw [Hid, numV, if_pos ⟨hl0, hl8'⟩]; exact rowB_numB l hl8'
      have t2 : decide (0 < l.length) = true := by simpa using hl0
      obtain ⟨z, hz⟩ : ∃ z, numV l = z := ⟨_, rfl⟩
      rw [hz] at HL
      refine (numI_calls _ _ _ _ r3 z true hz hn0).mono ?_
      rintro e w3 ⟨rfl, rfl⟩
      clear hn0 hz hl8
      go_wp2_with fail
      refine (rowI_calls _ z _ l.length rfl hl0 hl8').mono ?_
      rintro e w4 ⟨a4, Z, c4, HZ, rfl, r4, hb4⟩
      have hs0 : (ordB Z l == 0) = true := by rw [HZ.out, HL.out, ordB_self]
      go_wp2_with fail
      refine (waw_same _ _ _ _ _ _ _ r4 (r3.stay hb4) true hs0).mono ?_
      rintro e w5 ⟨rfl, rfl⟩
      clear hs0
      go_wp2_with fail
      go_ret
      exact ⟨rfl, B2.trans (hb4.mono B2.size)⟩
  · have HY : x.toNat < 256 ^ 8 := by have := q_lt x; omega
    go_enter Try.func16, Try.ntmps16
    go_wp2_with fail
    refine (wordsAwake_calls _).mono ?_
    rintro e w1 ⟨rfl, hb1⟩
    have r1 := h0.stay hb1
    go_wp2_with fail
    obtain ⟨y, hy⟩ : ∃ y, y = x := ⟨x, rfl⟩
    subst hy
    refine (rowI_calls w1 y _ 8 (by rfl) (by decide) (by decide)).mono ?_
    rintro e w2 ⟨a2, X, c2, HX, rfl, r2, hb2⟩
    have hX1 : X.length = 8 := by rw [HX.out, rowB_length]
    have r3 := r1.stay hb2
    have B2 : Below w.heap.size w w2 := hb1.trans (hb2.mono hb1.size)
    have hnv := numV_row y 8 (by decide) (by decide) HY
    rw [← HX.out] at hnv
    have HNV := Lib.hid hnv
    have HXL := Lib.hid hX1
    have t1 : ((X.length : Int) != 8) = false := by rw [hX1]; rfl
    clear hnv hX1 HY
    go_wp2_with fail
    refine (numI_calls _ _ _ _ r2 y true HNV.out.1 HNV.out.2).mono ?_
    rintro e w3 ⟨rfl, rfl⟩
    go_wp2_with fail
    rcases Nat.eq_zero_or_pos l.length with hl0 | hl0
    · have hn0 : numOk l = false := by simp [numOk, hl0]
      have t2 : decide (0 < l.length) = false := by simp [hl0]
      clear hl0 hl8
      refine (numI_calls _ _ _ _ r3 (numV l) false rfl hn0).mono ?_
      rintro e w3 ⟨rfl, rfl⟩
      clear hn0
      go_wp2_with fail
      go_ret
      exact ⟨rfl, B2⟩
    · have hn0 : numOk l = true := by simp [numOk]; omega
      have HL : Hid (rowB (numV l) l.length = l) := by
        rw [Hid, numV, if_pos ⟨hl0, hl8'⟩]; exact rowB_numB l hl8'
      have t2 : decide (0 < l.length) = true := by simpa using hl0
      obtain ⟨z, hz⟩ : ∃ z, numV l = z := ⟨_, rfl⟩
      rw [hz] at HL
      refine (numI_calls _ _ _ _ r3 z true hz hn0).mono ?_
      rintro e w3 ⟨rfl, rfl⟩
      clear hn0 hz hl8
      go_wp2_with fail
      refine (rowI_calls _ z _ l.length rfl hl0 hl8').mono ?_
      rintro e w4 ⟨a4, Z, c4, HZ, rfl, r4, hb4⟩
      have hs0 : (ordB Z l == 0) = true := by rw [HZ.out, HL.out, ordB_self]
      go_wp2_with fail
      refine (waw_same _ _ _ _ _ _ _ r4 (r3.stay hb4) true hs0).mono ?_
      rintro e w5 ⟨rfl, rfl⟩
      clear hs0
      go_wp2_with fail
      go_ret
      exact ⟨rfl, B2.trans (hb4.mono B2.size)⟩
end Go.Proofs.Ytbglmglgaobjmaa
