/- WordsRows: any number's rows, any row's number, numbers at any place are what the chapter says. The walk of the law. -/
import Derived.Test.YtbglmglgaobjmaaWordsLoad
import Derived.Test.YtbglmglgaobjmaaWordsLaw
import Derived.Test.YtbglmglgaobjmaaRefOrder
namespace Go.Proofs.Ytbglmglgaobjmaa
open Go Go.RowKit Go.Cit

theorem load4_narrow (l : List UInt8) (t : Int) : (qOfW (wOfQ (loadB l t 4).1) == (loadB l t 4).1) = true := by
  rw [beq_iff_eq]
  apply narrow
  unfold loadB
  split
  · exact numB_lt _ 4 (by simp; omega) (by decide)
  · decide

set_option maxHeartbeats 4000000 in
theorem wordsRows_law (w : World) (x : UInt64) (n : Int) (a0 : Option Addr) (l : List UInt8) (c0 : Nat) (t : Int) (_hn : -9223372036854775808 ≤ n ∧ n ≤ 9223372036854775807) (h0 : Row w a0 l c0) (ht : -9223372036854775808 ≤ t ∧ t ≤ 9223372036854775807) :
    Calls Try.prog 4 #[vq x, .int .i64 n, .slice a0 l.length c0, .int .i64 t] w fun e w' => e = .returned (.bool true) ∧ Below w.heap.size w w' := by
  have s0 := ordB_self l
  by_cases hl : 1000 < l.length
  · go_enter Try.func4, Try.ntmps4
    go_wp2_with fail
    go_ret
    exact ⟨rfl, Below.refl _ _⟩
  have HQ := Lib.hid (load4_narrow l t)
  have hs : (decide (n < 1) = true ∧ (n < 1 ∨ 8 < n)) ∨ (decide (n < 1) = false ∧ decide (8 < n) = true ∧ (n < 1 ∨ 8 < n)) ∨ (∃ k : Nat, n = k ∧ 1 ≤ k ∧ k ≤ 8) := by
    by_cases h1 : n < 1
    · exact .inl ⟨by simpa using h1, .inl h1⟩
    · by_cases h8 : 8 < n
      · exact .inr (.inl ⟨by simpa using h1, by simpa using h8, .inr h8⟩)
      · exact .inr (.inr ⟨n.toNat, by omega, by omega, by omega⟩)
  rcases hs with ⟨g1, hn⟩ | ⟨g1, g2, hn⟩ | ⟨k, rfl, hk1, hk8⟩
  all_goals
    go_enter Try.func4, Try.ntmps4
    go_wp2_with fail
    refine (copy_calls _ _ _ _ h0 (by omega)).mono ?_
    rintro e w1 ⟨a1, c1, rfl, ho1, hb1⟩
    have r1 := ho1.isRow
    have q1 := h0.stay hb1
    go_wp2_with fail
  iterate 2
    refine (row_none _ _ _ hn).mono ?_
    rintro e w2 ⟨rfl, rfl⟩
    go_wp2_with fail
    have r := r1
    have q := q1
    have hb := hb1
    rotate_left
  refine (row_calls _ x k hk1 hk8).mono ?_
  rintro e w2 ⟨a2, c2, rfl, ho2, hb2⟩
  have r2 := r1.stay hb2
  have q2 := q1.stay hb2
  have v2 := ho2.isRow
  have g1 : decide ((k : Int) < 1) = false := by simp; omega
  have g2 : decide (8 < (k : Int)) = false := by simp; omega
  go_wp2_with fail
  refine (refput_calls _ x k hk8).mono ?_
  rintro e w3 ⟨a3, c3, rfl, ho3, hb3⟩
  have r3 := r2.stay hb3
  have q3 := q2.stay hb3
  have v3 := v2.stay hb3
  have u3 := ho3.isRow
  have s1 := ordB_self (rowB x k)
  have HS := same_calls w3 _ _ _ _ _ _ v3 u3
  rw [rowB_length] at HS
  go_wp2_with fail
  refine HS.mono ?_
  rintro e w4 ⟨rfl, hd4⟩
  have r := hd4.row r3
  have q := hd4.row q3
  have hb := (hb1.trans ((hb2.trans (hb3.mono hb2.size)).mono hb1.size)).trans (hd4.below _)
  go_wp2_with fail
  rotate_left 2
  all_goals
    refine (number_calls _ _ _ _ r).mono ?_
    rintro e w5 ⟨rfl, rfl⟩
    go_wp2_with fail
    refine (refnumber_calls _ _ _ _ q).mono ?_
    rintro e w6 ⟨rfl, rfl⟩
    go_wp2_with fail
    refine (load32_calls _ _ _ _ _ r).mono ?_
    rintro e w7 ⟨rfl, rfl⟩
    go_wp2_with fail
    refine (refload_calls _ _ _ _ _ _ 4 rfl (by decide) (by decide) ht q).mono ?_
    rintro e w8 ⟨rfl, rfl⟩
    go_wp2_with fail
    refine (load64_calls _ _ _ _ _ r).mono ?_
    rintro e w9 ⟨rfl, rfl⟩
    go_wp2_with fail
    refine (refload_calls _ _ _ _ _ _ 8 rfl (by decide) (by decide) ht q).mono ?_
    rintro e w10 ⟨rfl, rfl⟩
    have hq := HQ.out
    go_wp2_with fail
    refine (same_calls _ _ _ _ _ _ _ r q).mono ?_
    rintro e w11 ⟨rfl, hd11⟩
    have hb11 := hb.trans (hd11.below _)
    clear hq
    go_wp2_with fail
    refine (put32_calls _ _).mono ?_
    rintro e w12 ⟨a12, c12, rfl, ho12, hb12⟩
    have r12 := ho12.isRow
    go_wp2_with fail
    refine (refput_calls _ x 4 (by decide)).mono ?_
    rintro e w13 ⟨a13, c13, rfl, ho13, hb13⟩
    have HS4 := same_calls w13 _ _ _ _ _ _ (r12.stay hb13) ho13.isRow
    rw [rowB_low] at HS4
    simp only [rowB_length] at HS4
    have s4 := ordB_self (rowB x 4)
    go_wp2_with fail
    refine HS4.mono ?_
    rintro e w14 ⟨rfl, hd14⟩
    go_wp2_with fail
    refine (put64_calls _ _).mono ?_
    rintro e w15 ⟨a15, c15, rfl, ho15, hb15⟩
    have r15 := ho15.isRow
    go_wp2_with fail
    refine (refput_calls _ x 8 (by decide)).mono ?_
    rintro e w16 ⟨a16, c16, rfl, ho16, hb16⟩
    have HS8 := same_calls w16 _ _ _ _ _ _ (r15.stay hb16) ho16.isRow
    simp only [rowB_length] at HS8
    have s8 := ordB_self (rowB x 8)
    go_wp2_with fail
    refine HS8.mono ?_
    rintro e w17 ⟨rfl, hd17⟩
    go_wp2_with fail
    go_ret
    have k12 := hb11.size
    have k13 := hb12.size
    have k14 := hb13.size
    have k15 := (hd14.below w.heap.size).size
    have k16 := hb15.size
    refine ⟨rfl, ((((((hb11.trans (hb12.mono k12)).trans (hb13.mono (by omega))).trans (hd14.below _)).trans (hb15.mono (by omega))).trans (hb16.mono (by omega)))).trans (hd17.below _)⟩
end Go.Proofs.Ytbglmglgaobjmaa
