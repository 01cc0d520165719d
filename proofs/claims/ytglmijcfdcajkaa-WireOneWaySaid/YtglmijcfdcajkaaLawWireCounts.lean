/- WireCounts: a count is taken just if it is from 0 to the most, and as many bytes stand behind it at least. The walk of the law. -/
import Derived.Test.YtglmijcfdcajkaaWireAwake
import Derived.Test.YtglmijcfdcajkaaWordsLaw
namespace Go.Proofs.Ytglmijcfdcajkaa
open Go Go.RowKit Go.Cit

/-- A number's row is read as the number. -/
theorem i64_row (n : Int) (h : -9223372036854775808 ≤ n ∧ n ≤ 9223372036854775807) : i64Q (numB (rowB (qOfI n) 8)) = n := by
  have hq : numB (rowB (qOfI n) 8) = qOfI n := by
    apply UInt64.toNat_inj.1
    rw [numB_toNat _ (by rw [rowB_length]; decide)]
    have e : ∀ x : UInt64, numN (rowB x 8) = x.toNat := by
      intro x
      have hx := x.toNat_lt
      simp only [rowB, numN, List.foldl_cons, List.foldl_nil, byte_dv]
      simp only [Nat.pow_zero, Nat.div_one, Nat.pow_one]
      omega
    exact e _
  rw [hq, i64Q, qOfI_nat]
  unfold wrap64
  omega

theorem count_row (n most : Int) (behind : List UInt8) (h : -9223372036854775808 ≤ n ∧ n ≤ 9223372036854775807) (hb : behind.length ≤ 100) :
    St.count (St.new (rowB (qOfI n) 8 ++ behind)) most = if 0 ≤ n ∧ n ≤ most ∧ n ≤ (behind.length : Int) then (n, ⟨behind, 0⟩) else (0, St.broke) := by
  have hl : (rowB (qOfI n) 8).length = 8 := rowB_length _ _
  have hn : St.new (rowB (qOfI n) 8 ++ behind) = ⟨rowB (qOfI n) 8 ++ behind, 0⟩ := by
    rw [St.new, if_pos]; rw [List.length_append, hl]; omega
  rw [hn, St.count, next_yes (by rw [List.length_append, hl]; omega), List.take_left' hl, List.drop_left' hl]
  simp only [i64_row n h]

set_option maxRecDepth 100000 in
set_option maxHeartbeats 4000000 in
theorem wireCounts_law (w : World) (n most : Int) (a0 : Option Addr) (l : List UInt8) (c0 : Nat) (hn : -9223372036854775808 ≤ n ∧ n ≤ 9223372036854775807) (_hm : -9223372036854775808 ≤ most ∧ most ≤ 9223372036854775807) (h0 : Row w a0 l c0) :
    Calls Try.prog 7 #[.int .i64 n, .int .i64 most, .slice a0 l.length c0] w fun e w' => e = .returned (.bool true) ∧ Below w.heap.size w w' := by
  have hq : IntKind.u64.wrap n = ((qOfI n).toNat : Int) := by rw [wrap_u64_eq, qOfI_nat]
  go_enter Try.func7, Try.ntmps7
  go_wp2_with fail
  refine (wireAwake_calls _).mono ?_
  rintro e w1 ⟨rfl, B1⟩
  have r1 := h0.stay B1
  clear h0
  by_cases hl : 100 < l.length
  · go_wp2_with fail
    go_ret
    exact ⟨rfl, B1⟩
  have hl9 : l.length ≤ 100 := by omega
  clear hl
  go_wp2_with fail
  refine (toXn (rowB_length _ _) (put64_calls _ (qOfI n))).mono ?_
  rintro e w2 ⟨a2, X, c2, HX, rfl, hm2, hb2⟩
  have r2 := r1.stay hb2
  have B2 := B1.trans (hb2.mono B1.size)
  have hX : X.length = 8 := by rw [HX.out]; exact rowB_length _ _
  have HXl := Lib.hid hX
  clear hX r1 B1
  go_wp2_with fail
  refine (toX (cat2_calls _ _ hm2.row r2 (by rw [HXl.out]; decide) (by omega))).mono ?_
  rintro e w3 ⟨a3, Y, c3, HY, rfl, hm3, hb3⟩
  have B3 := B2.trans (hb3.mono B2.size)
  have HY2 : Hid (Y = rowB (qOfI n) 8 ++ l) := by rw [Hid, HY.out, HX.out]
  clear hm2 r2 hb2 hb3 B2
  go_wp2_with fail
  refine (newreader_calls _ hm3.row).mono ?_
  rintro e w4 ⟨rfl, ⟨a4, c4, hR⟩, hb4⟩
  have B4 := B3.trans (hb4.mono B3.size)
  have hk := rcount_calls hR most
  have HC : Hid (St.count ⟨(St.new Y).l, (St.new Y).e⟩ most = if 0 ≤ n ∧ n ≤ most ∧ n ≤ (l.length : Int) then (n, ⟨l, 0⟩) else (0, St.broke)) := by
    rw [Hid, show (⟨(St.new Y).l, (St.new Y).e⟩ : St) = St.new Y from rfl, HY2.out]
    exact count_row n most l hn hl9
  have hlt := hR.lt
  have z3 := B3.size
  clear hm3
  rw [HC.out] at hk
  clear HC HY HY2
  go_wp2_with fail
  have hS5 : ∀ {w5}, Save (· ≠ w3.heap.size) w4 w5 → Below w.heap.size w w5 := fun hS => B4.trans (hS.below B4.size (fun k hk => by omega))
  by_cases hc : 0 ≤ n ∧ n ≤ most ∧ n ≤ (l.length : Int)
  · rw [if_pos hc] at hk
    obtain ⟨hc1, hc2, hc3⟩ := hc
    refine Calls.mono hk ?_
    rintro e w5 ⟨rfl, ⟨a5, c5, hR5⟩, hS⟩
    have B5 := hS5 hS
    have hR5 : Rd w3.heap.size w4.heap.size w5 w3.heap.size a5 l c5 0 := hR5
    clear hk hS hR hb4 B4 hS5
    go_wp2_with fail
    refine (rleft_calls hR5).mono ?_
    rintro e w6 ⟨rfl, rfl⟩
    rw [show St.left ⟨l, 0⟩ = l.length from rfl]
    go_wp2_with fail
    refine (rerr_calls hR5).mono ?_
    rintro e w7 ⟨rfl, rfl⟩
    go_wp2_with fail
    go_ret
    exact ⟨rfl, B5⟩
  · rw [if_neg hc] at hk
    refine Calls.mono hk ?_
    rintro e w5 ⟨rfl, ⟨a5, c5, hR5⟩, hS⟩
    have B5 := hS5 hS
    have hR5 : Rd w3.heap.size w4.heap.size w5 w3.heap.size a5 [] c5 50 := hR5
    clear hk hS hR hb4 B4 hS5
    by_cases h1 : 0 ≤ n
    · by_cases h2 : n ≤ most
      · have h3 : (l.length : Int) < n := by omega
        clear hc
        go_wp2_with fail
        refine (rleft_calls hR5).mono ?_
        rintro e w6 ⟨rfl, rfl⟩
        rw [show St.left ⟨[], 50⟩ = 0 from rfl]
        go_wp2_with fail
        refine (rerr_calls hR5).mono ?_
        rintro e w7 ⟨rfl, rfl⟩
        go_wp2_with fail
        go_ret
        exact ⟨rfl, B5⟩
      · clear hc
        go_wp2_with fail
        refine (rleft_calls hR5).mono ?_
        rintro e w6 ⟨rfl, rfl⟩
        rw [show St.left ⟨[], 50⟩ = 0 from rfl]
        go_wp2_with fail
        refine (rerr_calls hR5).mono ?_
        rintro e w7 ⟨rfl, rfl⟩
        go_wp2_with fail
        go_ret
        exact ⟨rfl, B5⟩
    · clear hc
      go_wp2_with fail
      refine (rleft_calls hR5).mono ?_
      rintro e w6 ⟨rfl, rfl⟩
      rw [show St.left ⟨[], 50⟩ = 0 from rfl]
      go_wp2_with fail
      refine (rerr_calls hR5).mono ?_
      rintro e w7 ⟨rfl, rfl⟩
      go_wp2_with fail
      go_ret
      exact ⟨rfl, B5⟩
end Go.Proofs.Ytglmijcfdcajkaa
