/- The reference's order of two rows: walked. -/
import Derived.Test.YtofagofpeedfcaaProg
import Derived.Test.YtofagofpeedfcaaRow
namespace Go.Proofs.Ytofagofpeedfcaa
open Go Go.RowKit Go.Cit

theorem sz1 : ∀ w, (sizeOf 5).run Try.prog w = .ok 1 w := by intro w; kernel_rfl

/-- -1, 0, 1, as the reference says it. -/
def ordB : List UInt8 → List UInt8 → Int
  | [], [] => 0
  | [], _ :: _ => -1
  | _ :: _, [] => 1
  | x :: xs, y :: ys => if x < y then -1 else if y < x then 1 else ordB xs ys

theorem ordB_drop (a b : List UInt8) (k : Nat) (ha : k < a.length) (hb : k < b.length) :
    ordB (a.drop k) (b.drop k) = if a[k] < b[k] then -1 else if b[k] < a[k] then 1 else ordB (a.drop (k + 1)) (b.drop (k + 1)) := by
  rw [List.drop_eq_getElem_cons ha, List.drop_eq_getElem_cons hb]; rfl

theorem lt_dec (x y : UInt8) : (decide ((x.toNat : Int) < (y.toNat : Int))) = decide (x < y) := by
  simp [UInt8.lt_iff_toNat_lt]

theorem ordB_end (a b : List UInt8) (k : Nat) (h : ¬ (k < a.length ∧ k < b.length)) (ha : k ≤ a.length) (hb : k ≤ b.length) :
    ordB (a.drop k) (b.drop k) = if a.length < b.length then -1 else if b.length < a.length then 1 else 0 := by
  by_cases h1 : k < a.length
  · have h2 : k = b.length := by omega
    rw [List.drop_eq_getElem_cons h1, List.drop_of_length_le (by omega : b.length ≤ k), if_neg (by omega), if_pos (by omega)]; rfl
  · by_cases h2 : k < b.length
    · rw [List.drop_eq_getElem_cons h2, List.drop_of_length_le (by omega : a.length ≤ k), if_pos (by omega)]; rfl
    · rw [List.drop_of_length_le (by omega : a.length ≤ k), List.drop_of_length_le (by omega : b.length ≤ k), if_neg (by omega), if_neg (by omega)]; rfl

set_option maxHeartbeats 1000000 in
theorem order_calls (w : World) (a0 a1 : Option Addr) (l m : List UInt8) (c0 c1 : Nat) (h0 : Row w a0 l c0) (h1 : Row w a1 m c1) :
    Calls Try.prog 75 #[.slice a0 l.length c0, .slice a1 m.length c1] w fun e w' => e = .returned (.int .i64 (ordB l m)) ∧ Drew w w' := by
  have b0 := h0.len_le
  have b1 := h1.len_le
  go_enter Try.func75, Try.ntmps75
  go_wp2
  go_loopw [5] (fun i wr => ∃ k n : Nat, k ≤ l.length ∧ k ≤ m.length ∧ i = .int .i64 k ∧ wr = w.drewN n ∧ ordB l m = ordB (l.drop k) (m.drop k)) (fun i _ => l.length - (intOf i).toNat)
  case atStart => exact ⟨0, 0, Nat.zero_le _, Nat.zero_le _, rfl, rfl, rfl⟩
  case round =>
    obtain ⟨k, n, hk0, hk1, rfl, rfl, he⟩ := hrel
    have HE := Lib.hid he
    clear he
    by_cases hlt : k < l.length ∧ k < m.length
    · obtain ⟨hl, hm⟩ := hlt
      have HD := Lib.hid (ordB_drop l m k hl hm)
      have i0 := h0.index Try.underlying22 sz1 k hl
      have i1 := h1.index Try.underlying22 sz1 k hm
      have e0 := h0.cell k hl
      have e1 := h1.cell k hm
      have d1 : decide ((k : Int) < (l.length : Int)) = true := by simp; omega
      have d2 : decide ((k : Int) < (m.length : Int)) = true := by simp; omega
      by_cases hx : l[k] < m[k]
      · have t1 : decide (l[k].toNat < m[k].toNat) = true := by simpa [UInt8.lt_iff_toNat_lt] using hx
        go_wp2
        go_quiet (fail)
        go_wp2
        go_ret
        exact ⟨ret_int (by rw [HE.out, HD.out, if_pos hx]), ((Drew.refl _).more _).more _⟩
      · have t1 : decide (l[k].toNat < m[k].toNat) = false := by simpa [UInt8.lt_iff_toNat_lt] using hx
        by_cases hy : m[k] < l[k]
        · have t2 : decide (m[k].toNat < l[k].toNat) = true := by simpa [UInt8.lt_iff_toNat_lt] using hy
          go_wp2
          go_quiet (fail)
          go_wp2
          go_quiet (fail)
          go_wp2
          go_ret
          exact ⟨ret_int (by rw [HE.out, HD.out, if_neg hx, if_pos hy]), (((Drew.refl _).more _).more _).more _⟩
        · have t2 : decide (m[k].toNat < l[k].toNat) = false := by simpa [UInt8.lt_iff_toNat_lt] using hy
          go_wp2
          go_quiet (fail)
          go_wp2
          go_quiet (fail)
          go_wp2
          go_roundw
          case rel => exact ⟨k + 1, _, by omega, by omega, by go_num, rfl, by rw [HE.out, HD.out, if_neg hx, if_neg hy]⟩
          case measure => simp [intOf]; omega
    · have HN := Lib.hid (ordB_end l m k hlt hk0 hk1)
      go_wp2
      all_goals
        go_ret
        refine ⟨ret_int ?_, (Drew.refl _).more _⟩
        rw [HE.out, HN.out]
        first | (rw [if_pos (by omega)]) | (rw [if_neg (by omega), if_pos (by omega)]) | (rw [if_neg (by omega), if_neg (by omega)])

theorem same_calls (w : World) (a0 a1 : Option Addr) (l m : List UInt8) (c0 c1 : Nat) (h0 : Row w a0 l c0) (h1 : Row w a1 m c1) :
    Calls Try.prog 54 #[.slice a0 l.length c0, .slice a1 m.length c1] w fun e w' => e = .returned (.bool (ordB l m == 0)) ∧ Drew w w' := by
  go_enter Try.func54, Try.ntmps54
  go_wp2_with (go_at_call 75; refine (order_calls _ _ _ _ _ _ _ h0 h1).mono ?_; rintro e w' ⟨rfl, hd⟩)
  go_ret
  exact ⟨rfl, hd⟩


/-! The plain law: 0 just if they are one. -/
theorem ordB_eq : ∀ a b : List UInt8, ordB a b = 0 ↔ a = b
  | [], [] => by simp [ordB]
  | [], _ :: _ => by simp [ordB]
  | _ :: _, [] => by simp [ordB]
  | x :: xs, y :: ys => by
    unfold ordB
    by_cases h : x < y
    · rw [if_pos h]; simp; intro he; subst he; exact absurd h (UInt8.lt_irrefl _)
    · rw [if_neg h]
      by_cases h' : y < x
      · rw [if_pos h']; simp; intro he; subst he; exact absurd h' (UInt8.lt_irrefl _)
      · rw [if_neg h', ordB_eq xs ys]
        have : x = y := UInt8.le_antisymm (UInt8.not_lt.1 h') (UInt8.not_lt.1 h)
        simp [this]
theorem ordB_beq (a b : List UInt8) : (ordB a b == 0) = decide (a = b) := by
  rw [Bool.eq_iff_iff]; simp [ordB_eq]
theorem ordB_self (l : List UInt8) : (ordB l l == 0) = true := by rw [ordB_beq]; simp
end Go.Proofs.Ytofagofpeedfcaa
