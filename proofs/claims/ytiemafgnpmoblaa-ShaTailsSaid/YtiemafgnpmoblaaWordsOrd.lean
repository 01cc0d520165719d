/- Numbers, rows and their order: plain laws. No condition. -/
import Derived.Test.YtiemafgnpmoblaaGa
import Derived.Test.YtiemafgnpmoblaaGb
namespace Go.Proofs.Ytiemafgnpmoblaa
open Go Go.RowKit Go.Cit

theorem foldN_shift : ∀ (l : List UInt8) (x : Nat), l.foldl (fun x d => 256 * x + d.toNat) x = x * 256 ^ l.length + l.foldl (fun x d => 256 * x + d.toNat) 0
  | [], x => by simp
  | d :: l, x => by
    rw [List.foldl_cons, List.foldl_cons, foldN_shift l (256 * x + d.toNat), foldN_shift l (256 * 0 + d.toNat), List.length_cons, Nat.pow_succ]
    generalize 256 ^ l.length = p
    rw [Nat.mul_zero, Nat.zero_add, Nat.add_mul, Nat.add_assoc]
    congr 1
    rw [Nat.mul_comm p 256, ← Nat.mul_assoc, Nat.mul_comm x 256]
theorem numN_cons (d : UInt8) (l : List UInt8) : numN (d :: l) = d.toNat * 256 ^ l.length + numN l := by
  show l.foldl _ (256 * 0 + d.toNat) = _
  rw [foldN_shift, Nat.mul_zero, Nat.zero_add]; rfl

theorem rowB_of : ∀ (l : List UInt8) (x : UInt64), x.toNat % 256 ^ l.length = numN l → rowB x l.length = l
  | [], _, _ => rfl
  | d :: l, x, h => by
    rw [List.length_cons, Nat.pow_succ, numN_cons] at h
    have hlt := numN_lt l
    have hp : 0 < 256 ^ l.length := Nat.pow_pos (by decide)
    rw [List.length_cons, rowB]
    have e1 : x.toNat / 256 ^ l.length % 256 = d.toNat := by
      rw [← Nat.mod_mul_right_div_self, h, Nat.mul_comm, Nat.mul_add_div hp, Nat.div_eq_of_lt hlt, Nat.add_zero]
    have e2 : x.toNat % 256 ^ l.length = numN l := by
      rw [← Nat.mod_mul_right_mod x.toNat (256 ^ l.length) 256, h, Nat.mul_comm, Nat.mul_add_mod, Nat.mod_eq_of_lt hlt]
    rw [rowB_of l x e2]
    congr 1
    apply UInt8.toNat_inj.1
    rw [byte_dv, e1]
theorem rowB_numB (l : List UInt8) (h : l.length ≤ 8) : rowB (numB l) l.length = l :=
  rowB_of l _ (by rw [numB_toNat l h]; exact Nat.mod_eq_of_lt (numN_lt l))

theorem numN_rowB (x : UInt64) : ∀ n, numN (rowB x n) = x.toNat % 256 ^ n
  | 0 => by simp [rowB, numN, Nat.mod_one]
  | n + 1 => by
    rw [rowB, numN_cons, rowB_length, byte_dv, numN_rowB x n, Nat.pow_succ, Nat.mod_mul, Nat.add_comm, Nat.mul_comm]
theorem numB_rowB (x : UInt64) (n : Nat) (h8 : n ≤ 8) (hx : x.toNat < 256 ^ n) : numB (rowB x n) = x := by
  apply UInt64.toNat_inj.1
  rw [numB_toNat _ (by rw [rowB_length]; exact h8), numN_rowB, Nat.mod_eq_of_lt hx]

theorem ordB_num : ∀ (l m : List UInt8), l.length = m.length → ordB l m = if numN l < numN m then -1 else if numN m < numN l then 1 else 0
  | [], [], _ => by simp [ordB, numN]
  | [], _ :: _, h => by simp at h
  | _ :: _, [], h => by simp at h
  | x :: l, y :: m, h => by
    have hl : l.length = m.length := by simpa using h
    have h1 := numN_lt l
    have h2 := numN_lt m
    have ih := ordB_num l m hl
    rw [ordB, numN_cons, numN_cons, hl]
    rw [hl] at h1
    generalize 256 ^ m.length = p at h1 h2 ⊢
    have hxy : ∀ a b : UInt8, a < b → a.toNat * p + p ≤ b.toNat * p := fun a b hab => by
      have h3 := UInt8.lt_iff_toNat_lt.1 hab
      have := Nat.mul_le_mul_right p h3
      rwa [Nat.succ_mul] at this
    by_cases hx : x < y
    · have := hxy x y hx
      rw [if_pos hx, if_pos (by omega)]
    · by_cases hy : y < x
      · have := hxy y x hy
        rw [if_neg hx, if_pos hy, if_neg (by omega), if_pos (by omega)]
      · have e : x.toNat = y.toNat := by
          rw [UInt8.lt_iff_toNat_lt] at hx hy; omega
        rw [if_neg hx, if_neg hy, ih, e]
        simp only [Nat.add_lt_add_iff_left]

theorem ordB_neg : ∀ a b : List UInt8, ordB b a = - ordB a b
  | [], [] => rfl
  | [], _ :: _ => rfl
  | _ :: _, [] => rfl
  | x :: a, y :: b => by
    have ih := ordB_neg a b
    rw [ordB, ordB]
    by_cases h1 : x < y
    · have h2 : ¬ y < x := by rw [UInt8.lt_iff_toNat_lt] at h1 ⊢; omega
      rw [if_pos h1, if_neg h2, if_pos h1]; rfl
    · by_cases h2 : y < x
      · rw [if_pos h2, if_neg h1, if_pos h2]
      · rw [if_neg h2, if_neg h1, if_neg h1, if_neg h2, ih]
theorem ordB_vals : ∀ a b : List UInt8, ordB a b = -1 ∨ ordB a b = 0 ∨ ordB a b = 1
  | [], [] => .inr (.inl rfl)
  | [], _ :: _ => .inl rfl
  | _ :: _, [] => .inr (.inr rfl)
  | x :: a, y :: b => by
    rw [ordB]
    split
    · exact .inl rfl
    · split
      · exact .inr (.inr rfl)
      · exact ordB_vals a b
theorem ordB_trans : ∀ a b c : List UInt8, ordB a b < 0 → ordB b c < 0 → ordB a c < 0
  | [], [], _, h, _ => absurd h (by decide)
  | _ :: _, [], _, h, _ => absurd h (by simp [ordB])
  | _, _ :: _, [], _, h => absurd h (by simp [ordB])
  | [], _ :: _, _ :: _, _, _ => by simp [ordB]
  | x :: a, y :: b, z :: c, h1, h2 => by
    rw [ordB] at h1 h2 ⊢
    simp only [UInt8.lt_iff_toNat_lt] at h1 h2 ⊢
    by_cases hxy : x.toNat < y.toNat
    · by_cases hzy : z.toNat < y.toNat
      · rw [if_neg (by omega), if_pos hzy] at h2; exact absurd h2 (by decide)
      · rw [if_pos (by omega)]; decide
    · by_cases hyx : y.toNat < x.toNat
      · rw [if_neg hxy, if_pos hyx] at h1; exact absurd h1 (by decide)
      · rw [if_neg hxy, if_neg hyx] at h1
        by_cases hyz : y.toNat < z.toNat
        · rw [if_pos (by omega)]; decide
        · by_cases hzy : z.toNat < y.toNat
          · rw [if_neg hyz, if_pos hzy] at h2; exact absurd h2 (by decide)
          · rw [if_neg hyz, if_neg hzy] at h2
            rw [if_neg (by omega), if_neg (by omega)]
            exact ordB_trans a b c h1 h2
end Go.Proofs.Ytiemafgnpmoblaa
