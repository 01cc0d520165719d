/- Plain laws of numbers and rows. No condition. -/
import Derived.Test.YtglmijcfdcajkaaWordsDef
namespace Go.Cit

theorem dv_toNat (x : UInt64) : ∀ k, (dv k x).toNat = x.toNat / 256 ^ k
  | 0 => by simp [dv]
  | k + 1 => by
    show (dv k x / qI 256).toNat = _
    rw [UInt64.toNat_div, dv_toNat x k, Nat.div_div_eq_div_mul, Nat.pow_succ]; rfl
theorem byte_dv (x : UInt64) (k : Nat) : (bOfQ (dv k x)).toNat = x.toNat / 256 ^ k % 256 := by
  unfold bOfQ; rw [UInt64.toNat_toUInt8, dv_toNat]

theorem rowB_low (x : UInt64) : rowB (qOfW (wOfQ x)) 4 = rowB x 4 := by
  have e : (qOfW (wOfQ x)).toNat = x.toNat % 4294967296 := by
    unfold qOfW wOfQ; rw [UInt32.toNat_toUInt64, UInt64.toNat_toUInt32]
  have h : ∀ k, k < 4 → bOfQ (dv k (qOfW (wOfQ x))) = bOfQ (dv k x) := by
    intro k hk
    apply UInt8.toNat_inj.1
    rw [byte_dv, byte_dv, e]
    match k, hk with
    | 0, _ => simp only [Nat.pow_zero]; omega
    | 1, _ => simp only [Nat.pow_one]; omega
    | 2, _ => show x.toNat % 4294967296 / 65536 % 256 = x.toNat / 65536 % 256; omega
    | 3, _ => show x.toNat % 4294967296 / 16777216 % 256 = x.toNat / 16777216 % 256; omega
  simp only [rowB]
  rw [h 0 (by decide), h 1 (by decide), h 2 (by decide), h 3 (by decide)]

/-- The number of a row, not wrapped. -/
def numN (l : List UInt8) : Nat := l.foldl (fun x d => 256 * x + d.toNat) 0
theorem foldN_lt : ∀ (l : List UInt8) (x : Nat), l.foldl (fun x d => 256 * x + d.toNat) x < 256 ^ l.length * (x + 1)
  | [], x => by simp
  | d :: l, x => by
    have h := foldN_lt l (256 * x + d.toNat)
    have hd := b_lt d
    rw [List.foldl_cons, List.length_cons, Nat.pow_succ, Nat.mul_assoc]
    refine Nat.lt_of_lt_of_le h (Nat.mul_le_mul_left _ (by omega))
theorem numN_lt (l : List UInt8) : numN l < 256 ^ l.length := by
  have := foldN_lt l 0; simpa [numN] using this
theorem foldB_mod : ∀ (l : List UInt8) (x : UInt64) (y : Nat), x.toNat = y % 18446744073709551616 → (l.foldl stepF x).toNat = l.foldl (fun x d => 256 * x + d.toNat) y % 18446744073709551616
  | [], x, y, h => h
  | d :: l, x, y, h => by
    rw [List.foldl_cons, List.foldl_cons]
    refine foldB_mod l _ _ ?_
    show (256 * x + d.toUInt64).toNat = _
    rw [UInt64.toNat_add, UInt64.toNat_mul, UInt8.toNat_toUInt64, h]
    show (256 * (y % 18446744073709551616) % 18446744073709551616 + d.toNat) % 18446744073709551616 = _
    omega
theorem numB_toNat (l : List UInt8) (h : l.length ≤ 8) : (numB l).toNat = numN l := by
  have e := foldB_mod l 0 0 rfl
  have h1 : numN l < 18446744073709551616 := Nat.lt_of_lt_of_le (numN_lt l) (Nat.pow_le_pow_right (by decide) h)
  show (l.foldl stepF 0).toNat = _
  rw [e]; exact Nat.mod_eq_of_lt h1
theorem numB_lt (l : List UInt8) (n : Nat) (h : l.length ≤ n) (h8 : n ≤ 8) : (numB l).toNat < 256 ^ n := by
  rw [numB_toNat l (by omega)]; exact Nat.lt_of_lt_of_le (numN_lt l) (Nat.pow_le_pow_right (by decide) h)
theorem narrow (x : UInt64) (h : x.toNat < 4294967296) : qOfW (wOfQ x) = x := by
  apply UInt64.toNat_inj.1
  unfold qOfW wOfQ; rw [UInt32.toNat_toUInt64, UInt64.toNat_toUInt32]; exact Nat.mod_eq_of_lt h
end Go.Cit
