/- Numbers and their rows, as plain functions. No condition. -/
import Derived.Test.YtiemafgnpmoblaaNum
namespace Go.Cit

/-- x divided by 256 k times. -/
def dv : Nat → UInt64 → UInt64
  | 0, x => x
  | k + 1, x => qDiv (dv k x) (qI 256)
/-- The row of n bytes, the last byte being x's lowest. -/
def rowB (x : UInt64) : Nat → List UInt8
  | 0 => []
  | k + 1 => bOfQ (dv k x) :: rowB x k
theorem rowB_length (x : UInt64) : ∀ n, (rowB x n).length = n
  | 0 => rfl
  | n + 1 => by rw [rowB, List.length_cons, rowB_length x n]

/-- The number of a row, digit by digit from the front on. -/
def numB (l : List UInt8) : UInt64 := l.foldl (fun x d => qAdd (qMul (qI 256) x) (qOfB d)) (qI 0)

/-- As the reference reckons it: from the back. -/
def numStep (s : UInt64 × UInt64) (d : UInt8) : UInt64 × UInt64 := (qAdd s.1 (qMul s.2 (qOfB d)), qMul s.2 (qI 256))
def numR (l : List UInt8) : UInt64 × UInt64 := l.reverse.foldl numStep (qI 0, qI 1)

theorem bOfQ_mod (x : UInt64) : bOfQ (qMod x (qI 256)) = bOfQ x := by
  apply UInt8.toNat_inj.1
  unfold bOfQ qMod
  rw [UInt64.toNat_toUInt8, UInt64.toNat_toUInt8, UInt64.toNat_mod]
  exact Nat.mod_mod _ _

/-! The two numbers are one. -/
theorem numR_cons (d : UInt8) (l : List UInt8) : numR (d :: l) = numStep (numR l) d := by
  unfold numR; rw [List.reverse_cons, List.foldl_append]; rfl
def unitR : Nat → UInt64
  | 0 => 1
  | n + 1 => unitR n * 256
theorem numR_snd : ∀ l : List UInt8, (numR l).2 = unitR l.length
  | [] => rfl
  | d :: l => by rw [numR_cons]; show qMul (numR l).2 (qI 256) = _; rw [numR_snd l]; rfl
def stepF (x : UInt64) (d : UInt8) : UInt64 := qAdd (qMul (qI 256) x) (qOfB d)
theorem fold_shift : ∀ (l : List UInt8) (x : UInt64), l.foldl stepF x = x * unitR l.length + l.foldl stepF 0
  | [], x => by show x = x * 1 + 0; simp
  | d :: l, x => by
    rw [List.foldl_cons, List.foldl_cons, fold_shift l (stepF x d), fold_shift l (stepF 0 d)]
    show (256 * x + d.toUInt64) * unitR l.length + _ = x * (unitR l.length * 256) + ((256 * 0 + d.toUInt64) * unitR l.length + _)
    rw [← UInt64.add_assoc]
    congr 1
    rw [UInt64.mul_zero, UInt64.zero_add, UInt64.add_mul]
    congr 1
    rw [UInt64.mul_comm 256 x, UInt64.mul_assoc, UInt64.mul_comm 256]
theorem numR_eq : ∀ l : List UInt8, (numR l).1 = numB l
  | [] => rfl
  | d :: l => by
    rw [numR_cons]
    show (numR l).1 + (numR l).2 * d.toUInt64 = _
    rw [numR_eq l, numR_snd l]
    show numB l + unitR l.length * d.toUInt64 = List.foldl stepF (256 * 0 + d.toUInt64) l
    rw [fold_shift l, UInt64.mul_zero, UInt64.zero_add, UInt64.add_comm, UInt64.mul_comm]
    rfl
end Go.Cit
