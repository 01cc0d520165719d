/- SHA-256, by itself: plain functions. No condition. -/
import Derived.Test.YtiemafgnpmoblaaWordsDef
namespace Go.Cit

/-- Turned by n places, from 1 to 31; moved. -/
def rotN (n : Nat) (x : UInt32) : UInt32 := UInt32.ofNat ((x.toNat % 2 ^ n) * 2 ^ (32 - n) + x.toNat / 2 ^ n)
def shrN (n : Nat) (x : UInt32) : UInt32 := UInt32.ofNat (x.toNat / 2 ^ n)

theorem rot_sum (x n : Nat) (h1 : 1 ≤ n) (h31 : n ≤ 31) (hx : x < 4294967296) : (x % 2 ^ n) * 2 ^ (32 - n) + x / 2 ^ n < 4294967296 := by
  have e : 2 ^ n * 2 ^ (32 - n) = 4294967296 := by rw [← Nat.pow_add, show n + (32 - n) = 32 by omega]
  have hp : 0 < 2 ^ n := Nat.pow_pos (by decide)
  have hq : 0 < 2 ^ (32 - n) := Nat.pow_pos (by decide)
  have h2 : x / 2 ^ n < 2 ^ (32 - n) := by
    rw [Nat.div_lt_iff_lt_mul hp, Nat.mul_comm, e]; exact hx
  have h3 := Nat.mod_lt x hp
  have h4 : (x % 2 ^ n + 1) * 2 ^ (32 - n) ≤ 2 ^ n * 2 ^ (32 - n) := Nat.mul_le_mul_right _ h3
  rw [e, Nat.add_mul, Nat.one_mul] at h4
  omega
theorem rot_low (x n : Nat) (h31 : n ≤ 31) : x * 2 ^ (32 - n) % 4294967296 = (x % 2 ^ n) * 2 ^ (32 - n) := by
  have e : 4294967296 = 2 ^ n * 2 ^ (32 - n) := by rw [← Nat.pow_add, show n + (32 - n) = 32 by omega]
  rw [e, Nat.mul_mod_mul_right]
theorem rotN_toNat (n : Nat) (x : UInt32) (h1 : 1 ≤ n) (h31 : n ≤ 31) : (rotN n x).toNat = (x.toNat % 2 ^ n) * 2 ^ (32 - n) + x.toNat / 2 ^ n := by
  unfold rotN
  exact UInt32.toNat_ofNat_of_lt' (rot_sum x.toNat n h1 h31 (w_lt x))
theorem shrN_toNat (n : Nat) (x : UInt32) : (shrN n x).toNat = x.toNat / 2 ^ n := by
  unfold shrN
  exact UInt32.toNat_ofNat_of_lt' (Nat.lt_of_le_of_lt (Nat.div_le_self _ _) (w_lt x))
/-- As the library turns: by 'or'. -/
theorem rot_or (n : Nat) (x : UInt32) (h1 : 1 ≤ n) (h31 : n ≤ 31) : (x.toNat * 2 ^ (32 - n) % 4294967296) ||| (x.toNat / 2 ^ n) = (rotN n x).toNat := by
  have hp : 0 < 2 ^ n := Nat.pow_pos (by decide)
  have e : 2 ^ (32 - n) * 2 ^ n = 4294967296 := by rw [← Nat.pow_add, show 32 - n + n = 32 by omega]
  have h2 : x.toNat / 2 ^ n < 2 ^ (32 - n) := by
    rw [Nat.div_lt_iff_lt_mul hp, e]; exact w_lt x
  rw [rot_low _ _ h31, rotN_toNat n x h1 h31, ← Nat.shiftLeft_eq, Nat.shiftLeft_add_eq_or_of_lt h2]
/-- As the reference turns: by a product and a sum. -/
theorem rot_add (n : Nat) (x : UInt32) (h1 : 1 ≤ n) (h31 : n ≤ 31) : (x.toNat / 2 ^ n + x.toNat * 2 ^ (32 - n) % 4294967296) % 4294967296 = (rotN n x).toNat := by
  rw [rot_low _ _ h31, rotN_toNat n x h1 h31, Nat.add_comm]
  exact Nat.mod_eq_of_lt (rot_sum x.toNat n h1 h31 (w_lt x))

theorem choice_eq (e f g : UInt32) : wXor g (wAnd e (wXor f g)) = wOr (wAnd e f) (wAnd (wNot e) g) := by
  unfold wXor wAnd wOr wNot
  apply UInt32.eq_of_toBitVec_eq
  simp only [UInt32.toBitVec_xor, UInt32.toBitVec_and, UInt32.toBitVec_or, UInt32.toBitVec_not]
  apply BitVec.eq_of_getLsbD_eq
  intro i hi
  simp only [BitVec.getLsbD_xor, BitVec.getLsbD_and, BitVec.getLsbD_or, BitVec.getLsbD_not, hi, decide_true, Bool.true_and]
  cases e.toBitVec.getLsbD i <;> cases f.toBitVec.getLsbD i <;> cases g.toBitVec.getLsbD i <;> rfl
theorem most_eq (a b c : UInt32) : wOr (wAnd a b) (wAnd c (wOr a b)) = wXor (wXor (wAnd a b) (wAnd a c)) (wAnd b c) := by
  unfold wXor wAnd wOr
  apply UInt32.eq_of_toBitVec_eq
  simp only [UInt32.toBitVec_xor, UInt32.toBitVec_and, UInt32.toBitVec_or]
  apply BitVec.eq_of_getLsbD_eq
  intro i hi
  simp only [BitVec.getLsbD_xor, BitVec.getLsbD_and, BitVec.getLsbD_or]
  cases a.toBitVec.getLsbD i <;> cases b.toBitVec.getLsbD i <;> cases c.toBitVec.getLsbD i <;> rfl

def threeW (a b : Nat) (x y : UInt32) : UInt32 := wXor (wXor (rotN a x) (rotN b x)) y
def turnedW (a b c : Nat) (x : UInt32) : UInt32 := threeW a b x (rotN c x)
def movedW (a b c : Nat) (x : UInt32) : UInt32 := threeW a b x (shrN c x)

/-- The first n numbers of a block. -/
def sched (b : List UInt8) : Nat → List UInt32
  | 0 => []
  | i + 1 => sched b i ++ [if i < 16 then wOfQ (numB ((b.drop (4 * i)).take 4))
      else wAdd (wAdd (wAdd ((sched b i).getD (i - 16) 0) ((sched b i).getD (i - 7) 0)) (movedW 7 18 3 ((sched b i).getD (i - 15) 0))) (movedW 17 19 10 ((sched b i).getD (i - 2) 0))]
theorem sched_length (b : List UInt8) : ∀ n, (sched b n).length = n
  | 0 => rfl
  | n + 1 => by rw [sched, List.length_append, sched_length b n]; rfl

/-- A state: eight numbers. -/
structure S8 where
  a : UInt32
  b : UInt32
  c : UInt32
  d : UInt32
  e : UInt32
  f : UInt32
  g : UInt32
  h : UInt32
def S8.l (s : S8) : List UInt32 := [s.a, s.b, s.c, s.d, s.e, s.f, s.g, s.h]
/-- A round. -/
def S8.rnd (s : S8) (k w : UInt32) : S8 :=
  let t := wAdd (wAdd (wAdd (wAdd s.h (turnedW 6 11 25 s.e)) (wXor s.g (wAnd s.e (wXor s.f s.g)))) k) w
  let u := wAdd (turnedW 2 13 22 s.a) (wOr (wAnd s.a s.b) (wAnd s.c (wOr s.a s.b)))
  ⟨wAdd t u, s.a, s.b, s.c, wAdd s.d t, s.e, s.f, s.g⟩
/-- The first n rounds. -/
def S8.rounds (s : S8) (k w : List UInt32) : Nat → S8
  | 0 => s
  | n + 1 => (s.rounds k w n).rnd (k.getD n 0) (w.getD n 0)
def S8.plus (x s : S8) : S8 := ⟨wAdd x.a s.a, wAdd x.b s.b, wAdd x.c s.c, wAdd x.d s.d, wAdd x.e s.e, wAdd x.f s.f, wAdd x.g s.g, wAdd x.h s.h⟩
/-- A block is eaten. -/
def S8.eat (s : S8) (k : List UInt32) (b : List UInt8) : S8 := (s.rounds k (sched b 64) 64).plus s

def kTab : List UInt32 := [0x428a2f98, 0x71374491, 0xb5c0fbcf, 0xe9b5dba5, 0x3956c25b, 0x59f111f1, 0x923f82a4, 0xab1c5ed5, 0xd807aa98, 0x12835b01, 0x243185be, 0x550c7dc3, 0x72be5d74, 0x80deb1fe, 0x9bdc06a7, 0xc19bf174,
  0xe49b69c1, 0xefbe4786, 0x0fc19dc6, 0x240ca1cc, 0x2de92c6f, 0x4a7484aa, 0x5cb0a9dc, 0x76f988da, 0x983e5152, 0xa831c66d, 0xb00327c8, 0xbf597fc7, 0xc6e00bf3, 0xd5a79147, 0x06ca6351, 0x14292967,
  0x27b70a85, 0x2e1b2138, 0x4d2c6dfc, 0x53380d13, 0x650a7354, 0x766a0abb, 0x81c2c92e, 0x92722c85, 0xa2bfe8a1, 0xa81a664b, 0xc24b8b70, 0xc76c51a3, 0xd192e819, 0xd6990624, 0xf40e3585, 0x106aa070,
  0x19a4c116, 0x1e376c08, 0x2748774c, 0x34b0bcb5, 0x391c0cb3, 0x4ed8aa4a, 0x5b9cca4f, 0x682e6ff3, 0x748f82ee, 0x78a5636f, 0x84c87814, 0x8cc70208, 0x90befffa, 0xa4506ceb, 0xbef9a3f7, 0xc67178f2]
def first8 : S8 := ⟨0x6a09e667, 0xbb67ae85, 0x3c6ef372, 0xa54ff53a, 0x510e527f, 0x9b05688c, 0x1f83d9ab, 0x5be0cd19⟩
/-- The tail of n bytes. -/
def tailB (n : Nat) : List UInt8 := 128 :: (List.replicate ((119 - n % 64) % 64) 0 ++ rowB (qMul (qI 8) (qOfI n)) 8)
/-- All blocks of a list. -/
def eatAll (k : List UInt32) : Nat → S8 → List UInt8 → S8
  | 0, s, _ => s
  | n + 1, s, b => eatAll k n (s.eat k (b.take 64)) (b.drop 64)
def printB (s : S8) : List UInt8 := s.l.flatMap fun x => rowB (qOfW x) 4
def sumB (b : List UInt8) : List UInt8 := printB (eatAll kTab ((b.length + (tailB b.length).length) / 64) first8 (b ++ tailB b.length))
end Go.Cit
