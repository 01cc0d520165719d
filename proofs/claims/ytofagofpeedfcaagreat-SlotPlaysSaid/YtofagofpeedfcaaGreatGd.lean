/- Texts of the proof, one behind the other: ShaDef, ShaRot, ShaFrac, ShaPrimes, Arr, ShaFirst, ShaSched, PhaseSt, BoxTwo, ShaEat1, ShaEat, ShaEatB. No condition but those that each names. -/
import Derived.Test.YtofagofpeedfcaaGreatGb
import Derived.Test.YtofagofpeedfcaaGreatGa
import Derived.Test.YtofagofpeedfcaaGreatShelf
import Derived.IntWalk
import Derived.Test.YtofagofpeedfcaaGreatGc
import Derived.Maps.AppendAt
import Derived.RangeFuncBox
import Derived.StillTailTactics
/- SHA-256, by itself: plain functions. No condition. -/
namespace Go.Cit

/-- Turned by n places, from 1 to 31; moved. -/
def rotN (n : Nat) (x : UInt32) : UInt32 := UInt32.ofNat ((x.toNat % 2 ^ n) * 2 ^ (32 - n) + x.toNat / 2 ^ n)
def shrN (n : Nat) (x : UInt32) : UInt32 := UInt32.ofNat (x.toNat / 2 ^ n)

theorem rot_sum (x n : Nat) (h1 : 1 ≤ n) (h31 : n ≤ 31) (hx : x < 4294967296) : (x % 2 ^ n) * 2 ^ (32 - n) + x / 2 ^ n < 4294967296 := by
  have e : 2 ^ n * 2 ^ (32 - n) = 4294967296 := by rw [← Nat.pow_add, show n + (32 - n) = 32 by omega]
  have hp : 0 < 2 ^ n := Nat.pow_pos (by decide)
  have hq : 0 < 2 ^ (32 - n) := Nat.pow_pos (by decide)
  have h2 : x / 2 ^ n < 2 ^ (32 - n) := by
    rw [Nat.div_lt_iff_lt_mul hp, Nat.mul_comm, e]; exact hx
  have h3 := Nat.mod_lt x hp
  have h4 : (x % 2 ^ n + 1) * 2 ^ (32 - n) ≤ 2 ^ n * 2 ^ (32 - n) := Nat.mul_le_mul_right _ h3
  rw [e, Nat.add_mul, Nat.one_mul] at h4
  omega
theorem rot_low (x n : Nat) (h31 : n ≤ 31) : x * 2 ^ (32 - n) % 4294967296 = (x % 2 ^ n) * 2 ^ (32 - n) := by
  have e : 4294967296 = 2 ^ n * 2 ^ (32 - n) := by rw [← Nat.pow_add, show n + (32 - n) = 32 by omega]
  rw [e, Nat.mul_mod_mul_right]
theorem rotN_toNat (n : Nat) (x : UInt32) (h1 : 1 ≤ n) (h31 : n ≤ 31) : (rotN n x).toNat = (x.toNat % 2 ^ n) * 2 ^ (32 - n) + x.toNat / 2 ^ n := by
  unfold rotN
  exact UInt32.toNat_ofNat_of_lt' (rot_sum x.toNat n h1 h31 (w_lt x))
theorem shrN_toNat (n : Nat) (x : UInt32) : (shrN n x).toNat = x.toNat / 2 ^ n := by
  unfold shrN
  exact UInt32.toNat_ofNat_of_lt' (Nat.lt_of_le_of_lt (Nat.div_le_self _ _) (w_lt x))
/-- As the library turns: by 'or'. -/
theorem rot_or (n : Nat) (x : UInt32) (h1 : 1 ≤ n) (h31 : n ≤ 31) : (x.toNat * 2 ^ (32 - n) % 4294967296) ||| (x.toNat / 2 ^ n) = (rotN n x).toNat := by
  have hp : 0 < 2 ^ n := Nat.pow_pos (by decide)
  have e : 2 ^ (32 - n) * 2 ^ n = 4294967296 := by rw [← Nat.pow_add, show 32 - n + n = 32 by omega]
  have h2 : x.toNat / 2 ^ n < 2 ^ (32 - n) := by
    rw [Nat.div_lt_iff_lt_mul hp, e]; exact w_lt x
  rw [rot_low _ _ h31, rotN_toNat n x h1 h31, ← Nat.shiftLeft_eq, Nat.shiftLeft_add_eq_or_of_lt h2]
/-- As the reference turns: by a product and a sum. -/
theorem rot_add (n : Nat) (x : UInt32) (h1 : 1 ≤ n) (h31 : n ≤ 31) : (x.toNat / 2 ^ n + x.toNat * 2 ^ (32 - n) % 4294967296) % 4294967296 = (rotN n x).toNat := by
  rw [rot_low _ _ h31, rotN_toNat n x h1 h31, Nat.add_comm]
  exact Nat.mod_eq_of_lt (rot_sum x.toNat n h1 h31 (w_lt x))

theorem choice_eq (e f g : UInt32) : wXor g (wAnd e (wXor f g)) = wOr (wAnd e f) (wAnd (wNot e) g) := by
  unfold wXor wAnd wOr wNot
  apply UInt32.eq_of_toBitVec_eq
  simp only [UInt32.toBitVec_xor, UInt32.toBitVec_and, UInt32.toBitVec_or, UInt32.toBitVec_not]
  apply BitVec.eq_of_getLsbD_eq
  intro i hi
  simp only [BitVec.getLsbD_xor, BitVec.getLsbD_and, BitVec.getLsbD_or, BitVec.getLsbD_not, hi, decide_true, Bool.true_and]
  cases e.toBitVec.getLsbD i <;> cases f.toBitVec.getLsbD i <;> cases g.toBitVec.getLsbD i <;> rfl
theorem most_eq (a b c : UInt32) : wOr (wAnd a b) (wAnd c (wOr a b)) = wXor (wXor (wAnd a b) (wAnd a c)) (wAnd b c) := by
  unfold wXor wAnd wOr
  apply UInt32.eq_of_toBitVec_eq
  simp only [UInt32.toBitVec_xor, UInt32.toBitVec_and, UInt32.toBitVec_or]
  apply BitVec.eq_of_getLsbD_eq
  intro i hi
  simp only [BitVec.getLsbD_xor, BitVec.getLsbD_and, BitVec.getLsbD_or]
  cases a.toBitVec.getLsbD i <;> cases b.toBitVec.getLsbD i <;> cases c.toBitVec.getLsbD i <;> rfl

def threeW (a b : Nat) (x y : UInt32) : UInt32 := wXor (wXor (rotN a x) (rotN b x)) y
def turnedW (a b c : Nat) (x : UInt32) : UInt32 := threeW a b x (rotN c x)
def movedW (a b c : Nat) (x : UInt32) : UInt32 := threeW a b x (shrN c x)

/-- The first n numbers of a block. -/
def sched (b : List UInt8) : Nat → List UInt32
  | 0 => []
  | i + 1 => sched b i ++ [if i < 16 then wOfQ (numB ((b.drop (4 * i)).take 4))
      else wAdd (wAdd (wAdd ((sched b i).getD (i - 16) 0) ((sched b i).getD (i - 7) 0)) (movedW 7 18 3 ((sched b i).getD (i - 15) 0))) (movedW 17 19 10 ((sched b i).getD (i - 2) 0))]
theorem sched_length (b : List UInt8) : ∀ n, (sched b n).length = n
  | 0 => rfl
  | n + 1 => by rw [sched, List.length_append, sched_length b n]; rfl

/-- A state: eight numbers. -/
structure S8 where
  a : UInt32
  b : UInt32
  c : UInt32
  d : UInt32
  e : UInt32
  f : UInt32
  g : UInt32
  h : UInt32
def S8.l (s : S8) : List UInt32 := [s.a, s.b, s.c, s.d, s.e, s.f, s.g, s.h]
/-- A round. -/
def S8.rnd (s : S8) (k w : UInt32) : S8 :=
  let t := wAdd (wAdd (wAdd (wAdd s.h (turnedW 6 11 25 s.e)) (wXor s.g (wAnd s.e (wXor s.f s.g)))) k) w
  let u := wAdd (turnedW 2 13 22 s.a) (wOr (wAnd s.a s.b) (wAnd s.c (wOr s.a s.b)))
  ⟨wAdd t u, s.a, s.b, s.c, wAdd s.d t, s.e, s.f, s.g⟩
/-- The first n rounds. -/
def S8.rounds (s : S8) (k w : List UInt32) : Nat → S8
  | 0 => s
  | n + 1 => (s.rounds k w n).rnd (k.getD n 0) (w.getD n 0)
def S8.plus (x s : S8) : S8 := ⟨wAdd x.a s.a, wAdd x.b s.b, wAdd x.c s.c, wAdd x.d s.d, wAdd x.e s.e, wAdd x.f s.f, wAdd x.g s.g, wAdd x.h s.h⟩
/-- A block is eaten. -/
def S8.eat (s : S8) (k : List UInt32) (b : List UInt8) : S8 := (s.rounds k (sched b 64) 64).plus s

def kTab : List UInt32 := [0x428a2f98, 0x71374491, 0xb5c0fbcf, 0xe9b5dba5, 0x3956c25b, 0x59f111f1, 0x923f82a4, 0xab1c5ed5, 0xd807aa98, 0x12835b01, 0x243185be, 0x550c7dc3, 0x72be5d74, 0x80deb1fe, 0x9bdc06a7, 0xc19bf174,
  0xe49b69c1, 0xefbe4786, 0x0fc19dc6, 0x240ca1cc, 0x2de92c6f, 0x4a7484aa, 0x5cb0a9dc, 0x76f988da, 0x983e5152, 0xa831c66d, 0xb00327c8, 0xbf597fc7, 0xc6e00bf3, 0xd5a79147, 0x06ca6351, 0x14292967,
  0x27b70a85, 0x2e1b2138, 0x4d2c6dfc, 0x53380d13, 0x650a7354, 0x766a0abb, 0x81c2c92e, 0x92722c85, 0xa2bfe8a1, 0xa81a664b, 0xc24b8b70, 0xc76c51a3, 0xd192e819, 0xd6990624, 0xf40e3585, 0x106aa070,
  0x19a4c116, 0x1e376c08, 0x2748774c, 0x34b0bcb5, 0x391c0cb3, 0x4ed8aa4a, 0x5b9cca4f, 0x682e6ff3, 0x748f82ee, 0x78a5636f, 0x84c87814, 0x8cc70208, 0x90befffa, 0xa4506ceb, 0xbef9a3f7, 0xc67178f2]
def first8 : S8 := ⟨0x6a09e667, 0xbb67ae85, 0x3c6ef372, 0xa54ff53a, 0x510e527f, 0x9b05688c, 0x1f83d9ab, 0x5be0cd19⟩
/-- The tail of n bytes. -/
def tailB (n : Nat) : List UInt8 := 128 :: (List.replicate ((119 - n % 64) % 64) 0 ++ rowB (qMul (qI 8) (qOfI n)) 8)
/-- All blocks of a list. -/
def eatAll (k : List UInt32) : Nat → S8 → List UInt8 → S8
  | 0, s, _ => s
  | n + 1, s, b => eatAll k n (s.eat k (b.take 64)) (b.drop 64)
def printB (s : S8) : List UInt8 := s.l.flatMap fun x => rowB (qOfW x) 4
def sumB (b : List UInt8) : List UInt8 := printB (eatAll kTab ((b.length + (tailB b.length).length) / 64) first8 (b ++ tailB b.length))
end Go.Cit

/- sha.three, turned, moved: walked. -/
namespace Go.Proofs.YtofagofpeedfcaaGreat
open Go Go.RowKit Go.Cit

theorem neg_and (a : Nat) (h1 : 1 ≤ a) (h31 : a ≤ 31) : bits BinOp.and IntKind.u64 (IntKind.u64.wrap (-(a : Int))) 31 = ((32 - a : Nat) : Int) := by
  have h : ∀ a : Fin 32, 1 ≤ a.1 → bits BinOp.and IntKind.u64 (IntKind.u64.wrap (-(a.1 : Int))) 31 = ((32 - a.1 : Nat) : Int) := by decide +kernel
  exact h ⟨a, by omega⟩ h1

theorem rot_calls (w : World) (x : UInt32) (a : Nat) (h1 : 1 ≤ a) (h31 : a ≤ 31) :
    Calls Tryz.prog 97 #[vw x, .int .i64 (-(a : Int))] w fun e w' => e = .returned (vw (rotN a x)) ∧ w' = w := by
  have hs := neg_and a h1 h31
  obtain ⟨s, hsd⟩ : ∃ s, 32 - a = s := ⟨_, rfl⟩
  rw [hsd] at hs
  have hs1 : (s : Int) ≤ 32 := by omega
  have hs2 : (32 : Int) - s = a := by omega
  have hs3 : (0 : Int) ≤ a := by omega
  have hs4 : (a : Int) ≤ 32 := by omega
  have HR : Hid (bits .or .u32 (IntKind.u32.wrap ((x.toNat : Int) * 2 ^ s)) ((x.toNat : Int) / 2 ^ a) = ((rotN a x).toNat : Int)) := by
    have h := rot_or a x h1 h31
    rw [hsd] at h
    have e1 : IntKind.u32.wrap ((x.toNat : Int) * 2 ^ s) = ((x.toNat * 2 ^ s % 4294967296 : Nat) : Int) := by
      rw [wrap_u32_eq, Int.natCast_emod, Int.natCast_mul, Int.natCast_pow]; rfl
    have e2 : (x.toNat : Int) / 2 ^ a = ((x.toNat / 2 ^ a : Nat) : Int) := by rw [Int.natCast_ediv, Int.natCast_pow]; rfl
    rw [Hid, e1, e2, u32_or_nat _ _ (Nat.mod_lt _ (by decide)) (Nat.lt_of_le_of_lt (Nat.div_le_self _ _) (w_lt x)), h]
  clear hsd h1 h31
  go_enter Tryz.func97, Tryz.ntmps97
  go_wp2_with fail
  go_ret
  exact ⟨ret_int HR.out, rfl⟩
theorem three_calls (w : World) (x y : UInt32) (a b : Nat) (h1 : 1 ≤ a) (h31 : a ≤ 31) (k1 : 1 ≤ b) (k31 : b ≤ 31) :
    Calls Tryz.prog 96 #[vw x, .int .i64 (a : Int), .int .i64 (b : Int), vw y] w fun e w' => e = .returned (vw (threeW a b x y)) ∧ w' = w := by
  go_enter Tryz.func96, Tryz.ntmps96
  go_wp2_with fail
  refine (rot_calls w x a h1 h31).mono ?_
  rintro e w' ⟨rfl, rfl⟩
  go_wp2_with fail
  refine (rot_calls _ x b k1 k31).mono ?_
  rintro e w' ⟨rfl, rfl⟩
  go_wp2_with fail
  go_ret
  exact ⟨rfl, rfl⟩
theorem turned_calls (w : World) (x : UInt32) (a b c : Nat) (h1 : 1 ≤ a) (h31 : a ≤ 31) (k1 : 1 ≤ b) (k31 : b ≤ 31) (m1 : 1 ≤ c) (m31 : c ≤ 31) :
    Calls Tryz.prog 84 #[vw x, .int .i64 (a : Int), .int .i64 (b : Int), .int .i64 (c : Int)] w fun e w' => e = .returned (vw (turnedW a b c x)) ∧ w' = w := by
  go_enter Tryz.func84, Tryz.ntmps84
  go_wp2_with fail
  refine (rot_calls w x c m1 m31).mono ?_
  rintro e w' ⟨rfl, rfl⟩
  go_wp2_with fail
  refine (three_calls _ x _ a b h1 h31 k1 k31).mono ?_
  rintro e w' ⟨rfl, rfl⟩
  go_wp2_with fail
  go_ret
  exact ⟨rfl, rfl⟩
theorem moved_calls (w : World) (x : UInt32) (a b c : Nat) (h1 : 1 ≤ a) (h31 : a ≤ 31) (k1 : 1 ≤ b) (k31 : b ≤ 31) (m31 : c ≤ 31) :
    Calls Tryz.prog 95 #[vw x, .int .i64 (a : Int), .int .i64 (b : Int), .int .i64 (c : Int)] w fun e w' => e = .returned (vw (movedW a b c x)) ∧ w' = w := by
  have hc0 : (0 : Int) ≤ c := by omega
  have hc1 : (c : Int) ≤ 32 := by omega
  have hS : Hid ((x.toNat : Int) / 2 ^ c = ((shrN c x).toNat : Int)) := by
    rw [Hid, shrN_toNat, Int.natCast_ediv, Int.natCast_pow]; rfl
  have hk : Calls Tryz.prog 96 #[vw x, .int .i64 (a : Int), .int .i64 (b : Int), .int .u32 ((x.toNat : Int) / 2 ^ c)] w fun e w' => e = .returned (vw (movedW a b c x)) ∧ w' = w := by
    rw [hS.out]; exact three_calls w x _ a b h1 h31 k1 k31
  go_enter Tryz.func95, Tryz.ntmps95
  go_wp2_with fail
  refine hk.mono ?_
  rintro e w' ⟨rfl, rfl⟩
  go_wp2_with fail
  go_ret
  exact ⟨rfl, rfl⟩
end Go.Proofs.YtofagofpeedfcaaGreat

/- sha.square, cube, fraction: walked. -/
namespace Go.Proofs.YtofagofpeedfcaaGreat
open Go Go.RowKit Go.Cit

/-- Is the square of x at most p, 2^64 times; is the cube, 2^96 times? -/
def sqN (x p : Nat) : Bool := decide (x * x / 18446744073709551616 < p) || (decide (x * x / 18446744073709551616 = p) && decide (x * x % 18446744073709551616 = 0))
def cuHi (x : Nat) : Nat := (x * x / 18446744073709551616 * x % 18446744073709551616 + x * x % 18446744073709551616 * x / 18446744073709551616) % 18446744073709551616
def cuLo (x : Nat) : Nat := x * x % 18446744073709551616 * x % 18446744073709551616
def cuN (x p : Nat) : Bool := decide (cuHi x < p * 4294967296) || (decide (cuHi x = p * 4294967296) && decide (cuLo x = 0))

theorem eqI {a b : Nat} {r : Bool} (h : decide (a = b) = r) : ((a : Int) == (b : Int)) = r := by
  rw [← h, Bool.eq_iff_iff, beq_iff_eq, decide_eq_true_eq]
  constructor <;> intro h <;> omega

theorem square_calls (w : World) (x p : Nat) (hx : x < 274877906944) (hp : p < 4294967296) :
    Calls Tryz.prog 78 #[.int .u64 x, .int .u64 p] w fun e w' => e = .returned (.bool (sqN x p)) ∧ w' = w := by
  have hm := Tryz.bits_Mul64 x x (by omega) (by omega) w
  have HV : Hid (sqN x p = (decide (x * x / 18446744073709551616 < p) || (decide (x * x / 18446744073709551616 = p) && decide (x * x % 18446744073709551616 = 0)))) := rfl
  generalize x * x / 18446744073709551616 = h at hm HV
  generalize x * x % 18446744073709551616 = l at hm HV
  obtain ⟨b1, hb1⟩ : ∃ b, decide (h < p) = b := ⟨_, rfl⟩
  obtain ⟨b2, hb2⟩ : ∃ b, decide (h = p) = b := ⟨_, rfl⟩
  obtain ⟨b3, hb3⟩ : ∃ b, decide (l = 0) = b := ⟨_, rfl⟩
  rw [hb1, hb2, hb3] at HV
  have e2 := eqI hb2
  have e3 : ((l : Int) == 0) = b3 := eqI hb3
  have e1 : decide ((h : Int) < (p : Int)) = b1 := by rw [← hb1]; simp
  have HB := Lib.hid (And.intro hb2 hb3)
  clear hb2 hb3
  cases b1 <;> cases b2 <;> cases b3
  all_goals
    go_enter Tryz.func78, Tryz.ntmps78
    go_wp2_with fail
    refine hm.mono ?_
    rintro e w' ⟨rfl, rfl⟩
    go_wp2_with fail
    go_ret
    exact ⟨by rw [HV.out]; rfl, rfl⟩

set_option maxHeartbeats 1000000 in
theorem cube_calls (w : World) (x p : Nat) (hx : x < 274877906944) (hp : p < 4294967296) :
    Calls Tryz.prog 79 #[.int .u64 x, .int .u64 p] w fun e w' => e = .returned (.bool (cuN x p)) ∧ w' = w := by
  have hm := Tryz.bits_Mul64 x x (by omega) (by omega) w
  have hm2 := Tryz.bits_Mul64 (x * x % 18446744073709551616) x (Nat.mod_lt _ (by decide)) (by omega) w
  have HV : Hid (cuN x p = (decide (cuHi x < p * 4294967296) || (decide (cuHi x = p * 4294967296) && decide (cuLo x = 0)))) := rfl
  have e5 : IntKind.u64.wrap ((p : Int) * 4294967296) = ((p * 4294967296 : Nat) : Int) := by rw [wrap_u64_eq]; omega
  have HC : Hid (cuHi x = (x * x / 18446744073709551616 * x % 18446744073709551616 + x * x % 18446744073709551616 * x / 18446744073709551616) % 18446744073709551616) := rfl
  have HL : Hid (cuLo x = x * x % 18446744073709551616 * x % 18446744073709551616) := rfl
  generalize x * x % 18446744073709551616 * x / 18446744073709551616 = m at hm2 HC
  generalize x * x % 18446744073709551616 * x % 18446744073709551616 = k at hm2 HL
  generalize x * x / 18446744073709551616 = h at hm HC
  generalize x * x % 18446744073709551616 = l at hm hm2
  have e6 : IntKind.u64.wrap (IntKind.u64.wrap ((h : Int) * (x : Int)) + (m : Int)) = ((cuHi x : Nat) : Int) := by
    rw [wrap_u64_eq, wrap_u64_eq, HC.out, Int.natCast_emod, Int.natCast_add, Int.natCast_emod, Int.natCast_mul]; rfl
  rw [← HL.out] at hm2
  generalize cuHi x = H at e6 HV
  generalize cuLo x = L at hm2 HV
  generalize p * 4294967296 = Q at e5 HV
  obtain ⟨b1, hb1⟩ : ∃ b, decide (H < Q) = b := ⟨_, rfl⟩
  obtain ⟨b2, hb2⟩ : ∃ b, decide (H = Q) = b := ⟨_, rfl⟩
  obtain ⟨b3, hb3⟩ : ∃ b, decide (L = 0) = b := ⟨_, rfl⟩
  rw [hb1, hb2, hb3] at HV
  have e2 := eqI hb2
  have e3 : ((L : Int) == 0) = b3 := eqI hb3
  have e1 : decide ((H : Int) < (Q : Int)) = b1 := by rw [← hb1]; simp
  have HB := Lib.hid (And.intro hb2 hb3)
  clear hb2 hb3 HC HL
  cases b1 <;> cases b2 <;> cases b3
  all_goals
    go_enter Tryz.func79, Tryz.ntmps79
    go_wp2_with fail
    refine hm.mono ?_
    rintro e w' ⟨rfl, rfl⟩
    go_wp2_with fail
    refine hm2.mono ?_
    rintro e w' ⟨rfl, rfl⟩
    go_wp2_with fail
    go_ret
    exact ⟨by rw [HV.out]; rfl, rfl⟩

/-- The greatest number below 2^m beyond fr of which h holds. -/
def bis (h : Nat → Bool) : Nat → Nat → Nat
  | 0, fr => fr
  | m + 1, fr => if h (fr + 2 ^ m) then bis h m (fr + 2 ^ m) else bis h m fr

set_option maxHeartbeats 1000000 in
theorem fracSq_calls (w : World) (p : Nat) (hp : p < 4294967296) :
    Calls Tryz.prog 77 #[.int .u64 p, .func (.func 78) #[] #[]] w fun e w' => e = .returned (.int .u32 ((bis (fun x => sqN x p) 37 0 % 4294967296 : Nat) : Int)) ∧ w' = w := by
  go_enter Tryz.func77, Tryz.ntmps77
  go_wp2_with fail
  go_loop [5, 6] (fun a b => ∃ m fr : Nat, m ≤ 37 ∧ Hid (fr + 2 ^ m ≤ 137438953472) ∧ a = .int .u64 fr ∧ b = .int .u64 ((fr + 2 ^ m : Nat) : Int) ∧ Hid (bis (fun x => sqN x p) m fr = bis (fun x => sqN x p) 37 0)) (fun a b => (intOf b - intOf a).toNat)
  case atStart => exact ⟨37, 0, Nat.le_refl _, by rw [Hid]; decide, rfl, rfl, rfl⟩
  case round =>
    obtain ⟨m, fr, hm, HF, rfl, rfl, HB⟩ := hrel
    cases m with
    | zero =>
      have h1 : decide ((1 : Int) < 1) = false := by decide
      have e0 : ((fr + 2 ^ 0 : Nat) : Int) = (fr : Int) + 1 := by rw [Nat.pow_zero]; omega
      rw [e0]
      have hfr : (fr : Int) + 1 ≤ 137438953472 := by have := HF.out; rw [Nat.pow_zero] at this; omega
      have HB2 : Hid (fr = bis (fun x => sqN x p) 37 0) := HB.out
      have e1 : (fr : Int) + 1 - fr = 1 := by omega
      have e2 : IntKind.u32.wrap (fr : Int) = ((fr % 4294967296 : Nat) : Int) := by rw [wrap_u32_eq, Int.natCast_emod]; rfl
      clear HB HF
      go_wp2_with fail
      go_ret
      exact ⟨ret_int (by rw [← HB2.out]), rfl⟩
    | succ m =>
      obtain ⟨q, hq⟩ : ∃ q, 2 ^ m = q := ⟨_, rfl⟩
      have hq1 : 1 ≤ q := by rw [← hq]; exact Nat.one_le_two_pow
      have hF := HF.out
      rw [Nat.pow_succ, hq] at hF
      have e0 : ((fr + 2 ^ (m + 1) : Nat) : Int) = (fr : Int) + 2 * q := by rw [Nat.pow_succ, hq]; omega
      rw [e0]
      have e1 : (fr : Int) + 2 * q - fr = 2 * q := by omega
      have d1 : decide ((1 : Int) < 2 * q) = true := by simp; omega
      have e3 : ((fr : Int) + ((fr : Int) + 2 * q)) / 2 = ((fr + q : Nat) : Int) := by omega
      have b1 : (fr : Int) + 2 * q ≤ 137438953472 := by omega
      have HQ := Lib.hid hq
      have HBS : Hid (bis (fun x => sqN x p) (m + 1) fr = if sqN (fr + q) p then bis (fun x => sqN x p) m (fr + q) else bis (fun x => sqN x p) m fr) := by rw [Hid, bis, hq]
      have hc := square_calls w (fr + q) p (by omega) hp
      clear hq hF e0
      cases hb : sqN (fr + q) p with
      | true =>
        rw [hb] at hc
        have HB1 := Lib.hid hb
        clear hb
        go_wp2_with fail
        refine hc.mono ?_
        rintro e w' ⟨rfl, rfl⟩
        go_wp2_with fail
        go_round
        case rel => exact ⟨m, fr + q, by omega, by rw [Hid, HQ.out]; omega, rfl, by rw [HQ.out]; go_num, by rw [Hid, ← HB.out, HBS.out, HB1.out]; rfl⟩
        case measure => simp [intOf]; omega
      | false =>
        rw [hb] at hc
        have HB1 := Lib.hid hb
        clear hb
        go_wp2_with fail
        refine hc.mono ?_
        rintro e w' ⟨rfl, rfl⟩
        go_wp2_with fail
        go_round
        case rel => exact ⟨m, fr, by omega, by rw [Hid, HQ.out]; omega, rfl, by rw [HQ.out]; go_num, by rw [Hid, ← HB.out, HBS.out, HB1.out]; rfl⟩
        case measure => simp [intOf]; omega

set_option maxHeartbeats 1000000 in
theorem fracCu_calls (w : World) (p : Nat) (hp : p < 4294967296) :
    Calls Tryz.prog 77 #[.int .u64 p, .func (.func 79) #[] #[]] w fun e w' => e = .returned (.int .u32 ((bis (fun x => cuN x p) 37 0 % 4294967296 : Nat) : Int)) ∧ w' = w := by
  go_enter Tryz.func77, Tryz.ntmps77
  go_wp2_with fail
  go_loop [5, 6] (fun a b => ∃ m fr : Nat, m ≤ 37 ∧ Hid (fr + 2 ^ m ≤ 137438953472) ∧ a = .int .u64 fr ∧ b = .int .u64 ((fr + 2 ^ m : Nat) : Int) ∧ Hid (bis (fun x => cuN x p) m fr = bis (fun x => cuN x p) 37 0)) (fun a b => (intOf b - intOf a).toNat)
  case atStart => exact ⟨37, 0, Nat.le_refl _, by rw [Hid]; decide, rfl, rfl, rfl⟩
  case round =>
    obtain ⟨m, fr, hm, HF, rfl, rfl, HB⟩ := hrel
    cases m with
    | zero =>
      have h1 : decide ((1 : Int) < 1) = false := by decide
      have e0 : ((fr + 2 ^ 0 : Nat) : Int) = (fr : Int) + 1 := by rw [Nat.pow_zero]; omega
      rw [e0]
      have hfr : (fr : Int) + 1 ≤ 137438953472 := by have := HF.out; rw [Nat.pow_zero] at this; omega
      have HB2 : Hid (fr = bis (fun x => cuN x p) 37 0) := HB.out
      have e1 : (fr : Int) + 1 - fr = 1 := by omega
      have e2 : IntKind.u32.wrap (fr : Int) = ((fr % 4294967296 : Nat) : Int) := by rw [wrap_u32_eq, Int.natCast_emod]; rfl
      clear HB HF
      go_wp2_with fail
      go_ret
      exact ⟨ret_int (by rw [← HB2.out]), rfl⟩
    | succ m =>
      obtain ⟨q, hq⟩ : ∃ q, 2 ^ m = q := ⟨_, rfl⟩
      have hq1 : 1 ≤ q := by rw [← hq]; exact Nat.one_le_two_pow
      have hF := HF.out
      rw [Nat.pow_succ, hq] at hF
      have e0 : ((fr + 2 ^ (m + 1) : Nat) : Int) = (fr : Int) + 2 * q := by rw [Nat.pow_succ, hq]; omega
      rw [e0]
      have e1 : (fr : Int) + 2 * q - fr = 2 * q := by omega
      have d1 : decide ((1 : Int) < 2 * q) = true := by simp; omega
      have e3 : ((fr : Int) + ((fr : Int) + 2 * q)) / 2 = ((fr + q : Nat) : Int) := by omega
      have b1 : (fr : Int) + 2 * q ≤ 137438953472 := by omega
      have HQ := Lib.hid hq
      have HBS : Hid (bis (fun x => cuN x p) (m + 1) fr = if cuN (fr + q) p then bis (fun x => cuN x p) m (fr + q) else bis (fun x => cuN x p) m fr) := by rw [Hid, bis, hq]
      have hc := cube_calls w (fr + q) p (by omega) hp
      clear hq hF e0
      cases hb : cuN (fr + q) p with
      | true =>
        rw [hb] at hc
        have HB1 := Lib.hid hb
        clear hb
        go_wp2_with fail
        refine hc.mono ?_
        rintro e w' ⟨rfl, rfl⟩
        go_wp2_with fail
        go_round
        case rel => exact ⟨m, fr + q, by omega, by rw [Hid, HQ.out]; omega, rfl, by rw [HQ.out]; go_num, by rw [Hid, ← HB.out, HBS.out, HB1.out]; rfl⟩
        case measure => simp [intOf]; omega
      | false =>
        rw [hb] at hc
        have HB1 := Lib.hid hb
        clear hb
        go_wp2_with fail
        refine hc.mono ?_
        rintro e w' ⟨rfl, rfl⟩
        go_wp2_with fail
        go_round
        case rel => exact ⟨m, fr, by omega, by rw [Hid, HQ.out]; omega, rfl, by rw [HQ.out]; go_num, by rw [Hid, ← HB.out, HBS.out, HB1.out]; rfl⟩
        case measure => simp [intOf]; omega

end Go.Proofs.YtofagofpeedfcaaGreat

/- sha.primes: walked. -/
namespace Go.Proofs.YtofagofpeedfcaaGreat
open Go Go.RowKit Go.Cit

/-- No number of l divides x. -/
def noneDiv (l : List Nat) (x : Nat) : Bool := l.foldl (fun b p => b && decide (x % p ≠ 0)) true
/-- The primes below x. -/
def prm : Nat → List Nat
  | 0 => []
  | x + 1 => if 2 ≤ x ∧ noneDiv (prm x) x = true then prm x ++ [x] else prm x
theorem prm_pos : ∀ x, ∀ p ∈ prm x, 2 ≤ p ∧ p < x
  | 0, p, h => by simp [prm] at h
  | x + 1, p, h => by
    rw [prm] at h
    split at h
    · rename_i hx
      rcases List.mem_append.1 h with h | h
      · have := prm_pos x p h; omega
      · obtain rfl : p = x := by simpa using h
        omega
    · have := prm_pos x p h; omega
theorem prm_pre : ∀ (d x : Nat), prm x <+: prm (x + d)
  | 0, x => List.prefix_refl _
  | d + 1, x => by
    refine List.IsPrefix.trans (prm_pre d x) ?_
    rw [← Nat.add_assoc, prm]
    split
    · exact List.prefix_append _ _
    · exact List.prefix_refl _
theorem prm_len (x : Nat) : (prm x).length ≤ x := by
  induction x with
  | zero => simp [prm]
  | succ x ih =>
    rw [prm]
    split
    · rw [List.length_append]; simp; omega
    · omega

@[reducible] def vn (n : Nat) : Value := .int .u64 (n : Int)
theorem infoQ : (Tryz.prog.info? 95).map (fun i => (i.zero, i.size, i.bytes)) = some (some (.int .u64 0), 1, 8) := by kernel_rfl
theorem szQ : ∀ w, (sizeOf 95).run Tryz.prog w = .ok 1 w := by intro w; kernel_rfl

/-- A slice of numbers of the call's own. -/
structure Qs (B : Nat) (w : World) (a : Option Addr) (l : List Nat) (c : Nat) : Prop where
  row : w.ownsRow B 95 1 (.slice a l.length c) l.length (l.map vn)
theorem Qs.cell {B w a l c} (h : Qs B w a l c) (i : Nat) (hi : i < l.length) : ∃ g, a = some ⟨g, 0, none⟩ ∧ w.cell? ⟨g, i, none⟩ = some (vn l[i]) := by
  rcases h.row.2 with ⟨hv, hn⟩ | ⟨g, cap, cur, hv, hb, hg, _⟩
  · omega
  · injection hv with h1 h2 h3
    refine ⟨g, h1, ?_⟩
    have := h.row.cells (g := g) (by rw [h1]; rfl) i (vn l[i]) (by simp [hi])
    have ea : (⟨g, 0, none⟩ : Addr).add i = ⟨g, i, none⟩ := by unfold Addr.add; split <;> simp_all
    rwa [ea] at this
theorem Qs.index {B w a l c} (h : Qs B w a l c) (i : Nat) (hi : i < l.length) :
    ∀ w, (Instr.indexAt 113 (.slice a l.length c) (.int .i64 (i : Int))).run Tryz.prog w = .ok (.pointer (some (ad a i))) w := by
  intro w
  obtain ⟨g, rfl, _⟩ := h.cell i hi
  have hT : Tryz.prog.underlying 113 = some (.slice 95) := Tryz.underlying113
  have he : Tryz.prog.elem 113 = 95 := by simp [Program.elem, hT]
  rw [run_indexAt_slice w _ _ _ _ _ _ (by rw [he]; exact hT), if_pos (by omega), he, szQ]
  simp only [Result.andThen, ad, Addr.add]
  by_cases h0 : i = 0
  · subst h0; simp
  · simp [h0]
theorem Qs.save {S : Nat → Prop} {B w w' a l c} (h : Qs B w a l c) (hs : Save S w w') (hS : ∀ g, B ≤ g → g < w.heap.size → S g) : Qs B w' a l c := by
  refine ⟨h.row.1, ?_⟩
  rcases h.row.2 with hn | ⟨g, cap, cur, hv, hb, hg, rest⟩
  · exact .inl hn
  · have hlt := (Array.getElem?_eq_some_iff.1 hg).1
    exact .inr ⟨g, cap, cur, hv, hb, (hs.block g hlt (hS g hb hlt)).trans hg, rest⟩

theorem fold_false (x : Nat) : ∀ l : List Nat, l.foldl (fun b p => b && decide (x % p ≠ 0)) false = false
  | [] => rfl
  | p :: l => by rw [List.foldl_cons, Bool.false_and]; exact fold_false x l

set_option maxHeartbeats 2000000 in
theorem primes_calls (w : World) (n X : Nat) (hX : (prm X).length = n) (h9 : X ≤ 1000) (h2 : 2 ≤ X) :
    Calls Tryz.prog 76 #[.int .i64 n] w fun e w' => ∃ a c, e = .returned (.slice a n c) ∧ Qs w.heap.size w' a (prm X) c ∧ Below w.heap.size w w' := by
  have hn9 : n ≤ 1000 := by have := prm_len X; omega
  obtain ⟨ie, hi, hz0, hz1, hz2⟩ := info_parts infoQ
  go_enter Tryz.func76, Tryz.ntmps76
  go_wp2_with fail
  go_loopw [3, 4] (fun v q wr => ∃ (x : Nat) (a : Option Addr) (c : Nat) (l : List Nat), 2 ≤ x ∧ x ≤ X ∧ q = .int .u64 x ∧ Hid (l = prm x) ∧ v = .slice a l.length c ∧ Qs w.heap.size wr a l c ∧ Below w.heap.size w wr) (fun _ q _ => X - (intOf q).toNat)
  case atStart => exact ⟨2, none, 0, [], Nat.le_refl _, h2, rfl, rfl, rfl, ⟨World.ownsRow_nil _ _ _ _⟩, Below.refl _ _⟩
  case round =>
    obtain ⟨x, a, c, l, hx2, hxX, rfl, HL, rfl, hQ, B⟩ := hrel
    have hll : l.length ≤ 1000 := by rw [HL.out]; have := prm_len x; omega
    by_cases hlt : l.length < n
    · have hxlt : x < X := by
        rcases Nat.lt_or_ge x X with h | h
        · exact h
        · exfalso
          have : x = X := by omega
          rw [HL.out, this, hX] at hlt; omega
      have d1 : decide ((l.length : Int) < (n : Int)) = true := by simp; omega
      have d1' : decide (l.length < n) = true := by simpa using hlt
      go_wp2_with fail
      go_loop [5, 16] (fun b i => ∃ (k : Nat) (r : Bool), k ≤ l.length ∧ i = .int .i64 k ∧ b = .bool r ∧ Hid (r = (l.take k).foldl (fun b p => b && decide (x % p ≠ 0)) true)) (fun _ i => l.length - (intOf i).toNat)
      case atStart => exact ⟨0, true, Nat.zero_le _, rfl, rfl, rfl⟩
      case round =>
        obtain ⟨k, r, hk, rfl, rfl, HR⟩ := hrel
        by_cases hk2 : k < l.length
        · obtain ⟨g, rfl, hcell⟩ := hQ.cell k hk2
          have i0 := hQ.index k hk2
          have e0 : wr.cell? (ad (some ⟨g, 0, none⟩) k) = some (vn l[k]) := by simpa [ad] using hcell
          have hp := prm_pos x l[k] (by rw [← HL.out]; exact List.getElem_mem hk2)
          have HS : Hid ((l.take (k + 1)).foldl (fun b p => b && decide (x % p ≠ 0)) true = (r && decide (x % l[k] ≠ 0))) := by
            rw [Hid, List.take_succ_eq_append_getElem hk2, List.foldl_append, ← HR.out]; rfl
          obtain ⟨q, hq⟩ : ∃ q, l[k] = q := ⟨_, rfl⟩
          rw [hq] at e0 hp HS
          clear hq hcell
          have hp2 : (2 : Int) ≤ q := by omega
          have hpx : (q : Int) ≤ 1000 := by omega
          cases hd : decide (x % q ≠ 0) with
          | true =>
            rw [hd] at HS
            have m1 : (((x : Int) % (q : Int)) != 0) = true := by
              have := of_decide_eq_true hd
              simp only [bne_iff_ne]; intro h; apply this; omega
            have HD := Lib.hid hd
            clear hd
            cases r <;>
            (go_wp2_with fail
             go_round
             case rel => exact ⟨k + 1, _, by omega, by go_num, rfl, by rw [Hid, HS.out]; rfl⟩
             case measure => simp [intOf]; omega)
          | false =>
            rw [hd] at HS
            have m1 : (((x : Int) % (q : Int)) != 0) = false := by
              have := of_decide_eq_false hd
              simp only [bne_eq_false_iff_eq]
              omega
            have HD := Lib.hid hd
            clear hd
            cases r <;>
            (go_wp2_with fail
             go_round
             case rel => exact ⟨k + 1, _, by omega, by go_num, rfl, by rw [Hid, HS.out]; rfl⟩
             case measure => simp [intOf]; omega)
        · have hk3 : k = l.length := by omega
          have HR2 : Hid (r = noneDiv l x) := by rw [Hid, HR.out, hk3, List.take_length]; rfl
          clear HR hk3
          cases r with
          | true =>
            have HP : Hid (l ++ [x] = prm (x + 1)) := by rw [Hid, prm, if_pos ⟨hx2, by rw [← HL.out, ← HR2.out]⟩, HL.out]
            have hb5 : w.heap.size ≤ (wr.alloc (.cells #[vn x] 95)).heap.size := by have := B.size; simp; omega
            have hm5 : l.length + 1 ≤ maxLen := by unfold maxLen; omega
            go_wp2_with (at_builtin; refine wpList_append_own _ rfl (.tmp 29) (.tmp 31) 113 rfl w.heap.size 95 ie (.int .u64 0) 1 8 Tryz.underlying113 hi hz0 hz1 hz2 rfl (by decide) _ l.length (l.map vn) rfl (hQ.row.alloc _) ⟨wr.heap.size, 0, none⟩ 1 1 [vn x] rfl rfl (cell_one_new _ _ _) (by simp [Value.oneCell']) hm5 (by omega) hb5 ?_; intro v' w5 hown5 hgr5 _; obtain ⟨g5, cap5, rfl⟩ := ownsRow_succ hown5)
            go_roundw
            case rel =>
              refine ⟨x + 1, some ⟨g5, 0, none⟩, cap5, l ++ [x], by omega, by omega, by go_num, HP, by simp, ⟨?_⟩, ((B.alloc B.size _).grown hgr5 hb5 (fun j e => (hQ.row.lt j e).1))⟩
              rw [List.length_append, List.map_append]; exact hown5
            case measure => simp [intOf]; omega
          | false =>
            have HP : Hid (l = prm (x + 1)) := by rw [Hid, prm, if_neg (by rw [← HL.out, ← HR2.out]; simp), HL.out]
            go_wp2_with fail
            go_roundw
            case rel => exact ⟨x + 1, a, c, l, by omega, by omega, by go_num, HP, rfl, hQ, B⟩
            case measure => simp [intOf]; omega
    · have d1 : decide ((l.length : Int) < (n : Int)) = false := by simp; omega
      have HF : Hid (l = prm X ∧ l.length = n) := by
        obtain ⟨t, ht⟩ := prm_pre (X - x) x
        rw [show x + (X - x) = X by omega, ← HL.out] at ht
        have h1 := congrArg List.length ht
        rw [List.length_append, hX] at h1
        have : t = [] := List.eq_nil_of_length_eq_zero (by omega)
        rw [this, List.append_nil] at ht
        exact ⟨ht, by rw [ht, hX]⟩
      go_wp2_with fail
      go_ret
      refine ⟨a, c, by rw [← HF.out.2]; rfl, by rw [← HF.out.1]; exact hQ, B⟩
end Go.Proofs.YtofagofpeedfcaaGreat

/- Variables that hold an array of words of 32 bits. -/
namespace Go.Proofs.YtofagofpeedfcaaGreat
open Go Go.RowKit Go.Cit

/-- The variable in block b, of type T, holds the words l. -/
def Arr (T : TypeId) (w : World) (b : Nat) (l : List UInt32) : Prop := w.heap[b]? = some (.cells (l.map vw).toArray T (0, 0))
theorem Arr.lt {T w b l} (h : Arr T w b l) : b < w.heap.size := (Array.getElem?_eq_some_iff.1 h).1
theorem Arr.cell {T w b l} (h : Arr T w b l) (i : Nat) (hi : i < l.length) : w.cell? ⟨b, i, none⟩ = some (vw l[i]) := by
  rw [World.cell?, h]; simp [hi]
theorem Arr.free {T w b l} (h : Arr T w b l) (i : Nat) : w.frozen? ⟨b, i, none⟩ = false := by simp [World.frozen?, show w.heap[b]? = _ from h]
theorem Arr.set {T w b l} (h : Arr T w b l) (i : Nat) (x : UInt32) : Arr T (w.setCell ⟨b, i, none⟩ (vw x)) b (l.set i x) := by
  unfold Arr at *
  simp [World.setCell, Array.getElem?_modify, h, List.map_set]
theorem Arr.save {S : Nat → Prop} {T w w' b l} (h : Arr T w b l) (hs : Save S w w') (hb : S b) : Arr T w' b l := (hs.block b h.lt hb).trans h
theorem Arr.stay {T w w' b l} (h : Arr T w b l) (hs : Below w.heap.size w w') : Arr T w' b l := (hs.block b h.lt).trans h
theorem arr_ok (l : List UInt32) : (l.map vw).toArray.all (·.oneCell') = true := by simp [Value.oneCell']
theorem szW : ∀ w, (sizeOf 96).run Tryz.prog w = .ok 1 w := by intro w; kernel_rfl
theorem arr_index {T : TypeId} {n : Nat} (hT : Tryz.prog.underlying T = some (.array n 96)) (b i : Nat) (hi : i < n) (w : World) :
    (Instr.indexAt T (.pointer (some ⟨b, 0, none⟩)) (.int .i64 (i : Int))).run Tryz.prog w = .ok (.pointer (some ⟨b, i, none⟩)) w := by
  have he : Tryz.prog.elem T = 96 := by simp [Program.elem, hT]
  have hl : Tryz.prog.arrayLen T = n := by simp [Program.arrayLen, hT]
  rw [run_indexAt_array _ _ _ _ _ (by rw [he, hl]; exact hT), hl, he, szW]
  rw [if_pos (by omega)]
  simp only [Result.andThen, Addr.add]
  by_cases h0 : i = 0
  · subst h0; simp
  · simp [h0]
end Go.Proofs.YtofagofpeedfcaaGreat

/- sha.First, constants: walked. -/
namespace Go.Proofs.YtofagofpeedfcaaGreat
open Go Go.RowKit Go.Cit

/-- The fractions of the primes. -/
def frS (p : Nat) : UInt32 := UInt32.ofNat (bis (fun x => sqN x p) 37 0)
theorem frS_v (p : Nat) : Value.int .u32 ((bis (fun x => sqN x p) 37 0 % 4294967296 : Nat) : Int) = vw (frS p) := by
  unfold frS vw
  rw [UInt32.toNat_ofNat']
def valS : List UInt32 := (prm 20).map frS
theorem valS_len : (prm 20).length = 8 := by decide +kernel
theorem valS_is : valS = first8.l := by decide +kernel
theorem alloc_First (ρ : Operand → Value) (d : Option Tmp) (ty : TypeId) (ps : String) {af} (w : World) :
    (execOp ρ { dst := d, op := Op.alloc 101, type := ty, pos := ps, after := af, guard := none }).run Tryz.prog w = .ok (.value (.pointer (some ⟨w.heap.size, 0, none⟩))) (w.alloc (.cells ((List.replicate 8 (0 : UInt32)).map vw).toArray 101)) := by
  kernel_rfl
theorem row_First : RowType Tryz.prog 101 8 := ⟨⟨_, Tryz.underlying101, rfl⟩, by kernel_rfl⟩

set_option maxRecDepth 100000 in
set_option maxHeartbeats 2000000 in
theorem First_calls (w : World) :
    Calls Tryz.prog 64 #[] w fun e w' => e = .returned (.agg (first8.l.map vw).toArray) ∧ Below w.heap.size w w' := by
  have HA := Lib.hid (fun ρ d ty ps af w => alloc_First ρ d ty ps (af := af) w)
  obtain ⟨Z, hZ⟩ : ∃ Z, Hid (Z = ((List.replicate 8 (0 : UInt32)).map vw).toArray) := ⟨_, rfl⟩
  rw [← hZ.out] at HA
  have HZ : Hid (Z.size = 8) := by rw [Hid, hZ.out]; simp
  have b0 := heap_alloc_new w (.cells Z 101)
  have b1 := heap_alloc_new (w.alloc (.cells Z 101)) (.cells Z 101)
  rw [World.size_alloc] at b1
  have b0 := (Below.heap_alloc (w.alloc (.cells Z 101)) (.cells Z 101) w.heap.size (by simp)).trans b0
  have gB : Below w.heap.size w ((w.alloc (.cells Z 101)).alloc (.cells Z 101)) := ((Below.refl _ _).alloc (Nat.le_refl _) _).alloc (by simp) _
  have hsz : ((w.alloc (.cells Z 101)).alloc (.cells Z 101)).heap.size = w.heap.size + 2 := by simp
  have hp := primes_calls ((w.alloc (.cells Z 101)).alloc (.cells Z 101)) 8 20 valS_len (by decide) (by decide)
  have HB := Lib.hid (And.intro b0 (And.intro b1 (And.intro gB hsz)))
  have HPP := Lib.hid hp
  clear b0 b1 gB hsz hp
  go_enter Tryz.func64, Tryz.ntmps64
  go_wp2_with (first
    | ((with_reducible refine wpList_value (o := ⟨some 0, .alloc _, _, _, _, _⟩) (by with_unfolding_all rfl) (HA.out _ _ _ _ _ _) ?_))
    | ((with_reducible refine wpList_value (o := ⟨some 1, .alloc _, _, _, _, _⟩) (by with_unfolding_all rfl) (HA.out _ _ _ _ _ _) ?_)))
  refine Calls.mono HPP.out ?_
  rintro e w2 ⟨a, c, rfl, hQ, hb2⟩
  obtain ⟨b0, b1, gB, hsz⟩ := HB.out
  rw [hsz] at hQ hb2
  have hs2 := hb2.size
  rw [hsz] at hs2
  have A0 : w2.heap[w.heap.size]? = some (.cells Z 101) := (hb2.block _ (by omega)).trans b0
  have A1 : Arr 101 w2 (w.heap.size + 1) (List.replicate 8 0) := by
    have := (hb2.block (w.heap.size + 1) (by omega)).trans b1
    rw [hZ.out] at this; exact this
  have B2 : Below w.heap.size w w2 := gB.trans (hb2.mono (by omega))
  have HPL := Lib.hid valS_len
  obtain ⟨ps, hps⟩ : ∃ ps, Hid (ps = prm 20) := ⟨_, rfl⟩
  rw [← hps.out] at hQ HPL
  have HPS : Hid (∀ p ∈ ps, p < 20) := by rw [Hid, hps.out]; exact fun p hp => (prm_pos _ p hp).2
  clear b0 b1 gB hsz HB hb2
  go_wp2_with fail
  go_loopw [6] (fun i wr => ∃ (k : Nat) (l : List UInt32), k ≤ 8 ∧ i = .int .i64 k ∧ Hid (l = (ps.take k).map frS ++ List.replicate (8 - k) 0) ∧ Arr 101 wr (w.heap.size + 1) l ∧ wr.heap[w.heap.size]? = some (.cells Z 101) ∧ Qs (w.heap.size + 2) wr a ps c ∧ Below w.heap.size w wr) (fun i _ => 8 - (intOf i).toNat)
  case atStart => exact ⟨0, _, Nat.zero_le _, rfl, by simp [Hid], A1, A0, hQ, B2⟩
  case round =>
    clear A0 A1 hQ B2
    obtain ⟨k, l, hk, rfl, HL, A1, A0, hQ, B⟩ := hrel
    by_cases hlt : k < 8
    · have hkp : k < ps.length := by rw [HPL.out]; exact hlt
      obtain ⟨g, rfl, hcell⟩ := hQ.cell k hkp
      have i0 := hQ.index k hkp
      rw [HPL.out] at i0
      have e0 : wr.cell? (ad (some ⟨g, 0, none⟩) k) = some (vn ps[k]) := by simpa [ad] using hcell
      have hpk := HPS.out _ (List.getElem_mem hkp)
      obtain ⟨q, hq⟩ : ∃ q, ps[k] = q := ⟨_, rfl⟩
      rw [hq] at e0 hpk
      have hll : l.length = 8 := by rw [HL.out]; simp [HPL.out]; omega
      have i1 := fun W => arr_index (T := 101) (n := 8) Tryz.underlying101 (w.heap.size + 1) k hlt W
      have c1 := A1.cell k (by omega)
      have f1 := A1.free k
      have hfc := fracSq_calls wr q (by omega)
      rw [frS_v] at hfc
      have HS := Lib.hid (A1.set k (frS q))
      have HLS : Hid (l.set k (frS q) = (ps.take (k + 1)).map frS ++ List.replicate (8 - (k + 1)) 0) := by
        obtain ⟨m, hm⟩ : ∃ m, 8 - k = m + 1 := ⟨8 - k - 1, by omega⟩
        have hlen : ((ps.take k).map frS).length = k := by simp [HPL.out]; omega
        rw [Hid, HL.out, hm, show 8 - (k + 1) = m by omega, List.set_append_right _ _ (by omega), hlen, Nat.sub_self, List.replicate_succ, List.set_cons_zero, List.take_succ_eq_append_getElem hkp, List.map_append, hq, List.append_assoc]; rfl
      have hsv : Save (· ≠ w.heap.size + 1) wr (wr.setCell ⟨w.heap.size + 1, k, none⟩ (vw (frS q))) := Save.set
      have HN : Hid (wr.setCell ⟨w.heap.size + 1, k, none⟩ (vw (frS q)) |>.heap[w.heap.size]? |> (· = some (.cells Z 101))) := (hsv.block _ (Array.getElem?_eq_some_iff.1 A0).1 (by omega)).trans A0
      have HQ2 := Lib.hid (hQ.save hsv (fun g hg _ => by omega))
      have HB2 := Lib.hid (B.setCell (p := ⟨w.heap.size + 1, k, none⟩) (by show w.heap.size ≤ w.heap.size + 1; omega) (vw (frS q)))
      clear hq hcell hsv
      go_wp2_with fail
      refine hfc.mono ?_
      rintro e w' ⟨rfl, rfl⟩
      go_wp2_with fail
      go_roundw
      case rel => exact ⟨k + 1, _, by omega, by go_num, HLS, HS.out, HN.out, HQ2.out, HB2.out⟩
      case measure => simp [intOf]; omega
    · have hk2 : k = 8 := by omega
      have HF : Hid (l = first8.l) := by
        rw [Hid, HL.out, hk2, Nat.sub_self, List.replicate_zero, List.append_nil, List.take_of_length_le (by rw [HPL.out]; exact Nat.le_refl _), hps.out]; exact valS_is
      have HL1 : Hid ((l.map vw).toArray.size = 8) := by rw [Hid, HF.out]; simp [S8.l]
      have HO := Lib.hid (arr_ok l)
      have HA1 : Hid (wr.heap[w.heap.size + 1]? = some (.cells (l.map vw).toArray 101 (0, 0))) := A1
      have HA0 := Lib.hid A0
      obtain ⟨F, hF⟩ : ∃ F, Hid (F = (l.map vw).toArray) := ⟨_, rfl⟩
      rw [← hF.out] at HL1 HO HA1
      clear hk2 HL A1 A0
      go_wp2_with (first
        | ((with_reducible refine wpList_loadB (o := ⟨some 16, .load _ _, _, _, _, _⟩) row_First (.tmp 1) (by with_unfolding_all rfl) (by with_unfolding_all rfl) (by with_unfolding_all rfl) HA1.out HL1.out ?_))
        | ((with_reducible refine wpList_storeB (o := ⟨none, .store _ (.tmp 0) (.tmp 16), _, _, _, _⟩) row_First (.tmp 0) (.tmp 16) (by with_unfolding_all rfl) (by with_unfolding_all rfl) (by with_unfolding_all rfl) (by with_unfolding_all rfl) (by with_unfolding_all rfl) HA0.out HZ.out HL1.out HO.out ?_); intro w4 hb4 hS4))
      refine bodyPost_ret (resB1 row_First rfl rfl hb4 HL1.out) rfl ⟨by rw [hF.out, HF.out], ?_⟩
      exact B.trans (hS4.below B.size (fun j hj => by omega))

/-- The fractions of the primes. -/
def frC (p : Nat) : UInt32 := UInt32.ofNat (bis (fun x => cuN x p) 37 0)
theorem frC_v (p : Nat) : Value.int .u32 ((bis (fun x => cuN x p) 37 0 % 4294967296 : Nat) : Int) = vw (frC p) := by
  unfold frC vw
  rw [UInt32.toNat_ofNat']
def valC : List UInt32 := (prm 312).map frC
theorem valC_len : (prm 312).length = 64 := by decide +kernel
theorem valC_is : valC = kTab := by decide +kernel
theorem alloc_constants (ρ : Operand → Value) (d : Option Tmp) (ty : TypeId) (ps : String) {af} (w : World) :
    (execOp ρ { dst := d, op := Op.alloc 103, type := ty, pos := ps, after := af, guard := none }).run Tryz.prog w = .ok (.value (.pointer (some ⟨w.heap.size, 0, none⟩))) (w.alloc (.cells ((List.replicate 64 (0 : UInt32)).map vw).toArray 103)) := by
  kernel_rfl
theorem row_constants : RowType Tryz.prog 103 64 := ⟨⟨_, Tryz.underlying103, rfl⟩, by kernel_rfl⟩

set_option maxRecDepth 100000 in
set_option maxHeartbeats 2000000 in
theorem constants_calls (w : World) :
    Calls Tryz.prog 65 #[] w fun e w' => e = .returned (.agg (kTab.map vw).toArray) ∧ Below w.heap.size w w' := by
  have HA := Lib.hid (fun ρ d ty ps af w => alloc_constants ρ d ty ps (af := af) w)
  obtain ⟨Z, hZ⟩ : ∃ Z, Hid (Z = ((List.replicate 64 (0 : UInt32)).map vw).toArray) := ⟨_, rfl⟩
  rw [← hZ.out] at HA
  have HZ : Hid (Z.size = 64) := by rw [Hid, hZ.out]; simp
  have b0 := heap_alloc_new w (.cells Z 103)
  have b1 := heap_alloc_new (w.alloc (.cells Z 103)) (.cells Z 103)
  rw [World.size_alloc] at b1
  have b0 := (Below.heap_alloc (w.alloc (.cells Z 103)) (.cells Z 103) w.heap.size (by simp)).trans b0
  have gB : Below w.heap.size w ((w.alloc (.cells Z 103)).alloc (.cells Z 103)) := ((Below.refl _ _).alloc (Nat.le_refl _) _).alloc (by simp) _
  have hsz : ((w.alloc (.cells Z 103)).alloc (.cells Z 103)).heap.size = w.heap.size + 2 := by simp
  have hp := primes_calls ((w.alloc (.cells Z 103)).alloc (.cells Z 103)) 64 312 valC_len (by decide) (by decide)
  have HB := Lib.hid (And.intro b0 (And.intro b1 (And.intro gB hsz)))
  have HPP := Lib.hid hp
  clear b0 b1 gB hsz hp
  go_enter Tryz.func65, Tryz.ntmps65
  go_wp2_with (first
    | ((with_reducible refine wpList_value (o := ⟨some 0, .alloc _, _, _, _, _⟩) (by with_unfolding_all rfl) (HA.out _ _ _ _ _ _) ?_))
    | ((with_reducible refine wpList_value (o := ⟨some 1, .alloc _, _, _, _, _⟩) (by with_unfolding_all rfl) (HA.out _ _ _ _ _ _) ?_)))
  refine Calls.mono HPP.out ?_
  rintro e w2 ⟨a, c, rfl, hQ, hb2⟩
  obtain ⟨b0, b1, gB, hsz⟩ := HB.out
  rw [hsz] at hQ hb2
  have hs2 := hb2.size
  rw [hsz] at hs2
  have A0 : w2.heap[w.heap.size]? = some (.cells Z 103) := (hb2.block _ (by omega)).trans b0
  have A1 : Arr 103 w2 (w.heap.size + 1) (List.replicate 64 0) := by
    have := (hb2.block (w.heap.size + 1) (by omega)).trans b1
    rw [hZ.out] at this; exact this
  have B2 : Below w.heap.size w w2 := gB.trans (hb2.mono (by omega))
  have HPL := Lib.hid valC_len
  obtain ⟨ps, hps⟩ : ∃ ps, Hid (ps = prm 312) := ⟨_, rfl⟩
  rw [← hps.out] at hQ HPL
  have HPS : Hid (∀ p ∈ ps, p < 312) := by rw [Hid, hps.out]; exact fun p hp => (prm_pos _ p hp).2
  clear b0 b1 gB hsz HB hb2
  go_wp2_with fail
  go_loopw [6] (fun i wr => ∃ (k : Nat) (l : List UInt32), k ≤ 64 ∧ i = .int .i64 k ∧ Hid (l = (ps.take k).map frC ++ List.replicate (64 - k) 0) ∧ Arr 103 wr (w.heap.size + 1) l ∧ wr.heap[w.heap.size]? = some (.cells Z 103) ∧ Qs (w.heap.size + 2) wr a ps c ∧ Below w.heap.size w wr) (fun i _ => 64 - (intOf i).toNat)
  case atStart => exact ⟨0, _, Nat.zero_le _, rfl, by simp [Hid], A1, A0, hQ, B2⟩
  case round =>
    clear A0 A1 hQ B2
    obtain ⟨k, l, hk, rfl, HL, A1, A0, hQ, B⟩ := hrel
    by_cases hlt : k < 64
    · have hkp : k < ps.length := by rw [HPL.out]; exact hlt
      obtain ⟨g, rfl, hcell⟩ := hQ.cell k hkp
      have i0 := hQ.index k hkp
      rw [HPL.out] at i0
      have e0 : wr.cell? (ad (some ⟨g, 0, none⟩) k) = some (vn ps[k]) := by simpa [ad] using hcell
      have hpk := HPS.out _ (List.getElem_mem hkp)
      obtain ⟨q, hq⟩ : ∃ q, ps[k] = q := ⟨_, rfl⟩
      rw [hq] at e0 hpk
      have hll : l.length = 64 := by rw [HL.out]; simp [HPL.out]; omega
      have i1 := fun W => arr_index (T := 103) (n := 64) Tryz.underlying103 (w.heap.size + 1) k hlt W
      have c1 := A1.cell k (by omega)
      have f1 := A1.free k
      have hfc := fracCu_calls wr q (by omega)
      rw [frC_v] at hfc
      have HS := Lib.hid (A1.set k (frC q))
      have HLS : Hid (l.set k (frC q) = (ps.take (k + 1)).map frC ++ List.replicate (64 - (k + 1)) 0) := by
        obtain ⟨m, hm⟩ : ∃ m, 64 - k = m + 1 := ⟨64 - k - 1, by omega⟩
        have hlen : ((ps.take k).map frC).length = k := by simp [HPL.out]; omega
        rw [Hid, HL.out, hm, show 64 - (k + 1) = m by omega, List.set_append_right _ _ (by omega), hlen, Nat.sub_self, List.replicate_succ, List.set_cons_zero, List.take_succ_eq_append_getElem hkp, List.map_append, hq, List.append_assoc]; rfl
      have hsv : Save (· ≠ w.heap.size + 1) wr (wr.setCell ⟨w.heap.size + 1, k, none⟩ (vw (frC q))) := Save.set
      have HN : Hid (wr.setCell ⟨w.heap.size + 1, k, none⟩ (vw (frC q)) |>.heap[w.heap.size]? |> (· = some (.cells Z 103))) := (hsv.block _ (Array.getElem?_eq_some_iff.1 A0).1 (by omega)).trans A0
      have HQ2 := Lib.hid (hQ.save hsv (fun g hg _ => by omega))
      have HB2 := Lib.hid (B.setCell (p := ⟨w.heap.size + 1, k, none⟩) (by show w.heap.size ≤ w.heap.size + 1; omega) (vw (frC q)))
      clear hq hcell hsv
      go_wp2_with fail
      refine hfc.mono ?_
      rintro e w' ⟨rfl, rfl⟩
      go_wp2_with fail
      go_roundw
      case rel => exact ⟨k + 1, _, by omega, by go_num, HLS, HS.out, HN.out, HQ2.out, HB2.out⟩
      case measure => simp [intOf]; omega
    · have hk2 : k = 64 := by omega
      have HF : Hid (l = kTab) := by
        rw [Hid, HL.out, hk2, Nat.sub_self, List.replicate_zero, List.append_nil, List.take_of_length_le (by rw [HPL.out]; exact Nat.le_refl _), hps.out]; exact valC_is
      have HL1 : Hid ((l.map vw).toArray.size = 64) := by rw [Hid, HF.out]; simp [kTab]
      have HO := Lib.hid (arr_ok l)
      have HA1 : Hid (wr.heap[w.heap.size + 1]? = some (.cells (l.map vw).toArray 103 (0, 0))) := A1
      have HA0 := Lib.hid A0
      obtain ⟨F, hF⟩ : ∃ F, Hid (F = (l.map vw).toArray) := ⟨_, rfl⟩
      rw [← hF.out] at HL1 HO HA1
      clear hk2 HL A1 A0
      go_wp2_with (first
        | ((with_reducible refine wpList_loadB (o := ⟨some 16, .load _ _, _, _, _, _⟩) row_constants (.tmp 1) (by with_unfolding_all rfl) (by with_unfolding_all rfl) (by with_unfolding_all rfl) HA1.out HL1.out ?_))
        | ((with_reducible refine wpList_storeB (o := ⟨none, .store _ (.tmp 0) (.tmp 16), _, _, _, _⟩) row_constants (.tmp 0) (.tmp 16) (by with_unfolding_all rfl) (by with_unfolding_all rfl) (by with_unfolding_all rfl) (by with_unfolding_all rfl) (by with_unfolding_all rfl) HA0.out HZ.out HL1.out HO.out ?_); intro w4 hb4 hS4))
      refine bodyPost_ret (resB1 row_constants rfl rfl hb4 HL1.out) rfl ⟨by rw [hF.out, HF.out], ?_⟩
      exact B.trans (hS4.below B.size (fun j hj => by omega))
end Go.Proofs.YtofagofpeedfcaaGreat

/- sha.schedule: walked. -/
namespace Go.Proofs.YtofagofpeedfcaaGreat
open Go Go.RowKit Go.Cit

theorem arr_cellD {T : TypeId} {w : World} {b : Nat} {S R : List UInt32} (h : Arr T w b (S ++ R)) (i : Nat) (hi : i < S.length) : w.cell? ⟨b, i, none⟩ = some (vw (S.getD i 0)) := by
  have := h.cell i (by rw [List.length_append]; omega)
  rw [this, List.getElem_append_left hi]; simp [hi]
theorem arr_next {T : TypeId} {w : World} {b n k : Nat} {S : List UInt32} (h : Arr T w b (S ++ List.replicate (n - k) 0)) (hS : S.length = k) (hk : k < n) (x : UInt32) :
    Arr T (w.setCell ⟨b, k, none⟩ (vw x)) b ((S ++ [x]) ++ List.replicate (n - (k + 1)) 0) := by
  have h1 := h.set k x
  obtain ⟨m, hm⟩ : ∃ m, n - k = m + 1 := ⟨n - k - 1, by omega⟩
  rw [hm, List.set_append_right _ _ (by omega), hS, Nat.sub_self, List.replicate_succ, List.set_cons_zero] at h1
  rw [show n - (k + 1) = m by omega, List.append_assoc]
  exact h1
theorem arr_there {T : TypeId} {w : World} {b n k : Nat} {S : List UInt32} (h : Arr T w b (S ++ List.replicate (n - k) 0)) (hS : S.length = k) (hk : k < n) : ∃ v, w.cell? ⟨b, k, none⟩ = some v :=
  ⟨_, h.cell k (by rw [List.length_append, List.length_replicate]; omega)⟩
theorem cutN_4 (b : List UInt8) (hb : b.length = 64) : cutN 4 b = 16 := by unfold cutN; rw [hb]
theorem load0_piece (b : List UInt8) (hb : b.length = 64) (k : Nat) (hk : k < 16) : loadB (pieceL 4 b k) 0 4 = (numB ((b.drop (4 * k)).take 4), true) := by
  have h1 : (pieceL 4 b k).length = 4 := by unfold pieceL; rw [List.length_take, List.length_drop, hb]; omega
  unfold loadB
  rw [if_pos (by rw [h1]; omega), Int.toNat_zero, List.drop_zero, List.take_of_length_le (by omega)]
  unfold pieceL
  rw [Nat.mul_comm]

theorem alloc_sched (ρ : Operand → Value) (d : Option Tmp) (ty : TypeId) (ps : String) {af} (w : World) :
    (execOp ρ { dst := d, op := Op.alloc 103, type := ty, pos := ps, after := af, guard := none }).run Tryz.prog w = .ok (.value (.pointer (some ⟨w.heap.size, 0, none⟩))) (w.alloc (.cells ((List.replicate 64 (0 : UInt32)).map vw).toArray 103)) := by
  kernel_rfl
theorem row_sched : RowType Tryz.prog 103 64 := ⟨⟨_, Tryz.underlying103, rfl⟩, by kernel_rfl⟩

set_option maxRecDepth 100000 in
set_option maxHeartbeats 2000000 in
theorem schedule_calls (w : World) (a : Option Addr) (b : List UInt8) (c : Nat) (hr : Row w a b c) (hb : b.length = 64) :
    Calls Tryz.prog 83 #[.slice a 64 c] w fun e w' => e = .returned (.agg ((sched b 64).map vw).toArray) ∧ Below w.heap.size w w' := by
  have HA := Lib.hid (fun ρ d ty ps af w => alloc_sched ρ d ty ps (af := af) w)
  obtain ⟨Z, hZ⟩ : ∃ Z, Hid (Z = ((List.replicate 64 (0 : UInt32)).map vw).toArray) := ⟨_, rfl⟩
  rw [← hZ.out] at HA
  have HZ : Hid (Z.size = 64) := by rw [Hid, hZ.out]; simp
  have b0 := heap_alloc_new w (.cells Z 103)
  have b1 := heap_alloc_new (w.alloc (.cells Z 103)) (.cells Z 103)
  rw [World.size_alloc] at b1
  have b0 := (Below.heap_alloc (w.alloc (.cells Z 103)) (.cells Z 103) w.heap.size (by simp)).trans b0
  have gB : Below w.heap.size w ((w.alloc (.cells Z 103)).alloc (.cells Z 103)) := ((Below.refl _ _).alloc (Nat.le_refl _) _).alloc (by simp) _
  have hsz : ((w.alloc (.cells Z 103)).alloc (.cells Z 103)).heap.size = w.heap.size + 2 := by simp
  have hp := cut_own ((w.alloc (.cells Z 103)).alloc (.cells Z 103)) a b c 4 (hr.stay gB) (by decide) (by decide) (by omega)
  rw [hb] at hp
  have HB := Lib.hid (And.intro b0 (And.intro b1 (And.intro gB hsz)))
  have HPP := Lib.hid hp
  have HBL := Lib.hid hb
  clear b0 b1 gB hsz hp hr hb
  go_enter Tryz.func83, Tryz.ntmps83
  go_wp2_with (first
    | ((with_reducible refine wpList_value (o := ⟨some 2, .alloc _, _, _, _, _⟩) (by with_unfolding_all rfl) (HA.out _ _ _ _ _ _) ?_))
    | ((with_reducible refine wpList_value (o := ⟨some 3, .alloc _, _, _, _, _⟩) (by with_unfolding_all rfl) (HA.out _ _ _ _ _ _) ?_)))
  refine Calls.mono HPP.out ?_
  rintro e w2 ⟨a2, ds, c2, rfl, hds, hR, hN, hb2⟩
  obtain ⟨b0, b1, gB, hsz⟩ := HB.out
  rw [hsz] at hb2 hN
  have hs2 := hb2.size
  rw [hsz] at hs2
  have A0 : w2.heap[w.heap.size]? = some (.cells Z 103) := (hb2.block _ (by omega)).trans b0
  have A1 : Arr 103 w2 (w.heap.size + 1) (sched b 0 ++ List.replicate (64 - 0) 0) := by
    have := (hb2.block (w.heap.size + 1) (by omega)).trans b1
    rw [hZ.out] at this; exact this
  have B2 : Below w.heap.size w w2 := gB.trans (hb2.mono (by omega))
  have hdl : ds.length = 16 := by
    have := congrArg List.length hds
    rw [List.length_map] at this
    rw [this, cutL, List.length_map, List.length_range, cutN_4 b HBL.out]
  have HD : Hid (∀ k (h : k < ds.length), ds[k].l = pieceL 4 b k) := by
    intro k h
    have h1 : (ds.map (·.l))[k]? = some (pieceL 4 b k) := by
      rw [hds, cutL, cutN_4 b HBL.out, List.getElem?_map, List.getElem?_range (by omega)]; rfl
    rw [List.getElem?_map, List.getElem?_eq_getElem h] at h1
    exact Option.some.inj h1
  have HDL := Lib.hid hdl
  have HNW := Lib.hid hN
  clear b0 b1 gB hsz HB hb2 hds hN hdl
  go_wp2_with fail
  go_loopw [12] (fun i wr => ∃ (k : Nat) (S : List UInt32), k ≤ 16 ∧ i = .int .i64 k ∧ Hid (S = sched b k) ∧ Arr 103 wr (w.heap.size + 1) (S ++ List.replicate (64 - k) 0) ∧ wr.heap[w.heap.size]? = some (.cells Z 103) ∧ Rows wr a2 ds c2 ∧ Below w.heap.size w wr) (fun i _ => 16 - (intOf i).toNat)
  case atStart => exact ⟨0, _, Nat.zero_le _, rfl, rfl, A1, A0, hR, B2⟩
  case round =>
    clear A0 A1 hR B2
    obtain ⟨k, S, hk, rfl, HL, A1, A0, hR, B⟩ := hrel
    have HSL : Hid (S.length = k) := by rw [Hid, HL.out, sched_length]
    by_cases hlt : k < 16
    · have hkd : k < ds.length := by rw [HDL.out]; exact hlt
      have d1 : decide ((k : Int) < (ds.length : Int)) = true := by simp; omega
      have d1' : decide (k < ds.length) = true := by simpa using hkd
      have i0 := hR.index k hkd
      have e0 := hR.cell k hkd
      have hrow := hR.row ds[k] (List.getElem_mem hkd)
      have hpl := HD.out k hkd
      have hnb : ∀ g, Go.Cit.blk ds[k].a = some g → w.heap.size + 2 ≤ g := HNW.out.2 _ (List.getElem_mem hkd)
      generalize ds[k] = d at e0 hrow hpl hnb
      have hld := load32_calls wr d.a d.l d.c 0 hrow
      rw [hpl, load0_piece b HBL.out k hlt] at hld
      rw [hpl] at e0
      obtain ⟨x, hx⟩ : ∃ x, wOfQ (numB ((b.drop (4 * k)).take 4)) = x := ⟨_, rfl⟩
      dsimp only at hld
      rw [hx] at hld
      have i1 := fun W => arr_index (T := 103) (n := 64) Tryz.underlying103 (w.heap.size + 1) k (by omega) W
      obtain ⟨v1, c1⟩ := arr_there A1 HSL.out (by omega)
      have f1 := A1.free k
      have HS := Lib.hid (arr_next A1 HSL.out (by omega) x)
      have HLS : Hid (S ++ [x] = sched b (k + 1)) := by rw [Hid, sched, if_pos hlt, hx, ← HL.out]
      have hsv : Save (· ≠ w.heap.size + 1) wr (wr.setCell ⟨w.heap.size + 1, k, none⟩ (vw x)) := Save.set
      have HN : Hid (wr.setCell ⟨w.heap.size + 1, k, none⟩ (vw x) |>.heap[w.heap.size]? |> (· = some (.cells Z 103))) := (hsv.block _ (Array.getElem?_eq_some_iff.1 A0).1 (by omega)).trans A0
      have HR2 := Lib.hid (hR.save hsv (fun g hg => by have := HNW.out.1 g hg; omega) (fun d hd g hg => by have := HNW.out.2 d hd g hg; omega))
      have HB2 := Lib.hid (B.setCell (p := ⟨w.heap.size + 1, k, none⟩) (by show w.heap.size ≤ w.heap.size + 1; omega) (vw x))
      clear hpl hrow hnb hsv hx
      go_wp2_with fail
      refine hld.mono ?_
      rintro e w' ⟨rfl, rfl⟩
      go_wp2_with fail
      go_roundw
      case rel => exact ⟨k + 1, _, by omega, by go_num, HLS, HS.out, HN.out, HR2.out, HB2.out⟩
      case measure => simp [intOf]; omega
    · have hk2 : k = 16 := by omega
      have d1 : decide ((k : Int) < (ds.length : Int)) = false := by rw [HDL.out, hk2]; rfl
      have d1' : decide (k < ds.length) = false := by rw [HDL.out, hk2]; rfl
      have HS2 : Hid (S = sched b 16) := by rw [Hid, HL.out, hk2]
      have A1' : Arr 103 wr (w.heap.size + 1) (S ++ List.replicate (64 - 16) 0) := by rw [← hk2]; exact A1
      clear hk2 HL HSL A1 hR HD HDL HNW
      go_wp2_with fail
      go_loopw [8] (fun i wr => ∃ (k : Nat) (S : List UInt32), 16 ≤ k ∧ k ≤ 64 ∧ i = .int .i64 k ∧ Hid (S = sched b k) ∧ Arr 103 wr (w.heap.size + 1) (S ++ List.replicate (64 - k) 0) ∧ wr.heap[w.heap.size]? = some (.cells Z 103) ∧ Below w.heap.size w wr) (fun i _ => 64 - (intOf i).toNat)
      case atStart => exact ⟨16, _, by omega, by omega, rfl, HS2, A1', A0, B⟩
      case round =>
        clear HS2 A1' A0 B
        obtain ⟨k, S, hk1, hk, rfl, HL, A1, A0, B⟩ := hrel
        have HSL : Hid (S.length = k) := by rw [Hid, HL.out, sched_length]
        by_cases hlt : k < 64
        · have d2 : decide ((k : Int) < 64) = true := by simp; omega
          obtain ⟨m16, hm16⟩ : ∃ m, k = m + 16 := ⟨k - 16, by omega⟩
          have w16 : IntKind.i64.wrap ((k : Int) - 16) = ((m16 : Nat) : Int) := by rw [show (k : Int) - 16 = ((m16 : Nat) : Int) by omega]; exact IntWalk.i64_in _ (by omega)
          obtain ⟨m7, hm7⟩ : ∃ m, m = m16 + 9 := ⟨_, rfl⟩
          obtain ⟨m15, hm15⟩ : ∃ m, m = m16 + 1 := ⟨_, rfl⟩
          obtain ⟨m2, hm2⟩ : ∃ m, m = m16 + 14 := ⟨_, rfl⟩
          have w7 : IntKind.i64.wrap ((k : Int) - 7) = (m7 : Int) := by rw [show (k : Int) - 7 = (m7 : Int) by omega]; exact IntWalk.i64_in _ (by omega)
          have w15 : IntKind.i64.wrap ((k : Int) - 15) = (m15 : Int) := by rw [show (k : Int) - 15 = (m15 : Int) by omega]; exact IntWalk.i64_in _ (by omega)
          have w2' : IntKind.i64.wrap ((k : Int) - 2) = (m2 : Int) := by rw [show (k : Int) - 2 = (m2 : Int) by omega]; exact IntWalk.i64_in _ (by omega)
          have HKS := HSL.out
          have ix := fun (i : Nat) (hi : i < 64) (W : World) => arr_index (T := 103) (n := 64) Tryz.underlying103 (w.heap.size + 1) i hi W
          have i16 := ix m16 (by omega)
          have i7 := ix m7 (by omega)
          have i15 := ix m15 (by omega)
          have i2 := ix m2 (by omega)
          have ik := ix k (by omega)
          have c16 : ∀ n, ({ wr with drawn := n } : World).cell? ⟨w.heap.size + 1, m16, none⟩ = some (vw (S.getD m16 0)) := fun _ => arr_cellD A1 m16 (by omega)
          have c7 : ∀ n, ({ wr with drawn := n } : World).cell? ⟨w.heap.size + 1, m7, none⟩ = some (vw (S.getD m7 0)) := fun _ => arr_cellD A1 m7 (by omega)
          have c15 : ∀ n, ({ wr with drawn := n } : World).cell? ⟨w.heap.size + 1, m15, none⟩ = some (vw (S.getD m15 0)) := fun _ => arr_cellD A1 m15 (by omega)
          have c2 : ∀ n, ({ wr with drawn := n } : World).cell? ⟨w.heap.size + 1, m2, none⟩ = some (vw (S.getD m2 0)) := fun _ => arr_cellD A1 m2 (by omega)
          obtain ⟨x, hx⟩ : ∃ x, x = wAdd (wAdd (wAdd (S.getD m16 0) (S.getD m7 0)) (movedW 7 18 3 (S.getD m15 0))) (movedW 17 19 10 (S.getD m2 0)) := ⟨_, rfl⟩
          have HLS : Hid (S ++ [x] = sched b (k + 1)) := by
            rw [Hid, sched, if_neg (by omega), ← HL.out, hx, show k - 16 = m16 by omega, show k - 7 = m7 by omega, show k - 15 = m15 by omega, show k - 2 = m2 by omega]
          obtain ⟨y16, hy16⟩ : ∃ y, S.getD m16 0 = y := ⟨_, rfl⟩
          obtain ⟨y7, hy7⟩ : ∃ y, S.getD m7 0 = y := ⟨_, rfl⟩
          obtain ⟨y15, hy15⟩ : ∃ y, S.getD m15 0 = y := ⟨_, rfl⟩
          obtain ⟨y2, hy2⟩ : ∃ y, S.getD m2 0 = y := ⟨_, rfl⟩
          rw [hy16, hy7, hy15, hy2] at hx
          rw [hy16] at c16
          rw [hy7] at c7
          rw [hy15] at c15
          rw [hy2] at c2
          have A1d : Arr 103 wr.drew (w.heap.size + 1) (S ++ List.replicate (64 - k) 0) := A1
          have A0d : wr.drew.heap[w.heap.size]? = some (.cells Z 103) := A0
          have Bd : Below w.heap.size w wr.drew := B.trans (below_drewN _ _ 1)
          have HX := Lib.hid hx
          have wa : ∀ x y : UInt32, IntKind.u32.wrap ((x.toNat : Int) + y.toNat) = ((wAdd x y).toNat : Int) := wrap_w_add
          clear hm16 hm7 hm15 hm2 hy16 hy7 hy15 hy2 hx HKS ix
          go_wp2_with fail
          go_still_tail 23, (by kernel_rfl)
          still_call (moved_calls _ y15 7 18 3 (by decide) (by decide) (by decide) (by decide) (by decide))
          repeat still_step
          still_call (moved_calls _ y2 17 19 10 (by decide) (by decide) (by decide) (by decide) (by decide))
          repeat still_step
          refine wpStill_nil ?_
          change wpList _ _ _ _ _ wr.drew
          generalize wr.drew = wr at A1d A0d Bd ⊢
          obtain ⟨v1, c1⟩ := arr_there A1d HSL.out (by omega)
          have f1 := A1d.free k
          have HS := Lib.hid (arr_next A1d HSL.out (by omega) x)
          have hsv : Save (· ≠ w.heap.size + 1) wr (wr.setCell ⟨w.heap.size + 1, k, none⟩ (vw x)) := Save.set
          have HN : Hid (wr.setCell ⟨w.heap.size + 1, k, none⟩ (vw x) |>.heap[w.heap.size]? |> (· = some (.cells Z 103))) := (hsv.block _ (Array.getElem?_eq_some_iff.1 A0d).1 (by omega)).trans A0d
          have HB2 := Lib.hid (Bd.setCell (p := ⟨w.heap.size + 1, k, none⟩) (by show w.heap.size ≤ w.heap.size + 1; omega) (vw x))
          rw [HX.out] at HS HN HB2 HLS
          clear hsv
          go_wp2_with fail
          go_roundw
          case rel => exact ⟨k + 1, _, by omega, by omega, by go_num, HLS, HS.out, HN.out, HB2.out⟩
          case measure => simp [intOf]; omega
        · have d2 : decide ((k : Int) < 64) = false := by simp; omega
          have hk2 : k = 64 := by omega
          have HL1 : Hid (((sched b 64).map vw).toArray.size = 64) := by rw [Hid]; simp [sched_length]
          have HO := Lib.hid (arr_ok (sched b 64))
          have HA1 : Hid (wr.heap[w.heap.size + 1]? = some (.cells ((sched b 64).map vw).toArray 103 (0, 0))) := by
            rw [HL.out, hk2, Nat.sub_self, List.replicate_zero, List.append_nil] at A1; exact A1
          have HA0 := Lib.hid A0
          obtain ⟨F, hF⟩ : ∃ F, Hid (F = ((sched b 64).map vw).toArray) := ⟨_, rfl⟩
          rw [← hF.out] at HL1 HO HA1
          clear hk2 HL A1 A0
          go_wp2_with (first
            | ((with_reducible refine wpList_loadB (o := ⟨some 53, .load _ _, _, _, _, _⟩) row_sched (.tmp 3) (by with_unfolding_all rfl) (by with_unfolding_all rfl) (by with_unfolding_all rfl) HA1.out HL1.out ?_))
            | ((with_reducible refine wpList_storeB (o := ⟨none, .store _ (.tmp 2) (.tmp 53), _, _, _, _⟩) row_sched (.tmp 2) (.tmp 53) (by with_unfolding_all rfl) (by with_unfolding_all rfl) (by with_unfolding_all rfl) (by with_unfolding_all rfl) (by with_unfolding_all rfl) HA0.out HZ.out HL1.out HO.out ?_); intro w4 hb4 hS4))
          refine bodyPost_ret (resB1 row_sched rfl rfl hb4 HL1.out) rfl ⟨by rw [hF.out], ?_⟩
          exact B.trans (hS4.below B.size (fun j hj => by omega))
end Go.Proofs.YtofagofpeedfcaaGreat

/- A region that draws its order, where what is said of the world hangs on slots too. No condition on the program. -/
namespace Go.Cit
open Go Go.RowKit

section
variable {P : Program} {ops : Array Oper} {Q : Exit → Act → World → Prop}

theorem phase_st {C : (Nat → Bool) → Act → World → Prop} {G : Nat → World → World → Prop} {Γ : Nat → Value → World → Prop} {a0 : Act}
    (hs : shapeB ops a0.tmps.size = true)
    (hΓ : ∀ δ i j v a w w', i ≠ j → Closed ops δ → δ j = true → δ i = false → C δ a w → G i w w' → Γ j v w → Γ j v w')
    (hop : ∀ δ i o a w, ops[i]? = some o → δ i = false → Closed ops δ → Closed ops (upd δ i) → C δ a w → SameBut ops a0 a → (∀ e ∈ o.after, Region.binds .any e = true → ∀ p d, ops[e.on]? = some p → p.dst = some d → Γ e.on (a.tmps.getD d undef) w) →
      wpOp P ops Q i (fun a' w' => ∃ v, a' = a.put o.dst v ∧ G i w w' ∧ C (upd δ i) a' w' ∧ Γ i v w') a w)
    (hend : ∀ δ a w, (∀ i, i < ops.size → δ i = true) → C δ a w → SameBut ops a0 a → (∀ i o d, ops[i]? = some o → o.dst = some d → Γ i (a.tmps.getD d undef) w) → Q .normal a w) :
    ∀ (fuel : Nat) (listed : Array Bool) (δ : Nat → Bool) (a : Act) (w : World), toCome listed ops.size ≤ fuel → listed.size = ops.size → (∀ i, δ i = listed.getD i false) → Closed ops δ → C δ a w → SameBut ops a0 a →
      (∀ i o d, δ i = true → ops[i]? = some o → o.dst = some d → Γ i (a.tmps.getD d undef) w) → wpAny P .any ops Q fuel listed a w := by
  have hready : ∀ (listed : Array Bool), listed.size = ops.size → Region.ready .any ops listed = [] → ∀ i, i < ops.size → listed.getD i false = true := by
    intro listed hsz hr i
    induction i using Nat.strongRecOn with
    | ind i ih =>
      intro hi
      cases hl : listed.getD i true with
      | true =>
        have hi' : i < listed.size := by omega
        simpa [Array.getD, hi'] using hl
      | false =>
        exfalso
        have hm : i ∈ Region.ready .any ops listed := by
          rw [mem_ready]
          refine ⟨hl, ops[i], by simp [hi], fun e he hb => ?_⟩
          have := (shape_spec hs (i := i) (o := ops[i]) (by simp [hi])).1 e he hb
          exact ih e.on this (by omega)
        rw [hr] at hm
        simp at hm
  intro fuel
  induction fuel with
  | zero =>
    intro listed δ a w hf hsz hδ hcl hc hsame hg
    have hall := toCome_zero (Nat.le_zero.1 hf)
    have hr : Region.ready .any ops listed = [] := by
      apply List.eq_nil_iff_forall_not_mem.2
      intro i hi
      rw [mem_ready] at hi
      obtain ⟨h0, o, ho, _⟩ := hi
      rw [hall i (Array.getElem?_eq_some_iff.1 ho).1] at h0
      simp at h0
    exact ⟨hr, hend δ a w (fun i hi => by rw [hδ]; exact hready listed hsz hr i hi) hc hsame fun i o d ho hd => hg i o d (by rw [hδ]; exact hready listed hsz hr i (Array.getElem?_eq_some_iff.1 ho).1) ho hd⟩
  | succ fuel ih =>
    intro listed δ a w hf hsz hδ hcl hc hsame hg
    refine ⟨fun hr => hend δ a w (fun i hi => by rw [hδ]; exact hready listed hsz hr i hi) hc hsame fun i o d ho hd => hg i o d (by rw [hδ]; exact hready listed hsz hr i (Array.getElem?_eq_some_iff.1 ho).1) ho hd, fun i hi => ?_⟩
    obtain ⟨h0, o, ho, hdep⟩ := mem_ready.1 hi
    have hlt : i < ops.size := (Array.getElem?_eq_some_iff.1 ho).1
    have hδi : δ i = false := by
      rw [hδ]
      have hi' : i < listed.size := by omega
      simpa [Array.getD, hi'] using h0
    have hcl' : Closed ops (upd δ i) := by
      intro j p hp hj e he hb
      by_cases hij : i = j
      · subst hij
        obtain rfl : o = p := by rw [ho] at hp; exact Option.some.inj hp
        unfold upd
        split
        · rfl
        · rw [hδ]; exact hdep e he hb
      · rw [upd_other _ hij] at hj
        have := hcl j p hp hj e he hb
        unfold upd
        split
        · rfl
        · exact this
    have hgive := hop δ i o a w ho hδi hcl hcl' hc hsame (fun e he hb p d hp hd => hg e.on p d (by rw [hδ]; exact hdep e he hb) hp hd)
    refine wpOp_mono (fun a' w' hk => ?_) hgive
    obtain ⟨v, rfl, hG, hc', hv⟩ := hk
    refine ih _ (upd δ i) _ _ ?_ (by simpa using hsz) ?_ hcl' hc' ?_ ?_
    · have := toCome_set (n := ops.size) hlt (by omega) h0
      omega
    · intro j
      by_cases hij : i = j
      · subst hij
        rw [upd_same]
        have hi' : i < listed.size := by omega
        simp [hi']
      · rw [upd_other _ hij, getD_set_ne false hij]; exact hδ j
    · refine ⟨by rw [put_defers]; exact hsame.1, by rw [put_size]; exact hsame.2.1, fun d hd => ?_⟩
      rw [put_getD_ne _ _ _ _ (hd i o ho)]
      exact hsame.2.2 d hd
    · intro j p d hj hp hd
      by_cases hij : i = j
      · subst hij
        obtain rfl : o = p := by rw [ho] at hp; exact Option.some.inj hp
        rw [hd, put_getD_same _ _ _ (by rw [hsame.2.1]; exact (shape_spec hs ho).2.1 d hd)]
        exact hv
      · rw [upd_other _ hij] at hj
        have hne : o.dst ≠ some d := by
          rcases Nat.lt_or_gt_of_ne hij with h | h
          · intro e; exact (shape_spec hs hp).2.2 i o d ho h hd e
          · intro e; exact (shape_spec hs ho).2.2 j p d hp h e hd
        rw [put_getD_ne _ _ _ _ hne]
        exact hΓ δ i j _ _ w w' hij hcl hj hδi hc hG (hg j p d hj hp hd)

/-- What is known at one operation. -/
structure KnownS (ops : Array Oper) (C : (Nat → Bool) → Act → World → Prop) (T : Nat → Value → World → Prop) (a0 : Act) (i : Nat) (o : Oper) (δ : Nat → Bool) (a : Act) (w : World) : Prop where
  yet : δ i = false
  closed : Closed ops δ
  next : Closed ops (upd δ i)
  inv : C δ a w
  same : SameBut ops a0 a
  slot : ∀ d, waitsB ops o d = true → T d (a.eval (.tmp d)) w
  old : ∀ d, outB ops d = true → a.eval (.tmp d) = a0.eval (.tmp d)
  lit : ∀ v, a.eval (.const v) = v
  fn : ∀ f, a.eval (.func f) = .func (.func f) #[] #[]

theorem ph_st {a0 : Act} {w : World} (C : (Nat → Bool) → Act → World → Prop) (G : Nat → World → World → Prop) (T : Nat → Value → World → Prop)
    (hs : shapeB ops a0.tmps.size = true)
    (h0 : ∀ w', Below w.heap.size w w' → w'.heap = w.heap → C (fun _ => false) a0 w')
    (hΓ : ∀ δ i j o v a w w', ops[j]? = some o → i ≠ j → Closed ops δ → δ j = true → δ i = false → C δ a w → G i w w' → tyP T o v w → tyP T o v w')
    (hop : OpsAll (fun n o => ∀ δ a wx, KnownS ops C T a0 n o δ a wx → Wanted ops o a ∧ GivesP P (fun v w' => G n wx w' ∧ C (upd δ n) (a.put o.dst v) w' ∧ tyP T o v w') ((execOp a.eval o).run P wx)) ops.toList 0)
    (hend : ∀ δ a wx, (∀ i, i < ops.size → δ i = true) → C δ a wx → SameBut ops a0 a → (∀ d, outB ops d = false → T d (a.eval (.tmp d)) wx) → Q .normal a wx) :
    wpAny P .any ops Q ops.size (Array.replicate ops.size false) a0 { w with drawn := w.drawn + 1 } := by
  refine phase_st (C := C) (G := G) (Γ := fun i v wx => ∀ o, ops[i]? = some o → tyP T o v wx) hs ?_ ?_ ?_ _ _ (fun _ => false) _ _ ?_ (by simp) ?_ ?_ (h0 _ ⟨rfl, rfl, rfl, Nat.le_refl _, fun _ _ => rfl⟩ rfl) ⟨rfl, rfl, fun _ _ => rfl⟩ ?_
  · intro δ i j v a w w' hij hcl hj hi hc hG h o ho
    exact hΓ δ i j o v a w w' ho hij hcl hj hi hc hG (h o ho)
  · intro δ i o a wx ho hi hcl hcl' hc hsame hdep
    have hk : KnownS ops C T a0 i o δ a wx := by
      refine ⟨hi, hcl, hcl', hc, hsame, fun d hd => ?_, fun d hd => ?_, fun _ => rfl, fun _ => rfl⟩
      · unfold waitsB at hd
        rw [Array.any_eq_true] at hd
        obtain ⟨k, hk, he⟩ := hd
        rw [Bool.and_eq_true] at he
        obtain ⟨hb, hp⟩ := he
        split at hp
        · rename_i p hpp
          simp only [decide_eq_true_eq] at hp
          have := hdep _ (Array.getElem_mem hk) hb p d hpp hp p hpp
          unfold tyP at this
          rw [hp] at this
          exact this
        · exact absurd hp (by decide)
      · refine hsame.2.2 d fun j p hp hpd => ?_
        unfold outB at hd
        rw [Array.all_eq_true] at hd
        obtain ⟨hj, hjp⟩ := Array.getElem?_eq_some_iff.1 hp
        have := hd j hj
        rw [hjp] at this
        simp [hpd] at this
    have h := OpsAll.get _ _ hop i o (by simpa using ho) δ a wx (by rw [Nat.zero_add]; exact hk)
    unfold wpOp
    rw [ho]
    dsimp only
    rw [if_pos (show Region.wanted o (yielded ops a.tmps) = true from h.1)]
    refine Or.inl ?_
    unfold Oper.wp
    have h2 := h.2
    rw [Nat.zero_add] at h2
    generalize (execOp a.eval o).run P wx = r at h2
    have hgo : ∀ v w', (G i wx w' ∧ C (upd δ i) (a.put o.dst v) w' ∧ tyP T o v w') → ∃ v', a.put o.dst v = a.put o.dst v' ∧ G i wx w' ∧ C (upd δ i) (a.put o.dst v) w' ∧ ∀ o', some o = some o' → tyP T o' v' w' := by
      rintro v w' ⟨h1, h2, h3⟩
      refine ⟨v, rfl, h1, h2, fun o' ho' => ?_⟩
      obtain rfl : o = o' := Option.some.inj ho'
      exact h3
    match r, h2 with
    | .ok (.value v) w', h2 => exact hgo v w' h2
    | .ok .skip w', h2 => exact hgo undef w' h2
    | .ok (.enter f args) w', h2 =>
      refine Calls.mono h2 ?_
      rintro e w'' ⟨v, rfl, hv⟩
      exact hgo v w'' hv
  · intro δ a wx hall hc hsame hΓ
    refine hend δ a wx hall hc hsame fun d hd => ?_
    unfold outB at hd
    rw [Array.all_eq_false] at hd
    obtain ⟨j, hj, hp⟩ := hd
    have hpd : ops[j].dst = some d := by simpa using hp
    have := hΓ j ops[j] d (by simp [hj]) hpd ops[j] (by simp [hj])
    unfold tyP at this
    rw [hpd] at this
    exact this
  · exact Nat.le_trans (List.length_filter_le _ _) (by simp)
  · intro i; simp [Array.getD]
  · intro i o ho hi; exact absurd hi Bool.false_ne_true
  · intro i o d hl; exact absurd hl Bool.false_ne_true
theorem wp_region_st {id : Nat} {a0 : Act} {w : World} (C : (Nat → Bool) → Act → World → Prop) (G : Nat → World → World → Prop) (T : Nat → Value → World → Prop)
    (hm : P.follows .mixedOrders = true) (hs : shapeB ops a0.tmps.size = true)
    (h0 : ∀ w', Below w.heap.size w w' → w'.heap = w.heap → C (fun _ => false) a0 w')
    (hΓ : ∀ δ i j o v a w w', ops[j]? = some o → i ≠ j → Closed ops δ → δ j = true → δ i = false → C δ a w → G i w w' → tyP T o v w → tyP T o v w')
    (hop : OpsAll (fun n o => ∀ δ a wx, KnownS ops C T a0 n o δ a wx → Wanted ops o a ∧ GivesP P (fun v w' => G n wx w' ∧ C (upd δ n) (a.put o.dst v) w' ∧ tyP T o v w') ((execOp a.eval o).run P wx)) ops.toList 0)
    (hend : ∀ δ a wx, (∀ i, i < ops.size → δ i = true) → C δ a wx → SameBut ops a0 a → (∀ d, outB ops d = false → T d (a.eval (.tmp d)) wx) → Q .normal a wx) :
    (Code.region id ops true).wp P Q a0 w := wp_region_any hm (ph_st C G T hs h0 hΓ hop hend)

end
end Go.Cit

/- Whole arrays in a region that draws its order; a box made. No condition. -/
namespace Go.Cit
open Go Go.RowKit

section
variable {P : Program} {ops : Array Oper} {rest : List Oper} {o : Oper} {act : Act} {w w' : World} {Q : Exit → Act → World → Prop} {ρ : Operand → Value} {post : Value → World → Prop}
theorem run_boxB {T : TypeId} {C : Array Value} (x : Operand) (ho : o.op = .box T x) (hx : ρ x = .agg C) : (execOp ρ o).run P w = .ok (.value (.pointer (some ⟨w.heap.size, 0, none⟩))) (w.alloc (.cells C T)) := by
  unfold execOp
  simp only [ho, Sem.run_bind, Instr.box, newVar, newRow, run_newObj_alloc, Sem.run_pure, Result.andThen_ok, hx]
  rfl
theorem wpList_boxB {T : TypeId} {C : Array Value} (x : Operand) (hgd : o.guard = none) (ho : o.op = .box T x) (hx : act.eval x = .agg C)
    (h : wpList P ops Q rest (act.put o.dst (.pointer (some ⟨w.heap.size, 0, none⟩))) (w.alloc (.cells C T))) : wpList P ops Q (o :: rest) act w :=
  wpList_value hgd (run_boxB x ho hx) h
theorem gp_loadB {T E : TypeId} {n b : Nat} {C : Array Value} {fr : Nat × Nat} (hT : RowType P T n) (x : Operand) (ho : o.op = .load T x) (hx : ρ x = .pointer (some ⟨b, 0, none⟩)) (hb : w.heap[b]? = some (.cells C E fr)) (hn : C.size = n)
    (h : post (.agg C) w) : GivesP P post ((execOp ρ o).run P w) := by
  obtain ⟨⟨d, hu, hd⟩, hi⟩ := hT
  have hr := run_loadB (P := P) hu hd (by rw [hi, hn]) hb
  refine gp_run (w' := w) (v := .agg C) ?_ h
  unfold execOp
  simp only [ho, hx, Sem.run_bind, Instr.loadAt, Instr.sureAddr, Sem.run_pure, Result.andThen, hr]
theorem gp_storeB {T E : TypeId} {n b : Nat} {C C' : Array Value} (hT : RowType P T n) (x y : Operand) (ho : o.op = .store T x y) (hx : ρ x = .pointer (some ⟨b, 0, none⟩)) (hy : ρ y = .agg C') (hb : w.heap[b]? = some (.cells C E (0, 0)))
    (hn : C.size = n) (hn' : C'.size = n) (h1 : C'.all (·.oneCell') = true)
    (h : ∀ w', w'.heap[b]? = some (.cells C' E (0, 0)) → Save (· ≠ b) w w' → post undef w') : GivesP P post ((execOp ρ o).run P w) := by
  have hr := run_storeVar_row (P := P) w b E T C C' hb (by rw [hT.info, hn']) (by rw [hn, hn']) h1
  refine gp_skip (w' := w.setRow b C') ?_ (h _ (setRow_same hb) (setRow_save _ _ _))
  unfold execOp
  simp only [ho, hx, hy, Sem.run_bind, Instr.storeAt, Instr.sureAddr, Sem.run_pure, Result.andThen, hr]
theorem gp_copy {t t' : TypeId} {v u v' : Value} {w' : World} (d s : Operand) (ho : o.op = .call { callee := .builtin .copy, args := #[d, s], argTypes := #[t, t'] }) (hd : ρ d = v) (hs : ρ s = u)
    (hr : (Builtin.copy_ #[t, t'] o.type #[v, u]).run P w = .ok v' w') (h : post v' w') : GivesP P post ((execOp ρ o).run P w) := by
  refine gp_run (w' := w') (v := v') ?_ h
  unfold execOp
  simp only [ho, resolve, invoke, builtin, Sem.run_bind, Sem.run_pure, Result.andThen_ok, List.map_toArray, List.map_cons, List.map_nil, hd, hs, hr]
theorem gp_slice' {ty : TypeId} {x : Operand} {lo hi mx : Option Operand} (h : o.op = .slice ty x lo hi mx) {vx v : Value} {vl vh vm : Option Value} (hx : ρ x = vx) (hl : lo.map ρ = vl) (hh : hi.map ρ = vh) (hm : mx.map ρ = vm)
    (hr : (Instr.sliceAt ty vx vl vh vm).run P w = .ok v w) (hp : post v w) : GivesP P post ((execOp ρ o).run P w) := by
  refine gp_run (w' := w) (v := v) ?_ hp
  unfold execOp
  simp only [h, hx, hl, hh, hm, Sem.run_bind, hr, Result.andThen, Sem.run_pure]
end
end Go.Cit

/- (sha.State).eat: the region that draws its order; the turn of the row. -/
namespace Go.Proofs.YtofagofpeedfcaaGreat
open Go Go.RowKit Go.Cit

theorem row_w64 : RowType Tryz.prog 103 64 := ⟨⟨_, Tryz.underlying103, rfl⟩, by kernel_rfl⟩
theorem row_state : RowType Tryz.prog 101 8 := ⟨⟨_, Tryz.underlying101, rfl⟩, by kernel_rfl⟩
theorem alloc_w64 (ρ : Operand → Value) (d : Option Tmp) (ty : TypeId) (ps : String) {af} (w : World) :
    (execOp ρ { dst := d, op := Op.alloc 103, type := ty, pos := ps, after := af, guard := none }).run Tryz.prog w = .ok (.value (.pointer (some ⟨w.heap.size, 0, none⟩))) (w.alloc (.cells ((List.replicate 64 (0 : UInt32)).map vw).toArray 103)) := by
  kernel_rfl
theorem alloc_state (ρ : Operand → Value) (d : Option Tmp) (ty : TypeId) (ps : String) {af} (w : World) :
    (execOp ρ { dst := d, op := Op.alloc 101, type := ty, pos := ps, after := af, guard := none }).run Tryz.prog w = .ok (.value (.pointer (some ⟨w.heap.size, 0, none⟩))) (w.alloc (.cells ((List.replicate 8 (0 : UInt32)).map vw).toArray 101)) := by
  kernel_rfl

/-- What is held between the operations of eat's region that makes w and x. -/
def eatC (n0 : Nat) (W : World) (F S Z Y : Array Value) (δ : Nat → Bool) (a : Act) (wx : World) : Prop :=
  Below n0 W wx ∧ (δ 3 = true → ∃ g, a.tmps.getD 7 undef = .pointer (some ⟨g, 0, none⟩) ∧ n0 ≤ g ∧ wx.heap[g]? = some (.cells (if δ 5 then F else Z) 103 (0, 0))) ∧
  (δ 4 = true → ∃ g, a.tmps.getD 8 undef = .pointer (some ⟨g, 0, none⟩) ∧ n0 ≤ g ∧ wx.heap[g]? = some (.cells (if δ 6 then S else Y) 101 (0, 0)))
def eatT (a : Option Addr) (c : Nat) (F S : Array Value) : Nat → Value → World → Prop
  | 15, v, _ => v = .slice a 64 c
  | 16, v, _ => v = .agg F
  | 17, v, _ => v = .agg S
  | _, _, _ => True
theorem eatC_pure {n0 : Nat} {W : World} {F S Z Y : Array Value} {δ : Nat → Bool} {a : Act} {wx w' : World} (h : eatC n0 W F S Z Y δ a wx) (hn : n0 = W.heap.size) (hb : Below wx.heap.size wx w') {i d : Nat} {v : Value} (hi : i < 3) (hd : 9 ≤ d) :
    eatC n0 W F S Z Y (upd δ i) (a.put (some d) v) w' := by
  obtain ⟨h1, h2, h3⟩ := h
  have hs := h1.size
  refine ⟨h1.trans (hb.mono (by omega)), fun h => ?_, fun h => ?_⟩
  · rw [upd_other δ (by omega)] at h
    obtain ⟨g, e, hg, hc⟩ := h2 h
    refine ⟨g, by rw [put_getD_ne _ _ _ _ (fun h => by have : d = 7 := Option.some.inj h; omega)]; exact e, hg, ?_⟩
    rw [upd_other δ (by omega), hb.block _ (Array.getElem?_eq_some_iff.1 hc).1]; exact hc
  · rw [upd_other δ (by omega)] at h
    obtain ⟨g, e, hg, hc⟩ := h3 h
    refine ⟨g, by rw [put_getD_ne _ _ _ _ (fun h => by have : d = 8 := Option.some.inj h; omega)]; exact e, hg, ?_⟩
    rw [upd_other δ (by omega), hb.block _ (Array.getElem?_eq_some_iff.1 hc).1]; exact hc
theorem eatC_a7 {n0 : Nat} {W : World} {F S Z Y : Array Value} {δ : Nat → Bool} {a : Act} {wx : World} (h : eatC n0 W F S Z Y δ a wx) (hn : n0 = W.heap.size) (h5 : δ 5 = false) (h7 : 7 < a.tmps.size) :
    eatC n0 W F S Z Y (upd δ 3) (a.put (some 7) (.pointer (some ⟨wx.heap.size, 0, none⟩))) (wx.alloc (.cells Z 103)) := by
  obtain ⟨h1, h2, h3⟩ := h
  have hs := h1.size
  refine ⟨h1.alloc (by omega) _, fun _ => ⟨wx.heap.size, put_getD_same _ _ _ h7, by omega, ?_⟩, fun h => ?_⟩
  · rw [upd_other δ (by omega), h5]; exact heap_alloc_new wx _
  · rw [upd_other δ (by omega)] at h
    obtain ⟨g, e, hg, hc⟩ := h3 h
    refine ⟨g, by rw [put_getD_ne _ _ _ _ (by simp)]; exact e, hg, ?_⟩
    rw [upd_other δ (by omega), ((Below.refl _ wx).alloc (Nat.le_refl _) _).block _ (Array.getElem?_eq_some_iff.1 hc).1]; exact hc
theorem eatC_a8 {n0 : Nat} {W : World} {F S Z Y : Array Value} {δ : Nat → Bool} {a : Act} {wx : World} (h : eatC n0 W F S Z Y δ a wx) (hn : n0 = W.heap.size) (h6 : δ 6 = false) (h8 : 8 < a.tmps.size) :
    eatC n0 W F S Z Y (upd δ 4) (a.put (some 8) (.pointer (some ⟨wx.heap.size, 0, none⟩))) (wx.alloc (.cells Y 101)) := by
  obtain ⟨h1, h2, h3⟩ := h
  have hs := h1.size
  refine ⟨h1.alloc (by omega) _, fun h => ?_, fun _ => ⟨wx.heap.size, put_getD_same _ _ _ h8, by omega, ?_⟩⟩
  · rw [upd_other δ (by omega)] at h
    obtain ⟨g, e, hg, hc⟩ := h2 h
    refine ⟨g, by rw [put_getD_ne _ _ _ _ (by simp)]; exact e, hg, ?_⟩
    rw [upd_other δ (by omega), ((Below.refl _ wx).alloc (Nat.le_refl _) _).block _ (Array.getElem?_eq_some_iff.1 hc).1]; exact hc
  · rw [upd_other δ (by omega), h6]; exact heap_alloc_new wx _
theorem eatC_s7 {n0 : Nat} {W : World} {F S Z Y : Array Value} {δ : Nat → Bool} {a : Act} {wx w' : World} (h : eatC n0 W F S Z Y δ a wx) {v : Value} {g : Nat} (hg : a.tmps.getD 7 undef = .pointer (some ⟨g, 0, none⟩)) (hge : n0 ≤ g) (hg69 : ∃ C, wx.heap[g]? = some (.cells C 103 (0, 0)))
    (hb : w'.heap[g]? = some (.cells F 103 (0, 0))) (hs : Save (· ≠ g) wx w') : eatC n0 W F S Z Y (upd δ 5) (a.put none v) w' := by
  obtain ⟨h1, h2, h3⟩ := h
  refine ⟨⟨hs.os.trans h1.os, hs.tape.trans h1.tape, hs.output.trans h1.output, Nat.le_trans h1.size hs.size, fun k hk => ?_⟩, fun h => ⟨g, hg, hge, ?_⟩, fun h => ?_⟩
  · by_cases hkw : k < wx.heap.size
    · exact (hs.block k hkw (by omega)).trans (h1.block k hk)
    · have := (Array.getElem?_eq_some_iff.1 hg69.choose_spec).1
      omega
  · rw [upd_same]; exact hb
  · rw [upd_other δ (by omega)] at h
    obtain ⟨k, e, hk, hc⟩ := h3 h
    refine ⟨k, e, hk, ?_⟩
    obtain ⟨C, hC⟩ := hg69
    have hne : k ≠ g := by
      rintro rfl
      rw [hC] at hc
      injection hc with hc
      injection hc with _ hc
      exact absurd hc (by decide)
    rw [upd_other δ (by omega), hs.block k (Array.getElem?_eq_some_iff.1 hc).1 hne]; exact hc
theorem eatC_s8 {n0 : Nat} {W : World} {F S Z Y : Array Value} {δ : Nat → Bool} {a : Act} {wx w' : World} (h : eatC n0 W F S Z Y δ a wx) {v : Value} {g : Nat} (hg : a.tmps.getD 8 undef = .pointer (some ⟨g, 0, none⟩)) (hge : n0 ≤ g) (hg24 : ∃ C, wx.heap[g]? = some (.cells C 101 (0, 0)))
    (hb : w'.heap[g]? = some (.cells S 101 (0, 0))) (hs : Save (· ≠ g) wx w') : eatC n0 W F S Z Y (upd δ 6) (a.put none v) w' := by
  obtain ⟨h1, h2, h3⟩ := h
  refine ⟨⟨hs.os.trans h1.os, hs.tape.trans h1.tape, hs.output.trans h1.output, Nat.le_trans h1.size hs.size, fun k hk => ?_⟩, fun h => ?_, fun h => ⟨g, hg, hge, ?_⟩⟩
  · by_cases hkw : k < wx.heap.size
    · exact (hs.block k hkw (by omega)).trans (h1.block k hk)
    · have := (Array.getElem?_eq_some_iff.1 hg24.choose_spec).1
      omega
  · rw [upd_other δ (by omega)] at h
    obtain ⟨k, e, hk, hc⟩ := h2 h
    refine ⟨k, e, hk, ?_⟩
    obtain ⟨C, hC⟩ := hg24
    have hne : k ≠ g := by
      rintro rfl
      rw [hC] at hc
      injection hc with hc
      injection hc with _ hc
      exact absurd hc (by decide)
    rw [upd_other δ (by omega), hs.block k (Array.getElem?_eq_some_iff.1 hc).1 hne]; exact hc
  · rw [upd_same]; exact hb

theorem eatT_any {a : Option Addr} {c : Nat} {F S : Array Value} {d : Nat} {v : Value} {w w' : World} (h : eatT a c F S d v w) : eatT a c F S d v w' := by
  unfold eatT at *
  split at h <;> simp_all
theorem arr_get {T : TypeId} {w : World} {b : Nat} {S : List UInt32} (h : Arr T w b S) (i : Nat) (hi : i < S.length) : w.cell? ⟨b, i, none⟩ = some (vw (S.getD i 0)) := by
  rw [h.cell i hi]; simp [hi]
theorem arr_lit {T : TypeId} {n : Nat} (hT : Tryz.prog.underlying T = some (.array n 96)) (b i : Nat) (hi : i < n) (w : World) (j : Int) (hj : j = (i : Int)) :
    (Instr.indexAt T (.pointer (some ⟨b, 0, none⟩)) (.int .i64 j)).run Tryz.prog w = .ok (.pointer (some ⟨b, i, none⟩)) w := by
  subst hj; exact arr_index hT b i hi w
theorem wpList_copy_run {P : Program} {ops : Array Oper} {rest : List Oper} {o : Oper} {act : Act} {w : World} {Q : Exit → Act → World → Prop} (hgd : o.guard = none) (d s : Operand) (t t' : TypeId)
    (ho : o.op = .call { callee := .builtin .copy, args := #[d, s], argTypes := #[t, t'] }) (v u : Value) (hd : act.eval d = v) (hs : act.eval s = u) {v' : Value} {w' : World}
    (hr : (Builtin.copy_ #[t, t'] o.type #[v, u]).run P w = .ok v' w') (h : wpList P ops Q rest (act.put o.dst v') w') : wpList P ops Q (o :: rest) act w :=
  wpList_plain hgd fun _ hK => Lib.wp_copy_run w d s t t' ho v u hd hs hr (hK _ _ h)
theorem state_from1 (g : Nat) (w : World) : (Instr.sliceAt 101 (.pointer (some ⟨g, 0, none⟩)) (some (.int .i64 1)) none none).run Tryz.prog w = .ok (.slice (some ⟨g, 1, none⟩) 7 7) w := by
  have hT : Tryz.prog.underlying 101 = some (.array 8 96) := Tryz.underlying101
  have he : Tryz.prog.elem 101 = 96 := by simp [Program.elem, hT]
  have hl : Tryz.prog.arrayLen 101 = 8 := by simp [Program.arrayLen, hT]
  rw [run_sliceAt_array_l _ _ _ (by rw [he, hl]; exact hT) _ _ (by decide) (by rw [hl]; decide), he, szW, hl]
  rfl
theorem state_upto7 (g : Nat) (w : World) : (Instr.sliceAt 101 (.pointer (some ⟨g, 0, none⟩)) none (some (.int .i64 7)) none).run Tryz.prog w = .ok (.slice (some ⟨g, 0, none⟩) 7 8) w := by
  have hT : Tryz.prog.underlying 101 = some (.array 8 96) := Tryz.underlying101
  have he : Tryz.prog.elem 101 = 96 := by simp [Program.elem, hT]
  have hl : Tryz.prog.arrayLen 101 = 8 := by simp [Program.arrayLen, hT]
  rw [run_sliceAt_array_h _ _ _ (by rw [he, hl]; exact hT) _ _ (by decide) (by rw [hl]; decide), he, szW, hl]
  rfl
/-- copy(x[1:], x[:7]). -/
theorem state_copy (w : World) (g : Nat) (x : S8) (h : Arr 101 w g x.l) (ty : TypeId) :
    ∃ w', (Builtin.copy_ #[79, 79] ty #[.slice (some ⟨g, 1, none⟩) 7 7, .slice (some ⟨g, 0, none⟩) 7 8]).run Tryz.prog w = .ok (.int .i64 7) w' ∧ Arr 101 w' g [x.a, x.a, x.b, x.c, x.d, x.e, x.f, x.g] ∧ Save (· ≠ g) w w' := by
  have hu : Tryz.prog.underlying 79 = some (.slice 96) := Tryz.underlying79
  have hr := run_copy_cells (P := Tryz.prog) w 79 79 ty 96 g 1 7 7 ⟨g, 0, none⟩ 7 8 ([x.a, x.b, x.c, x.d, x.e, x.f, x.g].map vw) hu (by kernel_rfl) rfl
    (fun j v hj => by
      have hjl : j < 7 := (List.getElem?_eq_some_iff.1 hj).1
      have e : (⟨g, 0, none⟩ : Addr).add j = ⟨g, j, none⟩ := by unfold Addr.add; split <;> simp_all
      rw [e, h.cell j (by simp [S8.l]; omega), ← hj, List.getElem?_map]
      match j, hjl with
      | 0, _ => rfl
      | 1, _ => rfl
      | 2, _ => rfl
      | 3, _ => rfl
      | 4, _ => rfl
      | 5, _ => rfl
      | 6, _ => rfl)
    (fun j hj => by
      have hjl : j < 7 := hj
      rw [h.cell (1 + j) (by simp [S8.l]; omega)]; rfl)
    (fun j _ => h.free _) (fun v hv => by obtain ⟨y, _, rfl⟩ := List.mem_map.1 hv; rfl)
  refine ⟨_, hr, ?_, ?_⟩
  · have := ((((((h.set 1 x.a).set 2 x.b).set 3 x.c).set 4 x.d).set 5 x.e).set 6 x.f).set 7 x.g
    exact this
  · exact (((((Save.set.trans Save.set).trans Save.set).trans Save.set).trans Save.set).trans Save.set).trans Save.set
theorem plus_next (x s : S8) : ∀ k, k < 8 → ((x.plus s).l.take k ++ x.l.drop k).set k (wAdd (x.l.getD k 0) (s.l.getD k 0)) = (x.plus s).l.take (k + 1) ++ x.l.drop (k + 1)
  | 0, _ => rfl
  | 1, _ => rfl
  | 2, _ => rfl
  | 3, _ => rfl
  | 4, _ => rfl
  | 5, _ => rfl
  | 6, _ => rfl
  | 7, _ => rfl
theorem plus_get (x s : S8) : ∀ k, k < 8 → ((x.plus s).l.take k ++ x.l.drop k).getD k 0 = x.l.getD k 0
  | 0, _ => rfl
  | 1, _ => rfl
  | 2, _ => rfl
  | 3, _ => rfl
  | 4, _ => rfl
  | 5, _ => rfl
  | 6, _ => rfl
  | 7, _ => rfl
end Go.Proofs.YtofagofpeedfcaaGreat

/- (sha.State).eat: walked. -/
namespace Go.Proofs.YtofagofpeedfcaaGreat
open Go Go.RowKit Go.Cit

set_option maxRecDepth 100000 in
set_option maxHeartbeats 4000000 in
theorem eat_calls (w : World) (s : S8) (a : Option Addr) (b : List UInt8) (c : Nat) (K : List UInt32) (hr : Row w a b c) (hb : b.length = 64) (hK : K.length = 64) :
    Calls Tryz.prog 69 #[.agg (s.l.map vw).toArray, .slice a 64 c, .agg (K.map vw).toArray] w fun e w' => e = .returned (.agg ((s.eat K b).l.map vw).toArray) ∧ Below w.heap.size w w' := by
  have HA := Lib.hid (fun ρ d ty ps af w => alloc_state ρ d ty ps (af := af) w)
  obtain ⟨Z, hZ⟩ : ∃ Z, Hid (Z = ((List.replicate 64 (0 : UInt32)).map vw).toArray) := ⟨_, rfl⟩
  obtain ⟨Y, hY⟩ : ∃ Y, Hid (Y = ((List.replicate 8 (0 : UInt32)).map vw).toArray) := ⟨_, rfl⟩
  obtain ⟨S, hS⟩ : ∃ S, Hid (S = (s.l.map vw).toArray) := ⟨_, rfl⟩
  obtain ⟨KV, hKV⟩ : ∃ S, Hid (S = (K.map vw).toArray) := ⟨_, rfl⟩
  obtain ⟨F, hF⟩ : ∃ F, Hid (F = ((sched b 64).map vw).toArray) := ⟨_, rfl⟩
  rw [← hY.out] at HA
  rw [← hS.out, ← hKV.out]
  have HZ : Hid (Z.size = 64) := by rw [Hid, hZ.out]; simp
  have HY : Hid (Y.size = 8) := by rw [Hid, hY.out]; simp
  have HSs : Hid (S.size = 8) := by rw [Hid, hS.out]; simp [S8.l]
  have HFs : Hid (F.size = 64) := by rw [Hid, hF.out]; simp [sched_length]
  have HSo : Hid (S.all (·.oneCell') = true) := by rw [Hid, hS.out]; exact arr_ok _
  have HFo : Hid (F.all (·.oneCell') = true) := by rw [Hid, hF.out]; exact arr_ok _
  have HR := Lib.hid hr
  have HBL := Lib.hid hb
  have HKL := Lib.hid hK
  clear hr hb hK
  go_enter Tryz.func69, Tryz.ntmps69
  go_wp2_with (first
    | ((with_reducible refine wpList_boxB (o := ⟨some 3, .box _ (.tmp 0), _, _, _, _⟩) (.tmp 0) (by with_unfolding_all rfl) (by with_unfolding_all rfl) (by with_unfolding_all rfl) ?_))
    | ((with_reducible refine wpList_boxB (o := ⟨some 5, .box _ (.tmp 2), _, _, _, _⟩) (.tmp 2) (by with_unfolding_all rfl) (by with_unfolding_all rfl) (by with_unfolding_all rfl) ?_))
    | ((with_reducible refine wpList_value (o := ⟨some 6, .alloc _, _, _, _, _⟩) (by with_unfolding_all rfl) (HA.out _ _ _ _ _ _) ?_)))
  have hsz : (((w.alloc (.cells S 101)).alloc (.cells KV 103)).alloc (.cells Y 101)).heap.size = w.heap.size + 3 := by simp
  have B0 : Below w.heap.size w (((w.alloc (.cells S 101)).alloc (.cells KV 103)).alloc (.cells Y 101)) := (((Below.refl _ w).alloc (Nat.le_refl _) _).alloc (by simp) _).alloc (by simp; omega) _
  have b0 : (((w.alloc (.cells S 101)).alloc (.cells KV 103)).alloc (.cells Y 101)).heap[w.heap.size]? = some (.cells S 101 (0, 0)) :=
    (Below.heap_alloc _ _ _ (by simp; omega)).trans ((Below.heap_alloc _ _ _ (by simp)).trans (heap_alloc_new w _))
  have b1 : (((w.alloc (.cells S 101)).alloc (.cells KV 103)).alloc (.cells Y 101)).heap[w.heap.size + 1]? = some (.cells KV 103 (0, 0)) := by
    refine (Below.heap_alloc _ _ _ (by simp)).trans ?_
    have := heap_alloc_new (w.alloc (.cells S 101)) (.cells KV 103)
    rwa [World.size_alloc] at this
  have b2 : (((w.alloc (.cells S 101)).alloc (.cells KV 103)).alloc (.cells Y 101)).heap[w.heap.size + 2]? = some (.cells Y 101 (0, 0)) := by
    have := heap_alloc_new ((w.alloc (.cells S 101)).alloc (.cells KV 103)) (.cells Y 101)
    rwa [World.size_alloc, World.size_alloc] at this
  simp only [World.size_alloc]
  generalize (((w.alloc (.cells S 101)).alloc (.cells KV 103)).alloc (.cells Y 101)) = W at hsz B0 b0 b1 b2 ⊢
  have HRW : Hid (Row W a b c) := HR.out.stay B0
  refine wp_region_st (eatC W.heap.size W F S Z Y) (fun _ _ _ => True) (eatT a c F S) (by kernel_rfl) (by kernel_rfl) ?_ ?_ ?_ ?_
  · intro w' hb hh
    exact ⟨hb, fun h => absurd h Bool.false_ne_true, fun h => absurd h Bool.false_ne_true⟩
  · intro δ i j o v a w w' _ _ _ _ _ _ _ h
    rcases hd : o.dst with _ | d
    · exact tyP_none hd _ _
    · rw [tyP_some hd] at h ⊢
      exact eatT_any h
  · refine opsAll_cons ?_ (opsAll_cons ?_ (opsAll_cons ?_ (opsAll_cons ?_ (opsAll_cons ?_ (opsAll_cons ?_ (opsAll_cons ?_ opsAll_nil))))))
    all_goals intro δ wa wx hk
    · exact ⟨wanted_free rfl, gp_move (.tmp 1) rfl ⟨trivial, eatC_pure hk.inv rfl (Below.refl _ _) (by decide) (by decide), hk.old 1 (by kernel_rfl)⟩⟩
    · refine ⟨wanted_free rfl, gp_call rfl (hk.fn _) #[.slice a 64 c] (fun w => by kernel_rfl) (by simp [show wa.eval (.tmp 15) = _ from hk.slot 15 (by kernel_rfl)]) ((schedule_calls wx a b c (HRW.out.stay hk.inv.1) HBL.out).mono ?_)⟩
      rintro e w' ⟨rfl, hb⟩
      exact ⟨_, rfl, trivial, eatC_pure hk.inv rfl hb (by decide) (by decide), by rw [← hF.out]; rfl⟩
    · have hb := (hk.inv.1.block w.heap.size (by omega)).trans b0
      exact ⟨wanted_free rfl, gp_loadB row_state (.tmp 3) rfl (hk.old 3 (by kernel_rfl)) hb HSs.out ⟨trivial, eatC_pure hk.inv rfl (Below.refl _ _) (by decide) (by decide), rfl⟩⟩
    · refine ⟨wanted_free rfl, gp_run (alloc_w64 _ _ _ _ wx) ?_⟩
      rw [← hZ.out]
      exact ⟨trivial, eatC_a7 hk.inv rfl (hk.closed.yet 8 5 3 (by kernel_rfl) hk.yet) (by rw [hk.same.2.1, put_size, put_size, put_size]; exact (by decide : 7 < 93)), trivial⟩
    · refine ⟨wanted_free rfl, gp_run (alloc_state _ _ _ _ wx) ?_⟩
      rw [← hY.out]
      exact ⟨trivial, eatC_a8 hk.inv rfl (hk.closed.yet 8 6 4 (by kernel_rfl) hk.yet) (by rw [hk.same.2.1, put_size, put_size, put_size]; exact (by decide : 8 < 93)), trivial⟩
    · have h3 : δ 3 = true := by have := hk.next.needs 8 5 3 (by kernel_rfl) (upd_same _ _); rwa [upd_other δ (by decide)] at this
      obtain ⟨g, e, hg, hc⟩ := hk.inv.2.1 h3
      rw [hk.yet] at hc
      refine ⟨wanted_free rfl, gp_storeB row_w64 (.tmp 7) (.tmp 16) rfl e (hk.slot 16 (by kernel_rfl)) hc HZ.out HFs.out HFo.out ?_⟩
      intro w' hb hs
      exact ⟨trivial, eatC_s7 hk.inv e hg ⟨_, hc⟩ hb hs, tyP_none rfl _ _⟩
    · have h4 : δ 4 = true := by have := hk.next.needs 8 6 4 (by kernel_rfl) (upd_same _ _); rwa [upd_other δ (by decide)] at this
      obtain ⟨g, e, hg, hc⟩ := hk.inv.2.2 h4
      rw [hk.yet] at hc
      refine ⟨wanted_free rfl, gp_storeB row_state (.tmp 8) (.tmp 17) rfl e (hk.slot 17 (by kernel_rfl)) hc HY.out HSs.out HSo.out ?_⟩
      intro w' hb hs
      exact ⟨trivial, eatC_s8 hk.inv e hg ⟨_, hc⟩ hb hs, tyP_none rfl _ _⟩
  intro δ wa wx hall hC hsame hT
  obtain ⟨hB, h7, h8⟩ := hC
  obtain ⟨g7, e7, hg7, hc7⟩ := h7 (hall 3 (by decide))
  obtain ⟨g8, e8, hg8, hc8⟩ := h8 (hall 4 (by decide))
  rw [hall 5 (by decide), if_pos rfl] at hc7
  rw [hall 6 (by decide), if_pos rfl] at hc8
  have he := act_same hsame [15, 16, 17, 7, 8] (by kernel_rfl)
  simp only [List.foldl_cons, List.foldl_nil] at he
  rw [show wa.eval (.tmp 15) = _ from hT 15 (by kernel_rfl), show wa.eval (.tmp 16) = _ from hT 16 (by kernel_rfl), show wa.eval (.tmp 17) = _ from hT 17 (by kernel_rfl), show wa.eval (.tmp 7) = _ from e7, show wa.eval (.tmp 8) = _ from e8] at he
  subst he
  clear hT hsame e7 e8 hall h7 h8
  have A3 : Arr 101 wx w.heap.size s.l := by
    have := (hB.block w.heap.size (by omega)).trans b0; rw [hS.out] at this; exact this
  have A5 : Arr 103 wx (w.heap.size + 1) K := by
    have := (hB.block (w.heap.size + 1) (by omega)).trans b1; rw [hKV.out] at this; exact this
  have A6 : wx.heap[w.heap.size + 2]? = some (.cells Y 101 (0, 0)) := (hB.block (w.heap.size + 2) (by omega)).trans b2
  have A7 : Arr 103 wx g7 (sched b 64) := by rw [hF.out] at hc7; exact hc7
  have A8 : Arr 101 wx g8 s.l := by rw [hS.out] at hc8; exact hc8
  have B := B0.trans (hB.mono (by omega))
  have hne : g7 ≠ g8 := by
    rintro rfl
    rw [hc7] at hc8
    injection hc8 with hc8
    injection hc8 with _ hc8
    exact absurd hc8 (by decide)
  obtain ⟨L, hL⟩ : ∃ L, Hid (L = sched b 64) := ⟨_, rfl⟩
  have HLL : Hid (L.length = 64) := by rw [Hid, hL.out, sched_length]
  rw [← hL.out] at A7
  rw [hsz] at hg7 hg8
  clear b0 b1 b2 hsz B0 hc7 hc8 hB HRW HR HA HZ HFs HFo hF hZ
  go_wp2_with fail
  go_loopw [18] (fun i wr => ∃ (k : Nat) (x : S8), k ≤ 64 ∧ i = .int .i64 k ∧ Hid (x = s.rounds K L k) ∧ Arr 101 wr g8 x.l ∧ Save (· ≠ g8) wx wr) (fun i _ => 64 - (intOf i).toNat)
  case atStart => exact ⟨0, s, Nat.zero_le _, rfl, rfl, A8, Save.refl _ _⟩
  case round =>
    clear A8
    obtain ⟨k, x, hk, rfl, HX, AX, hsv⟩ := hrel
    have A5' := A5.save hsv (by omega)
    have A7' := A7.save hsv hne
    by_cases hlt : k < 64
    · have d1 : decide ((k : Int) < 64) = true := by simp; omega
      have HKK := HKL.out
      have HLK := HLL.out
      have j0 := fun W => arr_lit (T := 101) (n := 8) Tryz.underlying101 g8 0 (by decide) W 0 rfl
      have j1 := fun W => arr_lit (T := 101) (n := 8) Tryz.underlying101 g8 1 (by decide) W 1 rfl
      have j2 := fun W => arr_lit (T := 101) (n := 8) Tryz.underlying101 g8 2 (by decide) W 2 rfl
      have j4 := fun W => arr_lit (T := 101) (n := 8) Tryz.underlying101 g8 4 (by decide) W 4 rfl
      have j5 := fun W => arr_lit (T := 101) (n := 8) Tryz.underlying101 g8 5 (by decide) W 5 rfl
      have j6 := fun W => arr_lit (T := 101) (n := 8) Tryz.underlying101 g8 6 (by decide) W 6 rfl
      have j7 := fun W => arr_lit (T := 101) (n := 8) Tryz.underlying101 g8 7 (by decide) W 7 rfl
      have jk := fun W => arr_index (T := 103) (n := 64) Tryz.underlying103 (w.heap.size + 1) k (by omega) W
      have jw := fun W => arr_index (T := 103) (n := 64) Tryz.underlying103 g7 k (by omega) W
      have c0 : wr.cell? ⟨g8, 0, none⟩ = some (vw x.a) := AX.cell 0 (by decide : 0 < 8)
      have c1 : wr.cell? ⟨g8, 1, none⟩ = some (vw x.b) := AX.cell 1 (by decide : 1 < 8)
      have c2 : wr.cell? ⟨g8, 2, none⟩ = some (vw x.c) := AX.cell 2 (by decide : 2 < 8)
      have c4 : wr.cell? ⟨g8, 4, none⟩ = some (vw x.e) := AX.cell 4 (by decide : 4 < 8)
      have c5 : wr.cell? ⟨g8, 5, none⟩ = some (vw x.f) := AX.cell 5 (by decide : 5 < 8)
      have c6 : wr.cell? ⟨g8, 6, none⟩ = some (vw x.g) := AX.cell 6 (by decide : 6 < 8)
      have c7 : wr.cell? ⟨g8, 7, none⟩ = some (vw x.h) := AX.cell 7 (by decide : 7 < 8)
      have ck : wr.cell? ⟨w.heap.size + 1, k, none⟩ = some (vw (K.getD k 0)) := arr_get A5' k (by omega)
      have cw : wr.cell? ⟨g7, k, none⟩ = some (vw (L.getD k 0)) := arr_get A7' k (by omega)
      have d4 : ∀ n, ({ wr with drawn := n } : World).cell? ⟨g8, 4, none⟩ = some (vw x.e) := fun _ => c4
      have d7 : ∀ n, ({ wr with drawn := n } : World).cell? ⟨g8, 7, none⟩ = some (vw x.h) := fun _ => c7
      have dk : ∀ n, ({ wr with drawn := n } : World).cell? ⟨w.heap.size + 1, k, none⟩ = some (vw (K.getD k 0)) := fun _ => ck
      have dw : ∀ n, ({ wr with drawn := n } : World).cell? ⟨g7, k, none⟩ = some (vw (L.getD k 0)) := fun _ => cw
      obtain ⟨y, hy⟩ : ∃ y, Hid (y = x.rnd (K.getD k 0) (L.getD k 0)) := ⟨_, rfl⟩
      have HYR : Hid (y = s.rounds K L (k + 1)) := by rw [Hid, hy.out, HX.out]; rfl
      generalize K.getD k 0 = kk at ck dk hy
      generalize L.getD k 0 = ll at cw dw hy
      have wa : ∀ x y : UInt32, IntKind.u32.wrap ((x.toNat : Int) + y.toNat) = ((wAdd x y).toNat : Int) := wrap_w_add
      have bx : ∀ x y : UInt32, bits .xor .u32 (x.toNat : Int) y.toNat = ((wXor x y).toNat : Int) := bits_w_xor
      have ba : ∀ x y : UInt32, bits .and .u32 (x.toNat : Int) y.toNat = ((wAnd x y).toNat : Int) := bits_w_and
      have bo : ∀ x y : UInt32, bits .or .u32 (x.toNat : Int) y.toNat = ((wOr x y).toNat : Int) := bits_w_or
      clear HKK HLK
      go_wp2_with fail
      refine wp_region_still_lit (by kernel_rfl) (by kernel_rfl) ?_
      repeat still_step
      still_call (turned_calls _ x.e 6 11 25 (by decide) (by decide) (by decide) (by decide) (by decide) (by decide))
      repeat still_step
      refine wpStill_nil ?_
      change Exit.then _ _ _ _ wr.drew
      obtain ⟨T, hT⟩ : ∃ T, Hid (T = wAdd (wAdd (wAdd (wAdd x.h (turnedW 6 11 25 x.e)) (wXor x.g (wAnd x.e (wXor x.f x.g)))) kk) ll) := ⟨_, rfl⟩
      obtain ⟨M, hM⟩ : ∃ M, Hid (M = wOr (wAnd x.a x.b) (wAnd x.c (wOr x.a x.b))) := ⟨_, rfl⟩
      rw [← hT.out, ← hM.out]
      have AXd : Arr 101 wr.drew g8 x.l := AX
      have hsvd : Save (· ≠ g8) wx wr.drew := hsv.drew
      clear c0 c1 c2 c4 c5 c6 c7 ck cw d4 d7 dk dw AX hsv A5' A7'
      generalize wr.drew = wr at AXd hsvd ⊢
      have c0 : wr.cell? ⟨g8, 0, none⟩ = some (vw x.a) := AXd.cell 0 (by decide : 0 < 8)
      go_wp2_with fail
      refine (turned_calls _ x.a 2 13 22 (by decide) (by decide) (by decide) (by decide) (by decide) (by decide)).mono ?_
      rintro e w' ⟨rfl, rfl⟩
      go_wp2_with fail
      have l1 := state_from1 g8
      have l7 := state_upto7 g8
      go_still_tail 2, (by kernel_rfl)
      change wpList _ _ _ _ _ w'.drew
      have AXe : Arr 101 w'.drew g8 x.l := AXd
      have hsve : Save (· ≠ g8) wx w'.drew := hsvd.drew
      clear c0 AXd hsvd l1 l7
      generalize w'.drew = wr at AXe hsve ⊢
      obtain ⟨w3, hrun, A3x, hs3⟩ := state_copy wr g8 x AXe 3
      refine wpList_copy_run rfl (.tmp 67) (.tmp 68) 79 79 rfl _ _ rfl rfl hrun ?_
      have hsv3 := hsve.trans hs3
      clear hrun AXe hsve hs3
      have c4 : w3.cell? ⟨g8, 4, none⟩ = some (vw x.d) := A3x.cell 4 (by decide : 4 < 8)
      have f4 : w3.frozen? ⟨g8, 4, none⟩ = false := A3x.free 4
      have AY := (A3x.set 4 (wAdd x.d T)).set 0 (wAdd T (wAdd (turnedW 2 13 22 x.a) M))
      have c0 : (w3.setCell ⟨g8, 4, none⟩ (vw (wAdd x.d T))).cell? ⟨g8, 0, none⟩ = some (vw x.a) := (A3x.set 4 (wAdd x.d T)).cell 0 (by decide : 0 < 8)
      have f0 : (w3.setCell ⟨g8, 4, none⟩ (vw (wAdd x.d T))).frozen? ⟨g8, 0, none⟩ = false := (A3x.set 4 (wAdd x.d T)).free 0
      have HAY : Hid (Arr 101 ((w3.setCell ⟨g8, 4, none⟩ (vw (wAdd x.d T))).setCell ⟨g8, 0, none⟩ (vw (wAdd T (wAdd (turnedW 2 13 22 x.a) M)))) g8 y.l) := by
        rw [Hid, hy.out]; rw [hT.out, hM.out] at AY ⊢; exact AY
      have HSV := Lib.hid ((hsv3.trans (Save.set (b := g8) (i := 4) (v := vw (wAdd x.d T)))).trans (Save.set (b := g8) (i := 0) (v := vw (wAdd T (wAdd (turnedW 2 13 22 x.a) M)))))
      clear AY A3x hsv3
      go_wp2_with fail
      go_roundw
      case rel => exact ⟨k + 1, y, by omega, by go_num, HYR, HAY.out, HSV.out⟩
      case measure => simp [intOf]; omega
    · have hk2 : k = 64 := by omega
      have d1 : decide ((k : Int) < 64) = false := by simp; omega
      obtain ⟨z, hz⟩ : ∃ z, Hid (z = s.eat K b) := ⟨_, rfl⟩
      have HZX : Hid (x.plus s = z) := by rw [Hid, hz.out, HX.out, hk2, hL.out]; rfl
      clear HX hk2 A5' A7' A5 A7 hne HLL HKL hL hKV
      go_wp2_with fail
      go_loopw [80] (fun i wr => ∃ (k : Nat), k ≤ 8 ∧ i = .int .i64 k ∧ Arr 101 wr g8 ((x.plus s).l.take k ++ x.l.drop k) ∧ Save (· ≠ g8) wx wr) (fun i _ => 8 - (intOf i).toNat)
      case atStart => exact ⟨0, Nat.zero_le _, rfl, AX, hsv⟩
      case round =>
        clear AX hsv
        obtain ⟨k, hk, rfl, AX, hsv⟩ := hrel
        by_cases hlt : k < 8
        · have d1 : decide ((k : Int) < 8) = true := by simp; omega
          have A3' := A3.save hsv (by omega)
          have jx := fun W => arr_index (T := 101) (n := 8) Tryz.underlying101 g8 k hlt W
          have js := fun W => arr_index (T := 101) (n := 8) Tryz.underlying101 w.heap.size k hlt W
          have cx : ∀ n, ({ wr with drawn := n } : World).cell? ⟨g8, k, none⟩ = some (vw (x.l.getD k 0)) := fun _ => by
            have := arr_get AX k (by simp [S8.l]; omega)
            rw [plus_get x s k hlt] at this; exact this
          have cs : ∀ n, ({ wr with drawn := n } : World).cell? ⟨w.heap.size, k, none⟩ = some (vw (s.l.getD k 0)) := fun _ => arr_get A3' k (by simp [S8.l]; omega)
          have AN := (show Arr 101 wr.drew g8 _ from AX).set k (wAdd (x.l.getD k 0) (s.l.getD k 0))
          rw [plus_next x s k hlt] at AN
          have HSV := Lib.hid (hsv.drew.trans (Save.set (b := g8) (i := k) (v := vw (wAdd (x.l.getD k 0) (s.l.getD k 0)))))
          have fx : wr.drew.frozen? ⟨g8, k, none⟩ = false := AX.free k
          have ex : wr.drew.cell? ⟨g8, k, none⟩ = some (vw (x.l.getD k 0)) := cx _
          have HAN := Lib.hid AN
          generalize x.l.getD k 0 = p at cx ex HSV HAN
          generalize s.l.getD k 0 = q at cs HSV HAN
          have wa : ∀ x y : UInt32, IntKind.u32.wrap ((x.toNat : Int) + y.toNat) = ((wAdd x y).toNat : Int) := wrap_w_add
          clear AX hsv A3' AN
          go_wp2_with fail
          go_still_tail 8, (by kernel_rfl)
          change wpList _ _ _ _ _ wr.drew
          clear cx cs
          generalize wr.drew = wr at fx ex HSV HAN ⊢
          go_wp2_with fail
          go_roundw
          case rel => exact ⟨k + 1, by omega, by go_num, HAN.out, HSV.out⟩
          case measure => simp [intOf]; omega
        · have hk2 : k = 8 := by omega
          have d1 : decide ((k : Int) < 8) = false := by simp; omega
          obtain ⟨E, hE⟩ : ∃ E, Hid (E = (z.l.map vw).toArray) := ⟨_, rfl⟩
          have HE1 : Hid (E.size = 8) := by rw [Hid, hE.out]; simp [S8.l]
          have HEO : Hid (E.all (·.oneCell') = true) := by rw [Hid, hE.out]; exact arr_ok _
          have HA1 : Hid (wr.heap[g8]? = some (.cells E 101 (0, 0))) := by
            rw [Hid, hE.out, ← HZX.out]; rw [hk2] at AX; exact AX
          have HA6 : Hid (wr.heap[w.heap.size + 2]? = some (.cells Y 101 (0, 0))) := (hsv.block _ (Array.getElem?_eq_some_iff.1 A6).1 (by omega)).trans A6
          clear hk2 AX
          go_wp2_with (first
            | ((with_reducible refine wpList_loadB (o := ⟨some 92, .load _ _, _, _, _, _⟩) row_state (.tmp 8) (by with_unfolding_all rfl) (by with_unfolding_all rfl) (by with_unfolding_all rfl) HA1.out HE1.out ?_))
            | ((with_reducible refine wpList_storeB (o := ⟨none, .store _ (.tmp 6) (.tmp 92), _, _, _, _⟩) row_state (.tmp 6) (.tmp 92) (by with_unfolding_all rfl) (by with_unfolding_all rfl) (by with_unfolding_all rfl) (by with_unfolding_all rfl) (by with_unfolding_all rfl) HA6.out HY.out HE1.out HEO.out ?_); intro w4 hb4 hS4))
          refine bodyPost_ret (resB1 row_state rfl rfl hb4 HE1.out) rfl ⟨by rw [hE.out, hz.out], ?_⟩
          have h1 := B.size
          have h2 := hsv.size
          exact B.trans (((hsv.below (B := w.heap.size) (by omega) (fun j hj => by omega))).trans (hS4.below (by omega) (fun j hj => by omega)))
end Go.Proofs.YtofagofpeedfcaaGreat

/- sha.Eat: walked. -/
namespace Go.Proofs.YtofagofpeedfcaaGreat
open Go Go.RowKit Go.Cit

def eatbC (r : Nat) (W : World) (E Y : Array Value) (δ : Nat → Bool) (_ : Act) (wx : World) : Prop :=
  Save (· ≠ r) W wx ∧ wx.heap[r]? = some (.cells (if δ 4 then E else Y) 101 (0, 0))
def eatbT (a : Option Addr) (c : Nat) (S Kv E : Array Value) : Nat → Value → World → Prop
  | 10, v, _ => v = .agg S
  | 11, v, _ => v = .slice a 64 c
  | 12, v, _ => v = .agg Kv
  | 13, v, _ => v = .agg E
  | 5, v, _ => v = .int .i64 0
  | _, _, _ => True
theorem eatbT_any {a : Option Addr} {c : Nat} {S Kv E : Array Value} {d : Nat} {v : Value} {w w' : World} (h : eatbT a c S Kv E d v w) : eatbT a c S Kv E d v w' := by
  unfold eatbT at *
  split at h <;> simp_all
theorem eatbC_pure {r : Nat} {W : World} {E Y : Array Value} {δ : Nat → Bool} {a a' : Act} {wx w' : World} (h : eatbC r W E Y δ a wx) (hb : Below wx.heap.size wx w') {i : Nat} (hi : i ≠ 4) :
    eatbC r W E Y (upd δ i) a' w' := by
  obtain ⟨h1, h2⟩ := h
  refine ⟨h1.trans (Save.of hb), ?_⟩
  rw [upd_other δ hi, hb.block _ (Array.getElem?_eq_some_iff.1 h2).1]; exact h2

end Go.Proofs.YtofagofpeedfcaaGreat

