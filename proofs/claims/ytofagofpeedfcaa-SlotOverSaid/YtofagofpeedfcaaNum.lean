/- Machine integers of the walk, written as UInt8, UInt32, UInt64: what each operation of the walk leaves, as one such number. The operations bear names of their own, so that the walk does not open them. No condition. -/
import Derived.WalkKit
namespace Go.Cit
open Go

/-- A byte, a word of 32, of 64 bits, as the model's value. -/
@[reducible] def vb (x : UInt8) : Value := .int .u8 (x.toNat : Int)
@[reducible] def vw (x : UInt32) : Value := .int .u32 (x.toNat : Int)
@[reducible] def vq (x : UInt64) : Value := .int .u64 (x.toNat : Int)

def wXor (x y : UInt32) : UInt32 := x ^^^ y
def wAnd (x y : UInt32) : UInt32 := x &&& y
def wOr (x y : UInt32) : UInt32 := x ||| y
def wAdd (x y : UInt32) : UInt32 := x + y
def wSub (x y : UInt32) : UInt32 := x - y
def wMul (x y : UInt32) : UInt32 := x * y
def wDiv (x y : UInt32) : UInt32 := x / y
def wMod (x y : UInt32) : UInt32 := x % y
def wNot (x : UInt32) : UInt32 := ~~~ x
def wI (m : Int) : UInt32 := UInt32.ofNat m.toNat
@[reducible] def wLit (n : Nat) : UInt32 := wI (n : Int)
def wOfB (x : UInt8) : UInt32 := x.toUInt32
def wOfQ (x : UInt64) : UInt32 := x.toUInt32
def wOfI (n : Int) : UInt32 := UInt32.ofNat (n % 4294967296).toNat
def qXor (x y : UInt64) : UInt64 := x ^^^ y
def qAnd (x y : UInt64) : UInt64 := x &&& y
def qOr (x y : UInt64) : UInt64 := x ||| y
def qAdd (x y : UInt64) : UInt64 := x + y
def qSub (x y : UInt64) : UInt64 := x - y
def qMul (x y : UInt64) : UInt64 := x * y
def qDiv (x y : UInt64) : UInt64 := x / y
def qMod (x y : UInt64) : UInt64 := x % y
def qI (m : Int) : UInt64 := UInt64.ofNat m.toNat
@[reducible] def qLit (n : Nat) : UInt64 := qI (n : Int)
def qOfB (x : UInt8) : UInt64 := x.toUInt64
def qOfW (x : UInt32) : UInt64 := x.toUInt64
def qOfI (n : Int) : UInt64 := UInt64.ofNat (n % 18446744073709551616).toNat
def bXor (x y : UInt8) : UInt8 := x ^^^ y
def bAnd (x y : UInt8) : UInt8 := x &&& y
def bOr (x y : UInt8) : UInt8 := x ||| y
def bAdd (x y : UInt8) : UInt8 := x + y
def bDiv (x y : UInt8) : UInt8 := x / y
def bMod (x y : UInt8) : UInt8 := x % y
def bI (m : Int) : UInt8 := UInt8.ofNat m.toNat
@[reducible] def bLit (n : Nat) : UInt8 := bI (n : Int)
def bOfW (x : UInt32) : UInt8 := x.toUInt8
def bOfQ (x : UInt64) : UInt8 := x.toUInt8
def bOfI (n : Int) : UInt8 := UInt8.ofNat (n % 256).toNat

theorem wrap_u8_eq (n : Int) : IntKind.u8.wrap n = n % 256 := by
  simp [IntKind.wrap, IntKind.bits, IntKind.signed]
theorem wrap_u32_eq (n : Int) : IntKind.u32.wrap n = n % 4294967296 := by
  simp [IntKind.wrap, IntKind.bits, IntKind.signed]
theorem wrap_u64_eq (n : Int) : IntKind.u64.wrap n = n % 18446744073709551616 := by
  simp [IntKind.wrap, IntKind.bits, IntKind.signed]

theorem b_lt (x : UInt8) : x.toNat < 256 := x.toNat_lt
theorem w_lt (x : UInt32) : x.toNat < 4294967296 := x.toNat_lt
theorem q_lt (x : UInt64) : x.toNat < 18446744073709551616 := x.toNat_lt

section words
variable (x y : UInt32)
theorem wI_nat (m : Int) (h0 : 0 ≤ m) (h : m < 4294967296) : ((wI m).toNat : Int) = m := by unfold wI; rw [UInt32.toNat_ofNat_of_lt' (show m.toNat < 4294967296 by omega)]; omega
theorem wLit_nat (n : Nat) (h : n < 4294967296) : ((wLit n).toNat : Int) = n := wI_nat n (by omega) (by omega)
theorem wrap_w_cast : IntKind.u32.wrap (x.toNat : Int) = x.toNat := by rw [wrap_u32_eq]; have := w_lt x; omega
theorem wrap_w_add : IntKind.u32.wrap ((x.toNat : Int) + y.toNat) = ((wAdd x y).toNat : Int) := by
  rw [wrap_u32_eq, wAdd, UInt32.toNat_add]; omega
theorem wrap_w_sub : IntKind.u32.wrap ((x.toNat : Int) - y.toNat) = ((wSub x y).toNat : Int) := by
  rw [wrap_u32_eq, wSub, UInt32.toNat_sub]; have := w_lt x; have := w_lt y; omega
theorem wrap_w_mul : IntKind.u32.wrap ((x.toNat : Int) * y.toNat) = ((wMul x y).toNat : Int) := by
  rw [wrap_u32_eq, wMul, UInt32.toNat_mul, ← Int.natCast_mul]; omega
theorem bits_w_xor : bits .xor .u32 (x.toNat : Int) y.toNat = ((wXor x y).toNat : Int) := by
  rw [u32_xor_nat _ _ (w_lt x) (w_lt y), wXor, UInt32.toNat_xor]
theorem bits_w_and : bits .and .u32 (x.toNat : Int) y.toNat = ((wAnd x y).toNat : Int) := by
  rw [u32_and_nat _ _ (w_lt x) (w_lt y), wAnd, UInt32.toNat_and]
theorem bits_w_or : bits .or .u32 (x.toNat : Int) y.toNat = ((wOr x y).toNat : Int) := by
  rw [u32_or_nat _ _ (w_lt x) (w_lt y), wOr, UInt32.toNat_or]
theorem bits_w_not : bits .xor .u32 IntKind.u32.max (x.toNat : Int) = ((wNot x).toNat : Int) := by
  have e : IntKind.u32.max = ((0xffffffff : UInt32).toNat : Int) := by decide
  have h : (0xffffffff : UInt32) ^^^ x = ~~~ x := by apply UInt32.eq_of_toBitVec_eq; simp; exact BitVec.allOnes_xor
  rw [e, bits_w_xor, wXor, wNot, h]
theorem bits_w_xor_lit (m : Int) (h0 : 0 ≤ m) (h : m < 4294967296) : bits .xor .u32 (x.toNat : Int) m = ((wXor x (wI m)).toNat : Int) := by
  rw [← bits_w_xor, wI_nat m h0 h]
theorem bits_w_and_lit (m : Int) (h0 : 0 ≤ m) (h : m < 4294967296) : bits .and .u32 (x.toNat : Int) m = ((wAnd x (wI m)).toNat : Int) := by
  rw [← bits_w_and, wI_nat m h0 h]
theorem wrap_w_mul_lit (m : Int) (h0 : 0 ≤ m) (h : m < 4294967296) : IntKind.u32.wrap (m * (x.toNat : Int)) = ((wMul (wI m) x).toNat : Int) := by
  rw [← wrap_w_mul, wI_nat m h0 h]
theorem w_tdiv_lit (m : Int) (h0 : 0 ≤ m) (h : m < 4294967296) : IntKind.u32.wrap ((x.toNat : Int).tdiv m) = ((wDiv x (wI m)).toNat : Int) := by
  rw [wDiv, UInt32.toNat_div, Int.natCast_ediv, wI_nat m h0 h, Int.tdiv_eq_ediv_of_nonneg (by omega), wrap_u32_eq]
  have h1 := w_lt x
  have h2 : (x.toNat : Int) / m ≤ x.toNat := Int.ediv_le_self _ (by omega)
  have h3 : 0 ≤ (x.toNat : Int) / m := Int.ediv_nonneg (by omega) (by omega)
  exact Int.emod_eq_of_lt h3 (Int.lt_of_le_of_lt h2 (by omega))
theorem w_ediv_lit (m : Int) (h0 : 0 ≤ m) (h : m < 4294967296) : ((x.toNat : Int) / m) = ((wDiv x (wI m)).toNat : Int) := by
  rw [wDiv, UInt32.toNat_div, Int.natCast_ediv, wI_nat m h0 h]
theorem w_tmod_lit (m : Int) (h0 : 0 ≤ m) (h : m < 4294967296) : ((x.toNat : Int).tmod m) = ((wMod x (wI m)).toNat : Int) := by
  rw [wMod, UInt32.toNat_mod, Int.natCast_emod, wI_nat m h0 h, Int.tmod_eq_emod_of_nonneg (by omega)]
theorem eq_w : ((x.toNat : Int) == (y.toNat : Int)) = (x == y) := by
  rw [Bool.eq_iff_iff]; simp only [beq_iff_eq]
  constructor
  · intro h; exact UInt32.toNat_inj.1 (by omega)
  · rintro rfl; rfl
theorem eq_w_lit (m : Int) (h0 : 0 ≤ m) (h : m < 4294967296) : ((x.toNat : Int) == m) = (x == wI m) := by
  rw [← eq_w, wI_nat m h0 h]
theorem wrap_b_w (x : UInt8) : IntKind.u32.wrap (x.toNat : Int) = ((wOfB x).toNat : Int) := by
  rw [wrap_u32_eq, wOfB, UInt8.toNat_toUInt32]; have := b_lt x; omega
theorem wrap_q_w (x : UInt64) : IntKind.u32.wrap (x.toNat : Int) = ((wOfQ x).toNat : Int) := by
  rw [wrap_u32_eq, wOfQ, UInt64.toNat_toUInt32]; omega
theorem wOfI_nat (n : Int) : ((wOfI n).toNat : Int) = n % 4294967296 := by
  unfold wOfI; rw [UInt32.toNat_ofNat_of_lt' (by show _ < 4294967296; omega)]; omega
end words

section quads
variable (x y : UInt64)
theorem qI_nat (m : Int) (h0 : 0 ≤ m) (h : m < 18446744073709551616) : ((qI m).toNat : Int) = m := by unfold qI; rw [UInt64.toNat_ofNat_of_lt' (show m.toNat < 18446744073709551616 by omega)]; omega
theorem qLit_nat (n : Nat) (h : n < 18446744073709551616) : ((qLit n).toNat : Int) = n := qI_nat n (by omega) (by omega)
theorem wrap_q_cast : IntKind.u64.wrap (x.toNat : Int) = x.toNat := by rw [wrap_u64_eq]; have := q_lt x; omega
theorem wrap_q_add : IntKind.u64.wrap ((x.toNat : Int) + y.toNat) = ((qAdd x y).toNat : Int) := by
  rw [wrap_u64_eq, qAdd, UInt64.toNat_add]; omega
theorem wrap_q_sub : IntKind.u64.wrap ((x.toNat : Int) - y.toNat) = ((qSub x y).toNat : Int) := by
  rw [wrap_u64_eq, qSub, UInt64.toNat_sub]; have := q_lt x; have := q_lt y; omega
theorem wrap_q_mul : IntKind.u64.wrap ((x.toNat : Int) * y.toNat) = ((qMul x y).toNat : Int) := by
  rw [wrap_u64_eq, qMul, UInt64.toNat_mul, ← Int.natCast_mul]; omega
theorem wrap_q_mul_lit (m : Int) (h0 : 0 ≤ m) (h : m < 18446744073709551616) : IntKind.u64.wrap ((x.toNat : Int) * m) = ((qMul x (qI m)).toNat : Int) := by
  rw [← wrap_q_mul, qI_nat m h0 h]
theorem wrap_q_lit_mul (m : Int) (h0 : 0 ≤ m) (h : m < 18446744073709551616) : IntKind.u64.wrap (m * (x.toNat : Int)) = ((qMul (qI m) x).toNat : Int) := by
  rw [← wrap_q_mul, qI_nat m h0 h]
theorem q_tdiv_lit (m : Int) (h0 : 0 ≤ m) (h : m < 18446744073709551616) : IntKind.u64.wrap ((x.toNat : Int).tdiv m) = ((qDiv x (qI m)).toNat : Int) := by
  rw [qDiv, UInt64.toNat_div, Int.natCast_ediv, qI_nat m h0 h, Int.tdiv_eq_ediv_of_nonneg (by omega), wrap_u64_eq]
  have h1 := q_lt x
  have h2 : (x.toNat : Int) / m ≤ x.toNat := Int.ediv_le_self _ (by omega)
  have h3 : 0 ≤ (x.toNat : Int) / m := Int.ediv_nonneg (by omega) (by omega)
  exact Int.emod_eq_of_lt h3 (Int.lt_of_le_of_lt h2 (by omega))
theorem q_ediv_lit (m : Int) (h0 : 0 ≤ m) (h : m < 18446744073709551616) : ((x.toNat : Int) / m) = ((qDiv x (qI m)).toNat : Int) := by
  rw [qDiv, UInt64.toNat_div, Int.natCast_ediv, qI_nat m h0 h]
theorem q_tmod_lit (m : Int) (h0 : 0 ≤ m) (h : m < 18446744073709551616) : ((x.toNat : Int).tmod m) = ((qMod x (qI m)).toNat : Int) := by
  rw [qMod, UInt64.toNat_mod, Int.natCast_emod, qI_nat m h0 h, Int.tmod_eq_emod_of_nonneg (by omega)]
theorem eq_q : ((x.toNat : Int) == (y.toNat : Int)) = (x == y) := by
  rw [Bool.eq_iff_iff]; simp only [beq_iff_eq]
  constructor
  · intro h; exact UInt64.toNat_inj.1 (by omega)
  · rintro rfl; rfl
theorem wrap_b_q (x : UInt8) : IntKind.u64.wrap (x.toNat : Int) = ((qOfB x).toNat : Int) := by
  rw [wrap_u64_eq, qOfB, UInt8.toNat_toUInt64]; have := b_lt x; omega
theorem wrap_w_q (x : UInt32) : IntKind.u64.wrap (x.toNat : Int) = ((qOfW x).toNat : Int) := by
  rw [wrap_u64_eq, qOfW, UInt32.toNat_toUInt64]; have := w_lt x; omega
theorem qOfI_nat (n : Int) : ((qOfI n).toNat : Int) = n % 18446744073709551616 := by
  unfold qOfI; rw [UInt64.toNat_ofNat_of_lt' (by show _ < 18446744073709551616; omega)]; omega
end quads

section bytes
variable (x y : UInt8)
theorem bI_nat (m : Int) (h0 : 0 ≤ m) (h : m < 256) : ((bI m).toNat : Int) = m := by unfold bI; rw [UInt8.toNat_ofNat_of_lt' (show m.toNat < 256 by omega)]; omega
theorem bLit_nat (n : Nat) (h : n < 256) : ((bLit n).toNat : Int) = n := bI_nat n (by omega) (by omega)
theorem wrap_b_cast : IntKind.u8.wrap (x.toNat : Int) = x.toNat := by rw [wrap_u8_eq]; have := b_lt x; omega
theorem wrap_b_add : IntKind.u8.wrap ((x.toNat : Int) + y.toNat) = ((bAdd x y).toNat : Int) := by
  rw [wrap_u8_eq, bAdd, UInt8.toNat_add]; omega
theorem wrap_b_add_lit (m : Int) (h0 : 0 ≤ m) (h : m < 256) : IntKind.u8.wrap ((x.toNat : Int) + m) = ((bAdd x (bI m)).toNat : Int) := by
  rw [← wrap_b_add, bI_nat m h0 h]
theorem bits_b_xor : bits .xor .u8 (x.toNat : Int) y.toNat = ((bXor x y).toNat : Int) := by
  rw [u8_xor_nat _ _ (b_lt x) (b_lt y), bXor, UInt8.toNat_xor]
theorem bits_b_or : bits .or .u8 (x.toNat : Int) y.toNat = ((bOr x y).toNat : Int) := by
  rw [u8_or_nat _ _ (b_lt x) (b_lt y), bOr, UInt8.toNat_or]
theorem bits_b_and_lit (m : Int) (h0 : 0 ≤ m) (h : m < 256) : bits .and .u8 (x.toNat : Int) m = ((bAnd x (bI m)).toNat : Int) := by
  rw [show bits .and .u8 (x.toNat : Int) m = bits .and .u8 (x.toNat : Int) ((bI m).toNat : Int) by rw [bI_nat m h0 h], u8_and_nat _ _ (b_lt x) (b_lt _), bAnd, UInt8.toNat_and]
theorem b_ediv_lit (m : Int) (h0 : 0 ≤ m) (h : m < 256) : ((x.toNat : Int) / m) = ((bDiv x (bI m)).toNat : Int) := by
  rw [bDiv, UInt8.toNat_div, Int.natCast_ediv, bI_nat m h0 h]
theorem b_tmod_lit (m : Int) (h0 : 0 ≤ m) (h : m < 256) : ((x.toNat : Int).tmod m) = ((bMod x (bI m)).toNat : Int) := by
  rw [bMod, UInt8.toNat_mod, Int.natCast_emod, bI_nat m h0 h, Int.tmod_eq_emod_of_nonneg (by omega)]
theorem eq_b : ((x.toNat : Int) == (y.toNat : Int)) = (x == y) := by
  rw [Bool.eq_iff_iff]; simp only [beq_iff_eq]
  constructor
  · intro h; exact UInt8.toNat_inj.1 (by omega)
  · rintro rfl; rfl
theorem ne_b : ((x.toNat : Int) != (y.toNat : Int)) = (x != y) := by
  unfold bne; rw [eq_b]
theorem eq_b_lit (m : Int) (h0 : 0 ≤ m) (h : m < 256) : ((x.toNat : Int) == m) = (x == bI m) := by
  rw [← eq_b, bI_nat m h0 h]
theorem wrap_q_b (x : UInt64) : IntKind.u8.wrap (x.toNat : Int) = ((bOfQ x).toNat : Int) := by
  rw [wrap_u8_eq, bOfQ, UInt64.toNat_toUInt8]; omega
theorem wrap_w_b (x : UInt32) : IntKind.u8.wrap (x.toNat : Int) = ((bOfW x).toNat : Int) := by
  rw [wrap_u8_eq, bOfW, UInt32.toNat_toUInt8]; omega
theorem bOfI_nat (n : Int) : ((bOfI n).toNat : Int) = n % 256 := by
  unfold bOfI; rw [UInt8.toNat_ofNat_of_lt' (by show _ < 256; omega)]; omega
end bytes

attribute [go_sem] bits_w_not wrap_w_cast wrap_w_add wrap_w_sub wrap_w_mul bits_w_xor bits_w_and bits_w_or eq_w wrap_b_w wrap_q_w wrap_q_cast wrap_q_add wrap_q_sub wrap_q_mul eq_q wrap_b_q wrap_w_q wrap_b_cast wrap_b_add bits_b_xor bits_b_or eq_b ne_b wrap_q_b wrap_w_b
attribute [go_sem low] bits_w_xor_lit bits_w_and_lit wrap_w_mul_lit w_tdiv_lit w_ediv_lit w_tmod_lit eq_w_lit wrap_q_mul_lit wrap_q_lit_mul q_tdiv_lit q_ediv_lit q_tmod_lit wrap_b_add_lit bits_b_and_lit b_ediv_lit b_tmod_lit eq_b_lit
end Go.Cit
