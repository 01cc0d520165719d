/- Texts of the proof, one behind the other: Num, Row, Own, Bridge, Typed, RefOrder. No condition but those that each names. -/
import Derived.WalkKit
import Derived.Lib.Hide
import Derived.BigQuiet
import Derived.Deep.QuietTactic
import Derived.Deep.DeepMust
import Derived.Deep.DeepFit
import Derived.Deep.RegionLaw
import Derived.BigRegion
import Derived.Laws.AppendOwnNone
import Derived.OpenShut
import Derived.Orders
import Derived.Test.YtofagofpeedfcaaGreatProg
/- Machine integers of the walk, written as UInt8, UInt32, UInt64: what each operation of the walk leaves, as one such number. The operations bear names of their own, so that the walk does not open them. No condition. -/
namespace Go.Cit
open Go

/-- A byte, a word of 32, of 64 bits, as the model's value. -/
@[reducible] def vb (x : UInt8) : Value := .int .u8 (x.toNat : Int)
@[reducible] def vw (x : UInt32) : Value := .int .u32 (x.toNat : Int)
@[reducible] def vq (x : UInt64) : Value := .int .u64 (x.toNat : Int)

def wXor (x y : UInt32) : UInt32 := x ^^^ y
def wAnd (x y : UInt32) : UInt32 := x &&& y
def wOr (x y : UInt32) : UInt32 := x ||| y
def wAdd (x y : UInt32) : UInt32 := x + y
def wSub (x y : UInt32) : UInt32 := x - y
def wMul (x y : UInt32) : UInt32 := x * y
def wDiv (x y : UInt32) : UInt32 := x / y
def wMod (x y : UInt32) : UInt32 := x % y
def wNot (x : UInt32) : UInt32 := ~~~ x
def wI (m : Int) : UInt32 := UInt32.ofNat m.toNat
@[reducible] def wLit (n : Nat) : UInt32 := wI (n : Int)
def wOfB (x : UInt8) : UInt32 := x.toUInt32
def wOfQ (x : UInt64) : UInt32 := x.toUInt32
def wOfI (n : Int) : UInt32 := UInt32.ofNat (n % 4294967296).toNat
def qXor (x y : UInt64) : UInt64 := x ^^^ y
def qAnd (x y : UInt64) : UInt64 := x &&& y
def qOr (x y : UInt64) : UInt64 := x ||| y
def qAdd (x y : UInt64) : UInt64 := x + y
def qSub (x y : UInt64) : UInt64 := x - y
def qMul (x y : UInt64) : UInt64 := x * y
def qDiv (x y : UInt64) : UInt64 := x / y
def qMod (x y : UInt64) : UInt64 := x % y
def qI (m : Int) : UInt64 := UInt64.ofNat m.toNat
@[reducible] def qLit (n : Nat) : UInt64 := qI (n : Int)
def qOfB (x : UInt8) : UInt64 := x.toUInt64
def qOfW (x : UInt32) : UInt64 := x.toUInt64
def qOfI (n : Int) : UInt64 := UInt64.ofNat (n % 18446744073709551616).toNat
def bXor (x y : UInt8) : UInt8 := x ^^^ y
def bAnd (x y : UInt8) : UInt8 := x &&& y
def bOr (x y : UInt8) : UInt8 := x ||| y
def bAdd (x y : UInt8) : UInt8 := x + y
def bDiv (x y : UInt8) : UInt8 := x / y
def bMod (x y : UInt8) : UInt8 := x % y
def bI (m : Int) : UInt8 := UInt8.ofNat m.toNat
@[reducible] def bLit (n : Nat) : UInt8 := bI (n : Int)
def bOfW (x : UInt32) : UInt8 := x.toUInt8
def bOfQ (x : UInt64) : UInt8 := x.toUInt8
def bOfI (n : Int) : UInt8 := UInt8.ofNat (n % 256).toNat

theorem wrap_u8_eq (n : Int) : IntKind.u8.wrap n = n % 256 := by
  simp [IntKind.wrap, IntKind.bits, IntKind.signed]
theorem wrap_u32_eq (n : Int) : IntKind.u32.wrap n = n % 4294967296 := by
  simp [IntKind.wrap, IntKind.bits, IntKind.signed]
theorem wrap_u64_eq (n : Int) : IntKind.u64.wrap n = n % 18446744073709551616 := by
  simp [IntKind.wrap, IntKind.bits, IntKind.signed]

theorem b_lt (x : UInt8) : x.toNat < 256 := x.toNat_lt
theorem w_lt (x : UInt32) : x.toNat < 4294967296 := x.toNat_lt
theorem q_lt (x : UInt64) : x.toNat < 18446744073709551616 := x.toNat_lt

section words
variable (x y : UInt32)
theorem wI_nat (m : Int) (h0 : 0 ≤ m) (h : m < 4294967296) : ((wI m).toNat : Int) = m := by unfold wI; rw [UInt32.toNat_ofNat_of_lt' (show m.toNat < 4294967296 by omega)]; omega
theorem wLit_nat (n : Nat) (h : n < 4294967296) : ((wLit n).toNat : Int) = n := wI_nat n (by omega) (by omega)
theorem wrap_w_cast : IntKind.u32.wrap (x.toNat : Int) = x.toNat := by rw [wrap_u32_eq]; have := w_lt x; omega
theorem wrap_w_add : IntKind.u32.wrap ((x.toNat : Int) + y.toNat) = ((wAdd x y).toNat : Int) := by
  rw [wrap_u32_eq, wAdd, UInt32.toNat_add]; omega
theorem wrap_w_sub : IntKind.u32.wrap ((x.toNat : Int) - y.toNat) = ((wSub x y).toNat : Int) := by
  rw [wrap_u32_eq, wSub, UInt32.toNat_sub]; have := w_lt x; have := w_lt y; omega
theorem wrap_w_mul : IntKind.u32.wrap ((x.toNat : Int) * y.toNat) = ((wMul x y).toNat : Int) := by
  rw [wrap_u32_eq, wMul, UInt32.toNat_mul, ← Int.natCast_mul]; omega
theorem bits_w_xor : bits .xor .u32 (x.toNat : Int) y.toNat = ((wXor x y).toNat : Int) := by
  rw [u32_xor_nat _ _ (w_lt x) (w_lt y), wXor, UInt32.toNat_xor]
theorem bits_w_and : bits .and .u32 (x.toNat : Int) y.toNat = ((wAnd x y).toNat : Int) := by
  rw [u32_and_nat _ _ (w_lt x) (w_lt y), wAnd, UInt32.toNat_and]
theorem bits_w_or : bits .or .u32 (x.toNat : Int) y.toNat = ((wOr x y).toNat : Int) := by
  rw [u32_or_nat _ _ (w_lt x) (w_lt y), wOr, UInt32.toNat_or]
theorem bits_w_not : bits .xor .u32 IntKind.u32.max (x.toNat : Int) = ((wNot x).toNat : Int) := by
  have e : IntKind.u32.max = ((0xffffffff : UInt32).toNat : Int) := by decide
  have h : (0xffffffff : UInt32) ^^^ x = ~~~ x := by apply UInt32.eq_of_toBitVec_eq; simp; exact BitVec.allOnes_xor
  rw [e, bits_w_xor, wXor, wNot, h]
theorem bits_w_xor_lit (m : Int) (h0 : 0 ≤ m) (h : m < 4294967296) : bits .xor .u32 (x.toNat : Int) m = ((wXor x (wI m)).toNat : Int) := by
  rw [← bits_w_xor, wI_nat m h0 h]
theorem bits_w_and_lit (m : Int) (h0 : 0 ≤ m) (h : m < 4294967296) : bits .and .u32 (x.toNat : Int) m = ((wAnd x (wI m)).toNat : Int) := by
  rw [← bits_w_and, wI_nat m h0 h]
theorem wrap_w_mul_lit (m : Int) (h0 : 0 ≤ m) (h : m < 4294967296) : IntKind.u32.wrap (m * (x.toNat : Int)) = ((wMul (wI m) x).toNat : Int) := by
  rw [← wrap_w_mul, wI_nat m h0 h]
theorem w_tdiv_lit (m : Int) (h0 : 0 ≤ m) (h : m < 4294967296) : IntKind.u32.wrap ((x.toNat : Int).tdiv m) = ((wDiv x (wI m)).toNat : Int) := by
  rw [wDiv, UInt32.toNat_div, Int.natCast_ediv, wI_nat m h0 h, Int.tdiv_eq_ediv_of_nonneg (by omega), wrap_u32_eq]
  have h1 := w_lt x
  have h2 : (x.toNat : Int) / m ≤ x.toNat := Int.ediv_le_self _ (by omega)
  have h3 : 0 ≤ (x.toNat : Int) / m := Int.ediv_nonneg (by omega) (by omega)
  exact Int.emod_eq_of_lt h3 (Int.lt_of_le_of_lt h2 (by omega))
theorem w_ediv_lit (m : Int) (h0 : 0 ≤ m) (h : m < 4294967296) : ((x.toNat : Int) / m) = ((wDiv x (wI m)).toNat : Int) := by
  rw [wDiv, UInt32.toNat_div, Int.natCast_ediv, wI_nat m h0 h]
theorem w_tmod_lit (m : Int) (h0 : 0 ≤ m) (h : m < 4294967296) : ((x.toNat : Int).tmod m) = ((wMod x (wI m)).toNat : Int) := by
  rw [wMod, UInt32.toNat_mod, Int.natCast_emod, wI_nat m h0 h, Int.tmod_eq_emod_of_nonneg (by omega)]
theorem eq_w : ((x.toNat : Int) == (y.toNat : Int)) = (x == y) := by
  rw [Bool.eq_iff_iff]; simp only [beq_iff_eq]
  constructor
  · intro h; exact UInt32.toNat_inj.1 (by omega)
  · rintro rfl; rfl
theorem eq_w_lit (m : Int) (h0 : 0 ≤ m) (h : m < 4294967296) : ((x.toNat : Int) == m) = (x == wI m) := by
  rw [← eq_w, wI_nat m h0 h]
theorem wrap_b_w (x : UInt8) : IntKind.u32.wrap (x.toNat : Int) = ((wOfB x).toNat : Int) := by
  rw [wrap_u32_eq, wOfB, UInt8.toNat_toUInt32]; have := b_lt x; omega
theorem wrap_q_w (x : UInt64) : IntKind.u32.wrap (x.toNat : Int) = ((wOfQ x).toNat : Int) := by
  rw [wrap_u32_eq, wOfQ, UInt64.toNat_toUInt32]; omega
theorem wOfI_nat (n : Int) : ((wOfI n).toNat : Int) = n % 4294967296 := by
  unfold wOfI; rw [UInt32.toNat_ofNat_of_lt' (by show _ < 4294967296; omega)]; omega
end words

section quads
variable (x y : UInt64)
theorem qI_nat (m : Int) (h0 : 0 ≤ m) (h : m < 18446744073709551616) : ((qI m).toNat : Int) = m := by unfold qI; rw [UInt64.toNat_ofNat_of_lt' (show m.toNat < 18446744073709551616 by omega)]; omega
theorem qLit_nat (n : Nat) (h : n < 18446744073709551616) : ((qLit n).toNat : Int) = n := qI_nat n (by omega) (by omega)
theorem wrap_q_cast : IntKind.u64.wrap (x.toNat : Int) = x.toNat := by rw [wrap_u64_eq]; have := q_lt x; omega
theorem wrap_q_add : IntKind.u64.wrap ((x.toNat : Int) + y.toNat) = ((qAdd x y).toNat : Int) := by
  rw [wrap_u64_eq, qAdd, UInt64.toNat_add]; omega
theorem wrap_q_sub : IntKind.u64.wrap ((x.toNat : Int) - y.toNat) = ((qSub x y).toNat : Int) := by
  rw [wrap_u64_eq, qSub, UInt64.toNat_sub]; have := q_lt x; have := q_lt y; omega
theorem wrap_q_mul : IntKind.u64.wrap ((x.toNat : Int) * y.toNat) = ((qMul x y).toNat : Int) := by
  rw [wrap_u64_eq, qMul, UInt64.toNat_mul, ← Int.natCast_mul]; omega
theorem wrap_q_mul_lit (m : Int) (h0 : 0 ≤ m) (h : m < 18446744073709551616) : IntKind.u64.wrap ((x.toNat : Int) * m) = ((qMul x (qI m)).toNat : Int) := by
  rw [← wrap_q_mul, qI_nat m h0 h]
theorem wrap_q_lit_mul (m : Int) (h0 : 0 ≤ m) (h : m < 18446744073709551616) : IntKind.u64.wrap (m * (x.toNat : Int)) = ((qMul (qI m) x).toNat : Int) := by
  rw [← wrap_q_mul, qI_nat m h0 h]
theorem q_tdiv_lit (m : Int) (h0 : 0 ≤ m) (h : m < 18446744073709551616) : IntKind.u64.wrap ((x.toNat : Int).tdiv m) = ((qDiv x (qI m)).toNat : Int) := by
  rw [qDiv, UInt64.toNat_div, Int.natCast_ediv, qI_nat m h0 h, Int.tdiv_eq_ediv_of_nonneg (by omega), wrap_u64_eq]
  have h1 := q_lt x
  have h2 : (x.toNat : Int) / m ≤ x.toNat := Int.ediv_le_self _ (by omega)
  have h3 : 0 ≤ (x.toNat : Int) / m := Int.ediv_nonneg (by omega) (by omega)
  exact Int.emod_eq_of_lt h3 (Int.lt_of_le_of_lt h2 (by omega))
theorem q_ediv_lit (m : Int) (h0 : 0 ≤ m) (h : m < 18446744073709551616) : ((x.toNat : Int) / m) = ((qDiv x (qI m)).toNat : Int) := by
  rw [qDiv, UInt64.toNat_div, Int.natCast_ediv, qI_nat m h0 h]
theorem q_tmod_lit (m : Int) (h0 : 0 ≤ m) (h : m < 18446744073709551616) : ((x.toNat : Int).tmod m) = ((qMod x (qI m)).toNat : Int) := by
  rw [qMod, UInt64.toNat_mod, Int.natCast_emod, qI_nat m h0 h, Int.tmod_eq_emod_of_nonneg (by omega)]
theorem eq_q : ((x.toNat : Int) == (y.toNat : Int)) = (x == y) := by
  rw [Bool.eq_iff_iff]; simp only [beq_iff_eq]
  constructor
  · intro h; exact UInt64.toNat_inj.1 (by omega)
  · rintro rfl; rfl
theorem wrap_b_q (x : UInt8) : IntKind.u64.wrap (x.toNat : Int) = ((qOfB x).toNat : Int) := by
  rw [wrap_u64_eq, qOfB, UInt8.toNat_toUInt64]; have := b_lt x; omega
theorem wrap_w_q (x : UInt32) : IntKind.u64.wrap (x.toNat : Int) = ((qOfW x).toNat : Int) := by
  rw [wrap_u64_eq, qOfW, UInt32.toNat_toUInt64]; have := w_lt x; omega
theorem qOfI_nat (n : Int) : ((qOfI n).toNat : Int) = n % 18446744073709551616 := by
  unfold qOfI; rw [UInt64.toNat_ofNat_of_lt' (by show _ < 18446744073709551616; omega)]; omega
end quads

section bytes
variable (x y : UInt8)
theorem bI_nat (m : Int) (h0 : 0 ≤ m) (h : m < 256) : ((bI m).toNat : Int) = m := by unfold bI; rw [UInt8.toNat_ofNat_of_lt' (show m.toNat < 256 by omega)]; omega
theorem bLit_nat (n : Nat) (h : n < 256) : ((bLit n).toNat : Int) = n := bI_nat n (by omega) (by omega)
theorem wrap_b_cast : IntKind.u8.wrap (x.toNat : Int) = x.toNat := by rw [wrap_u8_eq]; have := b_lt x; omega
theorem wrap_b_add : IntKind.u8.wrap ((x.toNat : Int) + y.toNat) = ((bAdd x y).toNat : Int) := by
  rw [wrap_u8_eq, bAdd, UInt8.toNat_add]; omega
theorem wrap_b_add_lit (m : Int) (h0 : 0 ≤ m) (h : m < 256) : IntKind.u8.wrap ((x.toNat : Int) + m) = ((bAdd x (bI m)).toNat : Int) := by
  rw [← wrap_b_add, bI_nat m h0 h]
theorem bits_b_xor : bits .xor .u8 (x.toNat : Int) y.toNat = ((bXor x y).toNat : Int) := by
  rw [u8_xor_nat _ _ (b_lt x) (b_lt y), bXor, UInt8.toNat_xor]
theorem bits_b_or : bits .or .u8 (x.toNat : Int) y.toNat = ((bOr x y).toNat : Int) := by
  rw [u8_or_nat _ _ (b_lt x) (b_lt y), bOr, UInt8.toNat_or]
theorem bits_b_and_lit (m : Int) (h0 : 0 ≤ m) (h : m < 256) : bits .and .u8 (x.toNat : Int) m = ((bAnd x (bI m)).toNat : Int) := by
  rw [show bits .and .u8 (x.toNat : Int) m = bits .and .u8 (x.toNat : Int) ((bI m).toNat : Int) by rw [bI_nat m h0 h], u8_and_nat _ _ (b_lt x) (b_lt _), bAnd, UInt8.toNat_and]
theorem b_ediv_lit (m : Int) (h0 : 0 ≤ m) (h : m < 256) : ((x.toNat : Int) / m) = ((bDiv x (bI m)).toNat : Int) := by
  rw [bDiv, UInt8.toNat_div, Int.natCast_ediv, bI_nat m h0 h]
theorem b_tmod_lit (m : Int) (h0 : 0 ≤ m) (h : m < 256) : ((x.toNat : Int).tmod m) = ((bMod x (bI m)).toNat : Int) := by
  rw [bMod, UInt8.toNat_mod, Int.natCast_emod, bI_nat m h0 h, Int.tmod_eq_emod_of_nonneg (by omega)]
theorem eq_b : ((x.toNat : Int) == (y.toNat : Int)) = (x == y) := by
  rw [Bool.eq_iff_iff]; simp only [beq_iff_eq]
  constructor
  · intro h; exact UInt8.toNat_inj.1 (by omega)
  · rintro rfl; rfl
theorem ne_b : ((x.toNat : Int) != (y.toNat : Int)) = (x != y) := by
  unfold bne; rw [eq_b]
theorem eq_b_lit (m : Int) (h0 : 0 ≤ m) (h : m < 256) : ((x.toNat : Int) == m) = (x == bI m) := by
  rw [← eq_b, bI_nat m h0 h]
theorem wrap_q_b (x : UInt64) : IntKind.u8.wrap (x.toNat : Int) = ((bOfQ x).toNat : Int) := by
  rw [wrap_u8_eq, bOfQ, UInt64.toNat_toUInt8]; omega
theorem wrap_w_b (x : UInt32) : IntKind.u8.wrap (x.toNat : Int) = ((bOfW x).toNat : Int) := by
  rw [wrap_u8_eq, bOfW, UInt32.toNat_toUInt8]; omega
theorem bOfI_nat (n : Int) : ((bOfI n).toNat : Int) = n % 256 := by
  unfold bOfI; rw [UInt8.toNat_ofNat_of_lt' (by show _ < 256; omega)]; omega
end bytes

attribute [go_sem] bits_w_not wrap_w_cast wrap_w_add wrap_w_sub wrap_w_mul bits_w_xor bits_w_and bits_w_or eq_w wrap_b_w wrap_q_w wrap_q_cast wrap_q_add wrap_q_sub wrap_q_mul eq_q wrap_b_q wrap_w_q wrap_b_cast wrap_b_add bits_b_xor bits_b_or eq_b ne_b wrap_q_b wrap_w_b
attribute [go_sem low] bits_w_xor_lit bits_w_and_lit wrap_w_mul_lit w_tdiv_lit w_ediv_lit w_tmod_lit eq_w_lit wrap_q_mul_lit wrap_q_lit_mul q_tdiv_lit q_ediv_lit q_tmod_lit wrap_b_add_lit bits_b_and_lit b_ediv_lit b_tmod_lit eq_b_lit
end Go.Cit

/- Slices of bytes that are read: what the walk needs of them. No condition. -/
namespace Go.Cit
open Go Go.RowKit

/-- The place of element i of a slice that begins at a. -/
def ad (a : Option Addr) (i : Nat) : Addr := match a with | some x => ⟨x.block, x.off + i, none⟩ | none => ⟨0, i, none⟩

/-- The slice (a, l.length, cap) reads as l in w. -/
structure Row (w : World) (a : Option Addr) (l : List UInt8) (cap : Nat) : Prop where
  le : l.length ≤ cap
  top : cap ≤ maxLen
  nil : a = none → cap = 0
  spot : l ≠ [] → ∃ b off, a = some ⟨b, off, none⟩
  cell : ∀ i (h : i < l.length), w.cell? (ad a i) = some (vb l[i])

theorem Row.nil_ (w : World) : Row w none [] 0 := ⟨Nat.le_refl _, Nat.zero_le _, fun _ => rfl, fun h => (h rfl).elim, fun i h => by simp at h⟩

theorem Row.len_le {w a l cap} (h : Row w a l cap) : l.length ≤ 9223372036854775807 := by
  have h1 := h.le; have h2 := h.top; unfold maxLen at h2; omega

theorem Row.blk {w a l cap} (h : Row w a l cap) {i : Nat} (hi : i < l.length) : (ad a i).block < w.heap.size :=
  World.block_lt_of_cell? w _ (h.cell i hi)

/-- A row stays, where what lies below its block's end stays. -/
theorem Row.stay {w w' : World} {a l cap} (h : Row w a l cap) (hb : Below w.heap.size w w') : Row w' a l cap :=
  ⟨h.le, h.top, h.nil, h.spot, fun i hi => (hb.cell (h.blk hi)).trans (h.cell i hi)⟩

theorem Row.drew {w : World} {a l cap} (h : Row w a l cap) : Row w.drew a l cap :=
  ⟨h.le, h.top, h.nil, h.spot, fun i hi => h.cell i hi⟩
theorem Row.drewN {w : World} {a l cap} (h : Row w a l cap) (n : Nat) : Row (w.drewN n) a l cap :=
  ⟨h.le, h.top, h.nil, h.spot, fun i hi => h.cell i hi⟩

theorem ret_int {k : IntKind} {a b : Int} (h : a = b) : Ending.returned (.int k a) = .returned (.int k b) := by rw [h]
theorem ret_bool {a b : Bool} (h : a = b) : Ending.returned (.bool a) = .returned (.bool b) := by rw [h]

/-- Some draws alone lie between. -/
def Drew (w w' : World) : Prop := ∃ n, w' = w.drewN n
theorem Drew.refl (w : World) : Drew w w := ⟨0, rfl⟩
theorem Drew.more {w w1 : World} (h : Drew w w1) (n : Nat) : Drew w (w1.drewN n) := by obtain ⟨m, rfl⟩ := h; exact ⟨m + n, by rw [World.drewN_drewN]⟩
theorem Drew.trans {w w1 w2 : World} (h : Drew w w1) (k : Drew w1 w2) : Drew w w2 := by obtain ⟨m, rfl⟩ := k; exact h.more m
theorem Drew.below {w w1 : World} (h : Drew w w1) (B : Nat) : Below B w w1 := by obtain ⟨m, rfl⟩ := h; exact ⟨rfl, rfl, rfl, Nat.le_refl _, fun _ _ => rfl⟩
theorem Drew.row {w w1 : World} (h : Drew w w1) {a l cap} (r : Row w a l cap) : Row w1 a l cap := by obtain ⟨m, rfl⟩ := h; exact r.drewN m

theorem below_drewN (B : Nat) (w : World) (n : Nat) : Below B w (w.drewN n) := ⟨rfl, rfl, rfl, Nat.le_refl _, fun _ _ => rfl⟩

/-! A slice of a row. -/
theorem Row.sub {w a l cap} (h : Row w a l cap) (lo hi mx : Nat) (h1 : lo ≤ hi) (h2 : hi ≤ l.length) (h3 : hi ≤ mx) (h4 : mx ≤ cap) : Row w (if mx = lo then a else a.map (·.add (lo * 1))) ((l.take hi).drop lo) (mx - lo) := by
  have hlen : ((l.take hi).drop lo).length = hi - lo := by rw [List.length_drop, List.length_take]; omega
  have htop := h.top
  refine ⟨by omega, by omega, fun hn => ?_, fun hne => ?_, fun i hi' => ?_⟩
  · have hn' : a = none := by
      split at hn
      · exact hn
      · simpa using hn
    have := h.nil hn'
    omega
  · have hlt : lo < hi := by
      rcases Nat.lt_or_ge lo hi with h | h
      · exact h
      · exact absurd (List.eq_nil_of_length_eq_zero (by omega)) hne
    obtain ⟨b, off, rfl⟩ := h.spot (by intro h0; simp [h0] at h2; omega)
    rw [if_neg (by omega)]
    refine ⟨b, off + lo, ?_⟩
    by_cases h0 : lo = 0
    · subst h0; simp [Addr.add]
    · simp [Addr.add, h0]
  · rw [hlen] at hi'
    have hl : lo + i < l.length := by omega
    obtain ⟨b, off, rfl⟩ := h.spot (by intro h0; simp [h0] at hl)
    rw [if_neg (by omega)]
    have hc := h.cell (lo + i) hl
    have e : ad (Option.map (·.add (lo * 1)) (some (⟨b, off, none⟩ : Addr))) i = ad (some ⟨b, off, none⟩) (lo + i) := by
      by_cases h0 : lo = 0
      · subst h0; simp [Addr.add, ad]
      · simp [Addr.add, ad, h0, Nat.add_assoc]
    rw [e, hc]
    simp

section
variable {P : Program} {T E : TypeId} (hT : P.underlying T = some (.slice E)) (hE : ∀ w, (sizeOf E).run P w = .ok 1 w)
include hT hE
theorem Row.index {w a l cap} (h : Row w a l cap) (i : Nat) (hi : i < l.length) :
    ∀ w, (Instr.indexAt T (.slice a l.length cap) (.int .i64 (i : Int))).run P w = .ok (.pointer (some (ad a i))) w := by
  intro w
  obtain ⟨b, off, rfl⟩ := h.spot (by intro h0; simp [h0] at hi)
  have he : P.elem T = E := by simp [Program.elem, hT]
  rw [run_indexAt_slice w T _ _ _ _ _ (by rw [he]; exact hT), if_pos (by omega), he, hE]
  simp only [Result.andThen, ad, Addr.add]
  by_cases h0 : i = 0
  · subst h0; simp
  · simp [h0]

/-- b[lo:]: what it comes to, in whatever world, and that it is a row. -/
theorem Row.from_ {w a l cap} (h : Row w a l cap) (lo : Nat) (h1 : lo ≤ l.length) : ∃ a' m cap', m = l.drop lo ∧
    (∀ w, (Instr.sliceAt T (.slice a l.length cap) (some (.int .i64 (lo : Int))) none none).run P w = .ok (.slice a' m.length cap') w) ∧ Row w a' m cap' := by
  have he : P.elem T = E := by simp [Program.elem, hT]
  refine ⟨_, _, _, rfl, fun w => ?_, by simpa using h.sub lo l.length cap h1 (Nat.le_refl _) h.le (Nat.le_refl _)⟩
  rw [run_sliceAt_slice _ _ _ _ _ _ (by rw [he]; exact hT), run_slice_l w T a _ _ (by rw [he]; exact hT) .i64 lo (by omega) (by omega), he, hE]
  simp [Result.andThen, sliced]
/-- b[:hi]. -/
theorem Row.upto {w a l cap} (h : Row w a l cap) (hi : Nat) (h1 : hi ≤ l.length) : ∃ a' m cap', m = l.take hi ∧
    (∀ w, (Instr.sliceAt T (.slice a l.length cap) none (some (.int .i64 (hi : Int))) none).run P w = .ok (.slice a' m.length cap') w) ∧ Row w a' m cap' := by
  have he : P.elem T = E := by simp [Program.elem, hT]
  have hle := h.le
  refine ⟨_, _, _, rfl, fun w => ?_, by simpa using h.sub 0 hi cap (Nat.zero_le _) h1 (by omega) (Nat.le_refl _)⟩
  rw [run_sliceAt_slice _ _ _ _ _ _ (by rw [he]; exact hT), run_slice_h w T a _ _ (by rw [he]; exact hT) .i64 hi (by omega) (by omega), he, hE]
  simp [Result.andThen, sliced]
  omega
/-- b[lo:hi]. -/
theorem Row.part {w a l cap} (h : Row w a l cap) (lo hi : Nat) (h0 : lo ≤ hi) (h1 : hi ≤ l.length) : ∃ a' m cap', m = (l.take hi).drop lo ∧
    (∀ w, (Instr.sliceAt T (.slice a l.length cap) (some (.int .i64 (lo : Int))) (some (.int .i64 (hi : Int))) none).run P w = .ok (.slice a' m.length cap') w) ∧ Row w a' m cap' := by
  have he : P.elem T = E := by simp [Program.elem, hT]
  have hle := h.le
  refine ⟨_, _, _, rfl, fun w => ?_, h.sub lo hi cap h0 h1 (by omega) (Nat.le_refl _)⟩
  rw [run_sliceAt_slice _ _ _ _ _ _ (by rw [he]; exact hT), run_slice_lh w T a _ _ (by rw [he]; exact hT) .i64 .i64 lo hi (by omega) (by omega) (by omega), he, hE]
  simp [Result.andThen, sliced]
  omega
/-- b[:hi:hi]. -/
theorem Row.upto3 {w a l cap} (h : Row w a l cap) (hi : Nat) (h1 : hi ≤ l.length) : ∃ a' m cap', m = l.take hi ∧
    (∀ w, (Instr.sliceAt T (.slice a l.length cap) none (some (.int .i64 (hi : Int))) (some (.int .i64 (hi : Int)))).run P w = .ok (.slice a' m.length cap') w) ∧ Row w a' m cap' := by
  have he : P.elem T = E := by simp [Program.elem, hT]
  have hle := h.le
  refine ⟨_, _, _, rfl, fun w => ?_, by simpa using h.sub 0 hi hi (Nat.zero_le _) h1 (Nat.le_refl _) (by omega)⟩
  rw [run_sliceAt_slice _ _ _ _ _ _ (by rw [he]; exact hT), run_slice_hm w T a _ _ (by rw [he]; exact hT) .i64 .i64 hi hi (by omega) (by omega) (by omega), he, hE]
  simp [Result.andThen, sliced]
  omega
end
end Go.Cit

/- Slices of bytes that a call makes itself: what is known of them, and the laws of append, make at them. No condition. -/
namespace Go.Cit
open Go Go.RowKit

/-- T is the type of slices of bytes, E that of bytes. -/
structure ByteTypes (P : Program) (T E : TypeId) : Prop where
  slice : P.underlying T = some (.slice E)
  sz : ∀ w, (sizeOf E).run P w = .ok 1 w
  info : (P.info? E).map (fun i => (i.zero, i.size, i.bytes)) = some (some (.int .u8 0), 1, 1)

/-- The slice (a, l.length, cap) is nil, or lies at the head of a block from 'base' on that may be written; it reads as l. -/
structure Own (E base : Nat) (w : World) (a : Option Addr) (l : List UInt8) (cap : Nat) : Prop where
  row : w.ownsRow base E 1 (.slice a l.length cap) l.length (l.map vb)

def blk (a : Option Addr) : Option Nat := a.map (·.block)

theorem ownBlock_slice (a : Option Addr) (n c : Nat) : (Value.slice a n c).ownBlock = blk a := by cases a <;> rfl

theorem Own.nil (E base : Nat) (w : World) : Own E base w none [] 0 := ⟨World.ownsRow_nil w base E 1⟩

theorem Own.form {E base w a l cap} (h : Own E base w a l cap) : (a = none ∧ l = [] ∧ cap = 0) ∨
    ∃ g cur, a = some ⟨g, 0, none⟩ ∧ base ≤ g ∧ w.heap[g]? = some (.cells cur E (0, 0)) ∧ l.length ≤ cap ∧ cap ≤ maxLen ∧ cur.size = cap ∧ cur.toList.take l.length = l.map vb := by
  rcases h.row.2 with ⟨hv, hn⟩ | ⟨g, c, cur, hv, hb, hg, hle, hm, hs, ht⟩
  · injection hv with h1 h2 h3
    exact .inl ⟨h1, List.eq_nil_of_length_eq_zero hn, h3⟩
  · injection hv with h1 h2 h3
    subst h3
    exact .inr ⟨g, cur, h1, hb, hg, hle, hm, by simpa using hs, by simpa using ht⟩

theorem Own.isRow {E base w a l cap} (h : Own E base w a l cap) : Row w a l cap := by
  rcases h.form with ⟨rfl, rfl, rfl⟩ | ⟨g, cur, rfl, hb, hg, hle, hm, hs, ht⟩
  · exact Row.nil_ w
  · refine ⟨hle, hm, fun h => by simp at h, fun _ => ⟨g, 0, rfl⟩, fun i hi => ?_⟩
    have e1 : (cur.toList.take l.length)[i]? = some (vb l[i]) := by rw [ht]; simp [hi]
    rw [List.getElem?_take, if_pos hi] at e1
    simp only [ad, World.cell?, hg, Nat.zero_add]
    simpa using e1

theorem Own.blk_ge {E base w a l cap} (h : Own E base w a l cap) {g} (hg : blk a = some g) : base ≤ g ∧ g < w.heap.size :=
  h.row.lt g (by rw [ownBlock_slice]; exact hg)

theorem Own.kept {E base w w' a l cap} {row : Option Nat} (h : Own E base w a l cap) (hg : w.grownBy w' row) (hne : blk a = none ∨ blk a ≠ row) : Own E base w' a l cap :=
  ⟨h.row.kept hg (by rw [ownBlock_slice]; exact hne)⟩
theorem Own.alloc {E base w a l cap} (h : Own E base w a l cap) (o : Obj) : Own E base (w.alloc o) a l cap := ⟨h.row.alloc o⟩
theorem Own.drew {E base w a l cap} (h : Own E base w a l cap) : Own E base w.drew a l cap := ⟨h.row.drew⟩
theorem Own.drewN {E base w a l cap} (h : Own E base w a l cap) (n : Nat) : Own E base (w.drewN n) a l cap := ⟨h.row⟩
/-- What lies wholly below another call's base stays. -/
theorem Own.stay {E base w w' a l cap} (h : Own E base w a l cap) (hb : Below w.heap.size w w') : Own E base w' a l cap := by
  refine ⟨h.row.1, ?_⟩
  rcases h.row.2 with hn | ⟨g, c, cur, hv, hbg, hg, rest⟩
  · exact .inl hn
  · refine .inr ⟨g, c, cur, hv, hbg, ?_, rest⟩
    rw [hb.block g (Array.getElem?_eq_some_iff.1 hg).1]; exact hg
theorem Own.low {E base base' w a l cap} (h : Own E base w a l cap) (hb : base' ≤ base) : Own E base' w a l cap := by
  refine ⟨h.row.1, ?_⟩
  rcases h.row.2 with hn | ⟨g, c, cur, hv, hbg, rest⟩
  · exact .inl hn
  · exact .inr ⟨g, c, cur, hv, by omega, rest⟩

theorem Own.frozen {E base w a l cap} (h : Own E base w a l cap) (i : Nat) (hi : i < l.length) : w.frozen? (ad a i) = false := by
  rcases h.form with ⟨rfl, rfl, rfl⟩ | ⟨g, cur, rfl, hb, hg, _⟩
  · simp at hi
  · simpa [ad] using frozen_of_row w g i cur E hg
/-- A byte is stored into the call's own slice. -/
theorem Own.stored {E base w a l cap} (h : Own E base w a l cap) (i : Nat) (hi : i < l.length) (b : UInt8) :
    Own E base (w.setCell (ad a i) (vb b)) a (l.set i b) cap ∧ w.grownBy (w.setCell (ad a i) (vb b)) (blk a) := by
  rcases h.form with ⟨rfl, rfl, rfl⟩ | ⟨g, cur, rfl, hb, hg, _⟩
  · simp at hi
  · have hs := h.row.stored i (vb b)
    simp only [ad, Nat.zero_add]
    refine ⟨⟨?_⟩, hs.2⟩
    have := hs.1
    rwa [List.length_set, List.map_set]
/-- A row in new memory, from block base on, whose cells may be written (its block may hold more). -/
structure Mine (base : Nat) (w : World) (a : Option Addr) (l : List UInt8) (cap : Nat) : Prop where
  row : Row w a l cap
  new : ∀ g, blk a = some g → base ≤ g
  free : ∀ i, i < l.length → w.frozen? (ad a i) = false
theorem Own.mine {E base w a l cap} (h : Own E base w a l cap) : Mine base w a l cap := ⟨h.isRow, fun _ hg => (h.blk_ge hg).1, fun i hi => h.frozen i hi⟩
theorem Mine.nil (base : Nat) (w : World) : Mine base w none [] 0 := ⟨Row.nil_ w, fun g h => by simp [blk] at h, fun i h => by simp at h⟩
theorem Mine.low {base base' w a l cap} (h : Mine base w a l cap) (hb : base' ≤ base) : Mine base' w a l cap := ⟨h.row, fun g hg => Nat.le_trans hb (h.new g hg), h.free⟩
theorem Mine.stay {base w w' a l cap} (h : Mine base w a l cap) (hb : Below w.heap.size w w') : Mine base w' a l cap :=
  ⟨h.row.stay hb, h.new, fun i hi => (hb.frozen (h.row.blk hi)).trans (h.free i hi)⟩
theorem Mine.drewN {base w a l cap} (h : Mine base w a l cap) (n : Nat) : Mine base (w.drewN n) a l cap := ⟨h.row.drewN n, h.new, h.free⟩
/-- A byte is stored into a row of one's own. -/
theorem Mine.stored {base w a l cap} (h : Mine base w a l cap) (i : Nat) (hi : i < l.length) (b : UInt8) :
    Mine base (w.setCell (ad a i) (vb b)) a (l.set i b) cap ∧ w.grownBy (w.setCell (ad a i) (vb b)) (blk a) ∧ Below base w (w.setCell (ad a i) (vb b)) := by
  obtain ⟨g, off, rfl⟩ := h.row.spot (by intro h0; simp [h0] at hi)
  refine ⟨⟨⟨by rw [List.length_set]; exact h.row.le, h.row.top, h.row.nil, fun _ => ⟨g, off, rfl⟩, fun j hj => ?_⟩, h.new, fun j hj => ?_⟩, ⟨rfl, rfl, rfl, by simp [World.setCell], fun k hk hne => Below.heap_setCell _ _ _ _ (fun e => hne (by rw [e]; rfl))⟩, (Below.refl _ _).setCell (h.new g rfl) _⟩
  · rw [List.length_set] at hj
    have hc := h.row.cell j hj
    by_cases e : i = j
    · subst e
      rw [World.cell?_setCell_same' _ _ _ (by rw [hc]; rfl)]
      rw [List.getElem_set_self]
    · rw [World.cell?_setCell_other _ _ _ _ (by simp [ad] <;> omega), hc]
      simp [e]
  · rw [List.length_set] at hj
    have hf := h.free j hj
    simp only [World.frozen?, World.setCell, ad, Array.getElem?_modify] at hf ⊢
    cases hh : w.heap[g]? with
    | none => simp
    | some o =>
      rw [hh] at hf
      cases o <;> simp_all
/-- A store into another block leaves it. -/
theorem rowOther {w a l cap} (h : Row w a l cap) (p : Addr) (u : Value) (hne : ∀ g, blk a = some g → p.block ≠ g) : Row (w.setCell p u) a l cap := by
  refine ⟨h.le, h.top, h.nil, h.spot, fun i hi => ?_⟩
  obtain ⟨g, off, rfl⟩ := h.spot (by intro h0; simp [h0] at hi)
  rw [World.cell?_of_block (w := w) (Below.heap_setCell _ _ _ _ (fun e => hne g rfl e.symm))]
  exact h.cell i hi
theorem Mine.other {base w a l cap} (h : Mine base w a l cap) (p : Addr) (u : Value) (hne : ∀ g, blk a = some g → p.block ≠ g) : Mine base (w.setCell p u) a l cap := by
  refine ⟨rowOther h.row p u hne, h.new, fun i hi => ?_⟩
  obtain ⟨g, off, rfl⟩ := h.row.spot (by intro h0; simp [h0] at hi)
  rw [World.frozen?_of_block (w := w) (Below.heap_setCell _ _ _ _ (fun e => hne g rfl e.symm))]
  exact h.free i hi
theorem Mine.cellOf {base w a l cap} (h : Mine base w a l cap) {i : Nat} (hi : i < l.length) : w.cell? (ad a i) = some (vb l[i]) := h.row.cell i hi

theorem grown_below {w w' : World} {row : Option Nat} {base : Nat} (hg : w.grownBy w' row) (hb : base ≤ w.heap.size) (hr : ∀ k, row = some k → base ≤ k) : Below base w w' :=
  (Below.refl _ _).grown hg hb hr

section
variable {P : Program} {T E : TypeId}

/-- make([]byte, n). -/
theorem wp_make_bytes (hBT : ByteTypes P T E) {w : World} {ops : Array Oper} {rest : List Oper} {o : Oper} {act : Act} {Q : Exit → Act → World → Prop} (x y : Operand) (hgd : o.guard = none)
    (ho : o.op = .makeSlice T x y) (n : Nat) (k1 k2 : IntKind) {N : Int} (hx : act.eval x = .int k1 N) (hy : act.eval y = .int k2 N) (hN : N = (n : Int)) (hn : n ≤ 1000000000)
    (h : ∀ w', Own E w.heap.size w' (some ⟨w.heap.size, 0, none⟩) (List.replicate n 0) n → w.grownBy w' none → w.heap.size < w'.heap.size → wpList P ops Q rest (act.put o.dst (.slice (some ⟨w.heap.size, 0, none⟩) n n)) w') : wpList P ops Q (o :: rest) act w := by
  subst hN
  obtain ⟨i, hi, hz0, hz1, hz2⟩ := info_parts hBT.info
  refine wpList_make_full w hgd x y T ho w.heap.size E i (.int .u8 0) 1 hBT.slice hi hz0 hz1 k1 k2 n n n hx hy rfl rfl (by rw [hz2]; omega) (by unfold maxLen; omega) (Nat.le_refl _) ?_
  intro w' hown hgr
  have e1 : (madeCells (Value.int .u8 0).cells (n * 1)).toList = (List.replicate n (0 : UInt8)).map vb := by
    rw [show (Value.int .u8 0).cells = #[.int .u8 0] from rfl, toList_madeCells_one, Nat.mul_one, List.map_replicate]; rfl
  rw [e1] at hown
  have hO : Own E w.heap.size w' (some ⟨w.heap.size, 0, none⟩) (List.replicate n 0) n := ⟨by simpa using hown⟩
  exact h w' hO hgr (hO.blk_ge (g := w.heap.size) rfl).2

/-- append(s, x...), s the call's own, x a row. -/
theorem wp_append_row (hBT : ByteTypes P T E) {w : World} {ops : Array Oper} {rest : List Oper} {o : Oper} {act : Act} {Q : Exit → Act → World → Prop} (s x : Operand) (hgd : o.guard = none)
    (ho : o.op = .call { callee := .builtin .append, args := #[s, x], argTypes := #[T, T] }) {base : Nat}
    {a b : Option Addr} {l m : List UInt8} {cap c : Nat} (hown : Own E base w a l cap) (hm : Row w b m c) (hlen : l.length + m.length ≤ 1000000000) (hbase : base ≤ w.heap.size)
    (hs : act.eval s = .slice a l.length cap) (hx : act.eval x = .slice b m.length c)
    (h : ∀ a' cap' w', Own E base w' a' (l ++ m) cap' → w.grownBy w' (blk a) → wpList P ops Q rest (act.put o.dst (.slice a' (l ++ m).length cap')) w') : wpList P ops Q (o :: rest) act w := by
  obtain ⟨i, hi, hz0, hz1, hz2⟩ := info_parts hBT.info
  cases b with
  | none =>
    have hc := hm.nil rfl
    have hle := hm.le
    obtain rfl : m = [] := List.eq_nil_of_length_eq_zero (by omega)
    subst hc
    refine wpList_append_own_none hgd s x T ho base E i 1 hBT.slice hi (.slice a l.length cap) l.length (l.map vb) hs hown.row hx ?_
    have hk := h a cap w
    rw [List.append_nil] at hk
    exact hk hown ⟨rfl, rfl, rfl, Nat.le_refl _, fun _ _ _ => rfl⟩
  | some p =>
    refine wpList_append_own w hgd s x T ho base E i (.int .u8 0) 1 1 hBT.slice hi hz0 hz1 hz2 rfl (by decide) _ l.length (l.map vb) hs hown.row p m.length c (m.map vb) hx (by simp) ?_ ?_ ?_ ?_ hbase ?_
    · intro j u hu
      have hj : j < m.length := by
        have := (List.getElem?_eq_some_iff.1 hu).1
        simpa using this
      obtain ⟨g, off, e⟩ := hm.spot (by intro h0; simp [h0] at hj)
      injection e with e
      subst e
      have ea : (⟨g, off, none⟩ : Addr).add j = ad (some ⟨g, off, none⟩) j := by unfold Addr.add ad; split <;> simp_all
      rw [ea, hm.cell j hj]
      simpa [hj] using hu
    · intro u hu
      obtain ⟨y, _, rfl⟩ := List.mem_map.1 hu
      rfl
    · unfold maxLen; omega
    · omega
    · intro v' w' hown' hgr hnil
      rw [ownBlock_slice] at hgr
      have hv' : ∃ a' cap', v' = .slice a' (l ++ m).length cap' := by
        rcases hown'.2 with ⟨hv, hn⟩ | ⟨g', c', cur, hv, _⟩
        · exact ⟨none, 0, by rw [hv]; simp; omega⟩
        · exact ⟨some ⟨g', 0, none⟩, c', by rw [hv]; simp⟩
      obtain ⟨a', cap', rfl⟩ := hv'
      exact h a' cap' w' ⟨by simpa using hown'⟩ hgr

/-- A slice written out. -/
theorem own_lit (w : World) (cs : Array Value) (E : TypeId) (l : List UInt8) (h : cs = (l.map vb).toArray) (hl : l.length ≤ 1000000000) :
    Own E w.heap.size (w.alloc (.cells cs E)) (some ⟨w.heap.size, 0, none⟩) l l.length := by
  refine ⟨?_⟩
  subst h
  have := World.ownsRow_lit (base := w.heap.size) (e := E) (size := 1) w (l.map vb).toArray l.length (Nat.le_refl _) (by unfold maxLen; omega) (by simp)
  simpa using this

/-- append(s, x) of one byte x, s the call's own. -/
theorem wp_append_byte (hBT : ByteTypes P T E) {w : World} {ops : Array Oper} {rest : List Oper} {o : Oper} {act : Act} {Q : Exit → Act → World → Prop} (hgd : o.guard = none) (s x : Operand)
    (ho : o.op = .call { callee := .builtin .append, args := #[s, x], argTypes := #[T, T] }) (base : Nat)
    (a : Option Addr) (l : List UInt8) (cap : Nat) (hs : act.eval s = .slice a l.length cap) (hown : Own E base w a l cap)
    (g : Nat) (b : UInt8) (hx : act.eval x = .slice (some ⟨g, 0, none⟩) 1 1) (hc : w.cell? ⟨g, 0, none⟩ = some (vb b))
    (hlen : l.length ≤ 1000000000) (hbase : base ≤ w.heap.size)
    (h : ∀ a' cap' w', Own E base w' a' (l ++ [b]) cap' → w.grownBy w' (blk a) → wpList P ops Q rest (act.put o.dst (.slice a' (l ++ [b]).length cap')) w') : wpList P ops Q (o :: rest) act w := by
  obtain ⟨i, hi, hz0, hz1, hz2⟩ := info_parts hBT.info
  refine wpList_append_own w hgd s x T ho base E i (.int .u8 0) 1 1 hBT.slice hi hz0 hz1 hz2 rfl (by decide) _ l.length (l.map vb) hs hown.row ⟨g, 0, none⟩ 1 1 [vb b] hx rfl ?_ ?_ ?_ ?_ hbase ?_
  · intro j u hu
    match j with
    | 0 => simp at hu; subst hu; simpa [Addr.add] using hc
    | j + 1 => simp at hu
  · intro u hu; simp at hu; subst hu; rfl
  · unfold maxLen; omega
  · omega
  · intro v' w' hown' hgr hnil
    rw [ownBlock_slice] at hgr
    have hv' : ∃ a' cap', v' = .slice a' (l ++ [b]).length cap' := by
      rcases hown'.2 with ⟨hv, hn⟩ | ⟨g', c', cur, hv, _⟩
      · omega
      · exact ⟨some ⟨g', 0, none⟩, c', by rw [hv]; simp⟩
    obtain ⟨a', cap', rfl⟩ := hv'
    exact h a' cap' w' ⟨by simpa using hown'⟩ hgr

/-- The same, as a statement 's = append(s, x)' leaves it: x lies in a new box. All side conditions are facts of the world ahead of the box. -/
theorem wp_append_box (hBT : ByteTypes P T E) {w0 : World} {ops : Array Oper} {rest : List Oper} {o : Oper} {act : Act} {Q : Exit → Act → World → Prop} (s x : Operand) (hgd : o.guard = none)
    (ho : o.op = .call { callee := .builtin .append, args := #[s, x], argTypes := #[T, T] }) {base : Nat}
    {a : Option Addr} {l : List UInt8} {cap : Nat} {b : UInt8} (hown : Own E base w0 a l cap) (hlen : l.length ≤ 1000000000) (hbase : base ≤ w0.heap.size)
    (hs : act.eval s = .slice a l.length cap) (hx : act.eval x = .slice (some ⟨w0.heap.size, 0, none⟩) 1 1)
    (h : ∀ a' cap' w', Own E base w' a' (l ++ [b]) cap' → w0.grownBy w' (blk a) → wpList P ops Q rest (act.put o.dst (.slice a' (l ++ [b]).length cap')) w') : wpList P ops Q (o :: rest) act (w0.alloc (.cells #[vb b] E)) := by
  refine wp_append_byte hBT hgd s x ho base a l cap hs (hown.alloc _) w0.heap.size b hx ?_ hlen (by simp; omega) ?_
  · rw [World.cell?, heap_alloc_new]; rfl
  · intro a' cap' w' hown' hgr
    refine h a' cap' w' hown' ?_
    have h0 := World.grownBy_alloc w0 (.cells #[vb b] E) (blk a)
    refine ⟨hgr.os.trans h0.os, hgr.tape.trans h0.tape, hgr.output.trans h0.output, Nat.le_trans h0.size hgr.size, fun k hk hne => ?_⟩
    rw [hgr.block k (Nat.lt_of_lt_of_le hk h0.size) hne, h0.block k hk hne]
end
section
variable {P : Program} {T E : TypeId}
/-- The same as one step of a region that draws its order (the draw stands outermost). -/
theorem step_append_box (hBT : ByteTypes P T E) {w0 : World} {ops : Array Oper} {o : Oper} {act : Act} {K : Act → World → Prop} {Q : Exit → Act → World → Prop} {F : Prop} (s x : Operand) (hgd : o.guard = none)
    (ho : o.op = .call { callee := .builtin .append, args := #[s, x], argTypes := #[T, T] }) {base : Nat}
    {a : Option Addr} {l : List UInt8} {cap : Nat} {b : UInt8} (hown : Own E base w0 a l cap) (hlen : l.length ≤ 1000000000) (hbase : base ≤ w0.heap.size)
    (hs : act.eval s = .slice a l.length cap) (hx : act.eval x = .slice (some ⟨w0.heap.size, 0, none⟩) 1 1)
    (h : ∀ a' cap' w', Own E base w' a' (l ++ [b]) cap' → w0.grownBy w' (blk a) → K (act.put o.dst (.slice a' (l ++ [b]).length cap')) w') :
    if Region.wanted o (yielded ops act.tmps) = true then Oper.wp P o act ((w0.alloc (.cells #[vb b] E)).drew) K Q else F := by
  have hw : Region.wanted o (yielded ops act.tmps) = true := by simp [Region.wanted, hgd]
  rw [if_pos hw]
  obtain ⟨i, hi, hz0, hz1, hz2⟩ := info_parts hBT.info
  have hO : Own E base ((w0.alloc (.cells #[vb b] E)).drew) a l cap := (hown.alloc _).drew
  have hc : ((w0.alloc (.cells #[vb b] E)).drew).cell? ⟨w0.heap.size, 0, none⟩ = some (vb b) := by
    show (w0.alloc (.cells #[vb b] E)).cell? _ = _
    rw [World.cell?, heap_alloc_new]; rfl
  refine wp_append_own _ s x T ho base E i (.int .u8 0) 1 1 hBT.slice hi hz0 hz1 hz2 rfl (by decide) _ l.length (l.map vb) hs hO.row ⟨w0.heap.size, 0, none⟩ 1 1 [vb b] hx rfl ?_ ?_ ?_ ?_ ?_ ?_
  · intro j u hu
    match j with
    | 0 => simp at hu; subst hu; exact hc
    | j + 1 => simp at hu
  · intro u hu; simp at hu; subst hu; rfl
  · unfold maxLen; omega
  · omega
  · show base ≤ (w0.alloc (.cells #[vb b] E)).heap.size; simp; omega
  · intro v' w' hown' hgr _
    rw [ownBlock_slice] at hgr
    have hv' : ∃ a' cap', v' = .slice a' (l ++ [b]).length cap' := by
      rcases hown'.2 with ⟨hv, hn⟩ | ⟨g', c', cur, hv, _⟩
      · omega
      · exact ⟨some ⟨g', 0, none⟩, c', by rw [hv]; simp⟩
    obtain ⟨a', cap', rfl⟩ := hv'
    refine h a' cap' w' ⟨by simpa using hown'⟩ ?_
    have h0 : w0.grownBy ((w0.alloc (.cells #[vb b] E)).drew) (blk a) := ⟨rfl, rfl, rfl, by show _ ≤ (w0.alloc (.cells #[vb b] E)).heap.size; simp, fun k hk _ => (World.grownBy_alloc w0 (.cells #[vb b] E) none).block k hk (by simp)⟩
    refine ⟨hgr.os.trans h0.os, hgr.tape.trans h0.tape, hgr.output.trans h0.output, Nat.le_trans h0.size hgr.size, fun k hk hne => ?_⟩
    rw [hgr.block k (Nat.lt_of_lt_of_le hk h0.size) hne, h0.block k hk hne]
end

/-- A block that is known whole reads as its bytes. -/
theorem row_blk {w : World} {g : Nat} {cs : Array Value} {E : TypeId} {fr : Nat × Nat} (l : List UInt8) (hg : w.heap[g]? = some (.cells cs E fr)) (h : cs = (l.map vb).toArray) (hl : l.length ≤ 1000000000) :
    Row w (some ⟨g, 0, none⟩) l l.length := by
  refine ⟨Nat.le_refl _, by unfold maxLen; omega, fun h => by simp at h, fun _ => ⟨g, 0, rfl⟩, fun i hi => ?_⟩
  simp only [ad, Nat.zero_add]
  rw [cell_of_row w g i cs E fr hg, h]
  simp [hi]
theorem row_new (w : World) (cs : Array Value) (E : TypeId) (fr : Nat × Nat) (l : List UInt8) (h : cs = (l.map vb).toArray) (hl : l.length ≤ 1000000000) :
    Row (w.alloc (.cells cs E fr)) (some ⟨w.heap.size, 0, none⟩) l l.length := row_blk l (heap_alloc_new w _) h hl

/-- A contract whose result is a new row: the row under a name of its own, so that its length stays one term. -/
theorem toX {P : Program} {f : FuncId} {args : Array Value} {w w0 : World} {L : List UInt8} {B B' : Nat} (h : Calls P f args w fun e w' => ∃ a cp, e = .returned (.slice a L.length cp) ∧ Mine B w' a L cp ∧ Below B' w0 w') :
    Calls P f args w fun e w' => ∃ a X cp, Hid (X = L) ∧ e = .returned (.slice a X.length cp) ∧ Mine B w' a X cp ∧ Below B' w0 w' :=
  h.mono fun _ _ ⟨a, cp, h1, h2, h3⟩ => ⟨a, L, cp, rfl, h1, h2, h3⟩
theorem toXo {P : Program} {f : FuncId} {args : Array Value} {w w0 : World} {L : List UInt8} {E B B' : Nat} (h : Calls P f args w fun e w' => ∃ a cp, e = .returned (.slice a L.length cp) ∧ Own E B w' a L cp ∧ Below B' w0 w') :
    Calls P f args w fun e w' => ∃ a X cp, Hid (X = L) ∧ e = .returned (.slice a X.length cp) ∧ Mine B w' a X cp ∧ Below B' w0 w' :=
  h.mono fun _ _ ⟨a, cp, h1, h2, h3⟩ => ⟨a, L, cp, rfl, h1, h2.mine, h3⟩
/-- The same, the length told otherwise. -/
theorem toXn {P : Program} {f : FuncId} {args : Array Value} {w w0 : World} {L : List UInt8} {n E B B' : Nat} (hn : L.length = n) (h : Calls P f args w fun e w' => ∃ a cp, e = .returned (.slice a n cp) ∧ Own E B w' a L cp ∧ Below B' w0 w') :
    Calls P f args w fun e w' => ∃ a X cp, Hid (X = L) ∧ e = .returned (.slice a X.length cp) ∧ Mine B w' a X cp ∧ Below B' w0 w' :=
  h.mono fun _ _ ⟨a, cp, h1, h2, h3⟩ => ⟨a, L, cp, rfl, by rw [hn]; exact h1, h2.mine, h3⟩
end Go.Cit

/- From the rows' reading of an argument to the walks' own words. No condition. -/
namespace Go.Cit
open Go Go.RowKit

theorem u8_of_wf {n : Int} (h : (Lit.int .u8 n).wf = true) : ∃ x : UInt8, n = x.toNat := by
  have hb := bounds_u8 h
  exact ⟨UInt8.ofNat n.toNat, by rw [UInt8.toNat_ofNat_of_lt' (by show _ < 256; omega)]; omega⟩
theorem u32_of_wf {n : Int} (h : (Lit.int .u32 n).wf = true) : ∃ x : UInt32, n = x.toNat := by
  have hb := bounds_u32 h
  exact ⟨UInt32.ofNat n.toNat, by rw [UInt32.toNat_ofNat_of_lt' (by show _ < 4294967296; omega)]; omega⟩
theorem u64_of_wf {n : Int} (h : (Lit.int .u64 n).wf = true) : ∃ x : UInt64, n = x.toNat := by
  have hb := bounds_u64 h
  exact ⟨UInt64.ofNat n.toNat, by rw [UInt64.toNat_ofNat_of_lt' (by show _ < 18446744073709551616; omega)]; omega⟩
theorem i64_of_wf {n : Int} (h : (Lit.int .i64 n).wf = true) : -9223372036854775808 ≤ n ∧ n ≤ 9223372036854775807 := bounds_i64 h

theorem bytes_of_wf : ∀ (zs : List Int), (∀ n ∈ zs, (Lit.int .u8 n).wf = true) → ∃ l : List UInt8, zs = l.map (fun x => (x.toNat : Int))
  | [], _ => ⟨[], rfl⟩
  | z :: zs, h => by
    obtain ⟨x, hx⟩ := u8_of_wf (h z (by simp))
    obtain ⟨l, hl⟩ := bytes_of_wf zs (fun n hn => h n (by simp [hn]))
    exact ⟨x :: l, by simp [hx, hl]⟩

theorem row_of {w : World} {a : Option Addr} {len cap : Nat} {zs : List Int}
    (h : (a = none ∧ len = 0 ∧ cap = 0 ∧ zs = []) ∨
      ∃ x, a = some x ∧ len ≤ cap ∧ cap ≤ maxLen ∧ zs.length = cap ∧ (∀ i, i < zs.length → w.cell? (x.add i) = some (.int .u8 (zs.getD i 0))) ∧ ∀ n ∈ zs, (Lit.int .u8 n).wf = true) :
    ∃ l : List UInt8, len = l.length ∧ Row w a l cap := by
  rcases h with ⟨rfl, rfl, rfl, rfl⟩ | ⟨x, rfl, hle, hm, hz, hc, hwf⟩
  · exact ⟨[], rfl, Row.nil_ w⟩
  · obtain ⟨l, rfl⟩ := bytes_of_wf zs hwf
    rw [List.length_map] at hz hc
    have hlen : (l.take len).length = len := by rw [List.length_take]; omega
    refine ⟨l.take len, hlen.symm, by rw [hlen]; exact hle, hm, fun h => by simp at h, fun hne => ?_, fun i hi => ?_⟩
    · have h0 : 0 < l.length := by
        rcases Nat.eq_zero_or_pos l.length with h | h
        · exact absurd (by rw [List.eq_nil_of_length_eq_zero h]; simp) hne
        · exact h
      have := World.cell?_spot (hc 0 h0)
      obtain ⟨b, off, sp⟩ := x
      simp [Addr.add] at this
      exact ⟨b, off, by rw [this]⟩
    · rw [hlen] at hi
      have hi' : i < l.length := by omega
      have h1 := hc i hi'
      have hs := World.cell?_spot h1
      obtain ⟨b, off, sp⟩ := x
      have e : (⟨b, off, sp⟩ : Addr).add i = ad (some ⟨b, off, sp⟩) i := by
        unfold Addr.add ad
        by_cases h0 : i = 0
        · subst h0; simp [Addr.add] at hs; simp [hs]
        · simp [h0]
      rw [← e, h1]
      simp [hi']
end Go.Cit

/- A region that draws its order, told once: each operation is shown to give what is said of its slot, in whatever world has grown out of the first one, from what is said of the slots that it waits for; then so it is whatever order is drawn. No condition on the program. -/
namespace Go.Cit
open Go Go.RowKit

section
variable {P : Program} {ops : Array Oper} {Q : Exit → Act → World → Prop}

/-- The slots that the region does not write are as they were. -/
def SameBut (ops : Array Oper) (a0 a : Act) : Prop :=
  a.defers = a0.defers ∧ a.tmps.size = a0.tmps.size ∧ ∀ d, (∀ (i : Nat) (o : Oper), ops[i]? = some o → o.dst ≠ some d) → a.tmps.getD d undef = a0.tmps.getD d undef

/-- Every edge that binds leads back; no two operations write one slot; all slots lie in the frame. -/
def shapeB (ops : Array Oper) (n : Nat) : Bool :=
  (List.range ops.size).all fun i => match ops[i]? with
    | none => true
    | some o => (o.after.all fun e => !Region.binds .any e || decide (e.on < i)) && (match o.dst with | some d => decide (d < n) | none => true) &&
        (List.range i).all fun j => match ops[j]? with
          | none => true
          | some p => match o.dst, p.dst with | some d, some d' => decide (d ≠ d') | _, _ => true

theorem shape_spec {n : Nat} (h : shapeB ops n = true) {i : Nat} {o : Oper} (ho : ops[i]? = some o) :
    (∀ e ∈ o.after, Region.binds .any e = true → e.on < i) ∧ (∀ d, o.dst = some d → d < n) ∧ (∀ j p d, ops[j]? = some p → j < i → o.dst = some d → p.dst ≠ some d) := by
  have hi : i < ops.size := (Array.getElem?_eq_some_iff.1 ho).1
  have h1 := List.all_eq_true.1 h i (List.mem_range.2 hi)
  rw [ho] at h1
  simp only [Bool.and_eq_true] at h1
  obtain ⟨⟨ha, hd⟩, hu⟩ := h1
  refine ⟨fun e he hb => ?_, fun d hdd => ?_, fun j p d hp hji hdd hpd => ?_⟩
  · have := (Array.all_eq_true_iff_forall_mem.1 ha) e he
    simp [hb] at this
    exact this
  · rw [hdd] at hd; simpa using hd
  · have := List.all_eq_true.1 hu j (List.mem_range.2 hji)
    rw [hp] at this
    simp [hdd, hpd] at this

theorem put_getD_same (a : Act) (d : Tmp) (v : Value) (h : d < a.tmps.size) : (a.put (some d) v).tmps.getD d undef = v := by
  simp [Act.put, Array.getD, h]
theorem put_getD_ne (a : Act) (o : Option Tmp) (d : Tmp) (v : Value) (h : o ≠ some d) : (a.put o v).tmps.getD d undef = a.tmps.getD d undef := by
  cases o with
  | none => rfl
  | some e =>
    have hne : e ≠ d := fun h' => h (by rw [h'])
    simp [Act.put, Array.getElem?_setIfInBounds_ne hne]
theorem put_size (a : Act) (o : Option Tmp) (v : Value) : (a.put o v).tmps.size = a.tmps.size := by cases o <;> simp [Act.put]
theorem put_defers (a : Act) (o : Option Tmp) (v : Value) : (a.put o v).defers = a.defers := by cases o <;> rfl

/-- How many are still to come. -/
def toCome (listed : Array Bool) (n : Nat) : Nat := ((List.range n).filter fun i => !listed.getD i true).length
theorem toCome_zero {listed : Array Bool} {n : Nat} (h : toCome listed n = 0) : ∀ i, i < n → listed.getD i true = true := by
  intro i hi
  have := List.eq_nil_of_length_eq_zero h
  have h2 := List.filter_eq_nil_iff.1 this i (List.mem_range.2 hi)
  simpa using h2
theorem filter_le {α : Type} (p q : α → Bool) (hpq : ∀ x, q x = true → p x = true) : ∀ l : List α, (l.filter q).length ≤ (l.filter p).length
  | [] => Nat.le_refl _
  | z :: l => by
    have ih := filter_le p q hpq l
    by_cases hz : q z = true
    · rw [List.filter_cons_of_pos hz, List.filter_cons_of_pos (hpq z hz)]; exact Nat.succ_le_succ ih
    · rw [List.filter_cons_of_neg hz]
      by_cases hz' : p z = true
      · rw [List.filter_cons_of_pos hz']; exact Nat.le_succ_of_le ih
      · rw [List.filter_cons_of_neg hz']; exact ih
theorem filter_lt {α : Type} (p q : α → Bool) (hpq : ∀ x, q x = true → p x = true) : ∀ (l : List α) (x : α), x ∈ l → p x = true → q x = false → (l.filter q).length < (l.filter p).length
  | [], x, hx, _, _ => by simp at hx
  | y :: l, x, hx, hp, hq => by
    rcases List.mem_cons.1 hx with rfl | hx
    · rw [List.filter_cons_of_pos hp, List.filter_cons_of_neg (by rw [hq]; decide)]
      exact Nat.lt_succ_of_le (filter_le p q hpq l)
    · have ih := filter_lt p q hpq l x hx hp hq
      by_cases hy : q y = true
      · rw [List.filter_cons_of_pos hy, List.filter_cons_of_pos (hpq y hy)]; exact Nat.succ_lt_succ ih
      · rw [List.filter_cons_of_neg hy]
        by_cases hy' : p y = true
        · rw [List.filter_cons_of_pos hy']; exact Nat.lt_succ_of_lt ih
        · rw [List.filter_cons_of_neg hy']; exact ih
theorem toCome_set {listed : Array Bool} {n i : Nat} (hi : i < n) (hs : i < listed.size) (h : listed.getD i true = false) : toCome (listed.setIfInBounds i true) n < toCome listed n := by
  refine filter_lt _ _ ?_ _ i (List.mem_range.2 hi) (by simp [h]) ?_
  · intro x hx
    by_cases hxi : i = x
    · subst hxi; simp [h]
    · rw [getD_set_ne true hxi] at hx; exact hx
  · simp [hs]

/-- What one operation has to give. -/
def OpGives (P : Program) (ops : Array Oper) (Q : Exit → Act → World → Prop) (G : World → World → Prop) (Γ : Nat → Value → World → Prop) (i : Nat) (a : Act) (w : World) : Prop :=
  ∀ o, ops[i]? = some o → wpOp P ops Q i (fun a' w' => ∃ v, a' = a.put o.dst v ∧ G w w' ∧ Γ i v w') a w

theorem typed_any {C : World → Prop} {G : World → World → Prop} {Γ : Nat → Value → World → Prop} {a0 : Act}
    (hs : shapeB ops a0.tmps.size = true)
    (hC : ∀ w w', C w → G w w' → C w') (hΓ : ∀ i v w w', C w → G w w' → Γ i v w → Γ i v w')
    (hop : ∀ i o a w, ops[i]? = some o → C w → SameBut ops a0 a → (∀ e ∈ o.after, Region.binds .any e = true → ∀ p d, ops[e.on]? = some p → p.dst = some d → Γ e.on (a.tmps.getD d undef) w) → OpGives P ops Q G Γ i a w)
    (hend : ∀ a w, C w → SameBut ops a0 a → (∀ i o d, ops[i]? = some o → o.dst = some d → Γ i (a.tmps.getD d undef) w) → Q .normal a w) :
    ∀ (fuel : Nat) (listed : Array Bool) (a : Act) (w : World), toCome listed ops.size ≤ fuel → listed.size = ops.size → C w → SameBut ops a0 a →
      (∀ i o d, listed.getD i false = true → ops[i]? = some o → o.dst = some d → Γ i (a.tmps.getD d undef) w) → wpAny P .any ops Q fuel listed a w := by
  have hready : ∀ (listed : Array Bool), listed.size = ops.size → Region.ready .any ops listed = [] → ∀ i, i < ops.size → listed.getD i false = true := by
    intro listed hsz hr i
    induction i using Nat.strongRecOn with
    | ind i ih =>
      intro hi
      cases hl : listed.getD i true with
      | true =>
        have hi' : i < listed.size := by omega
        simpa [Array.getD, hi'] using hl
      | false =>
        exfalso
        have hm : i ∈ Region.ready .any ops listed := by
          rw [mem_ready]
          refine ⟨hl, ops[i], by simp [hi], fun e he hb => ?_⟩
          have := (shape_spec hs (i := i) (o := ops[i]) (by simp [hi])).1 e he hb
          exact ih e.on this (by omega)
        rw [hr] at hm
        simp at hm
  intro fuel
  induction fuel with
  | zero =>
    intro listed a w hf hsz hc hsame hg
    have hall := toCome_zero (Nat.le_zero.1 hf)
    have hr : Region.ready .any ops listed = [] := by
      apply List.eq_nil_iff_forall_not_mem.2
      intro i hi
      rw [mem_ready] at hi
      obtain ⟨h0, o, ho, _⟩ := hi
      rw [hall i (Array.getElem?_eq_some_iff.1 ho).1] at h0
      simp at h0
    exact ⟨hr, hend a w hc hsame fun i o d ho hd => hg i o d (hready listed hsz hr i (Array.getElem?_eq_some_iff.1 ho).1) ho hd⟩
  | succ fuel ih =>
    intro listed a w hf hsz hc hsame hg
    refine ⟨fun hr => hend a w hc hsame fun i o d ho hd => hg i o d (hready listed hsz hr i (Array.getElem?_eq_some_iff.1 ho).1) ho hd, fun i hi => ?_⟩
    obtain ⟨h0, o, ho, hdep⟩ := mem_ready.1 hi
    have hlt : i < ops.size := (Array.getElem?_eq_some_iff.1 ho).1
    have hgive := hop i o a w ho hc hsame (fun e he hb p d hp hd => hg e.on p d (hdep e he hb) hp hd) o ho
    refine wpOp_mono (fun a' w' hk => ?_) hgive
    obtain ⟨v, rfl, hG, hv⟩ := hk
    refine ih _ _ _ ?_ (by simpa using hsz) (hC w w' hc hG) ?_ ?_
    · have := toCome_set (n := ops.size) hlt (by omega) h0
      omega
    · refine ⟨by rw [put_defers]; exact hsame.1, by rw [put_size]; exact hsame.2.1, fun d hd => ?_⟩
      rw [put_getD_ne _ _ _ _ (hd i o ho)]
      exact hsame.2.2 d hd
    · intro j p d hj hp hd
      by_cases hij : i = j
      · subst hij
        obtain rfl : o = p := by rw [ho] at hp; exact Option.some.inj hp
        rw [hd, put_getD_same _ _ _ (by rw [hsame.2.1]; exact (shape_spec hs ho).2.1 d hd)]
        exact hv
      · rw [getD_set_ne false hij] at hj
        have hne : o.dst ≠ some d := by
          rcases Nat.lt_or_gt_of_ne hij with h | h
          · intro e; exact (shape_spec hs hp).2.2 i o d ho h hd e
          · intro e; exact (shape_spec hs ho).2.2 j p d hp h e hd
        rw [put_getD_ne _ _ _ _ hne]
        exact hΓ j _ w w' hc hG (hg j p d hj hp hd)

theorem wp_region_typed {id : Nat} {a0 : Act} {w : World} (C : World → Prop) (G : World → World → Prop) (Γ : Nat → Value → World → Prop)
    (hm : P.follows .mixedOrders = true) (hs : shapeB ops a0.tmps.size = true)
    (hC : ∀ w w', C w → G w w' → C w') (hΓ : ∀ i v w w', C w → G w w' → Γ i v w → Γ i v w') (h0 : C { w with drawn := w.drawn + 1 })
    (hop : ∀ i o a w, ops[i]? = some o → C w → SameBut ops a0 a → (∀ e ∈ o.after, Region.binds .any e = true → ∀ p d, ops[e.on]? = some p → p.dst = some d → Γ e.on (a.tmps.getD d undef) w) → OpGives P ops Q G Γ i a w)
    (hend : ∀ a w, C w → SameBut ops a0 a → (∀ i o d, ops[i]? = some o → o.dst = some d → Γ i (a.tmps.getD d undef) w) → Q .normal a w) :
    (Code.region id ops true).wp P Q a0 w := by
  refine wp_region_any hm (typed_any hs hC hΓ hop hend _ _ _ _ ?_ (by simp) h0 ⟨rfl, rfl, fun _ _ => rfl⟩ ?_)
  · exact Nat.le_trans (List.length_filter_le _ _) (by simp)
  · intro i o d hl
    simp [Array.getD] at hl
end
end Go.Cit

/- The reference's order of two rows: walked. -/
namespace Go.Proofs.YtofagofpeedfcaaGreat
open Go Go.RowKit Go.Cit

theorem sz1 : ∀ w, (sizeOf 5).run Tryz.prog w = .ok 1 w := by intro w; kernel_rfl

/-- -1, 0, 1, as the reference says it. -/
def ordB : List UInt8 → List UInt8 → Int
  | [], [] => 0
  | [], _ :: _ => -1
  | _ :: _, [] => 1
  | x :: xs, y :: ys => if x < y then -1 else if y < x then 1 else ordB xs ys

theorem ordB_drop (a b : List UInt8) (k : Nat) (ha : k < a.length) (hb : k < b.length) :
    ordB (a.drop k) (b.drop k) = if a[k] < b[k] then -1 else if b[k] < a[k] then 1 else ordB (a.drop (k + 1)) (b.drop (k + 1)) := by
  rw [List.drop_eq_getElem_cons ha, List.drop_eq_getElem_cons hb]; rfl

theorem lt_dec (x y : UInt8) : (decide ((x.toNat : Int) < (y.toNat : Int))) = decide (x < y) := by
  simp [UInt8.lt_iff_toNat_lt]

theorem ordB_end (a b : List UInt8) (k : Nat) (h : ¬ (k < a.length ∧ k < b.length)) (ha : k ≤ a.length) (hb : k ≤ b.length) :
    ordB (a.drop k) (b.drop k) = if a.length < b.length then -1 else if b.length < a.length then 1 else 0 := by
  by_cases h1 : k < a.length
  · have h2 : k = b.length := by omega
    rw [List.drop_eq_getElem_cons h1, List.drop_of_length_le (by omega : b.length ≤ k), if_neg (by omega), if_pos (by omega)]; rfl
  · by_cases h2 : k < b.length
    · rw [List.drop_eq_getElem_cons h2, List.drop_of_length_le (by omega : a.length ≤ k), if_pos (by omega)]; rfl
    · rw [List.drop_of_length_le (by omega : a.length ≤ k), List.drop_of_length_le (by omega : b.length ≤ k), if_neg (by omega), if_neg (by omega)]; rfl

set_option maxHeartbeats 1000000 in
theorem order_calls (w : World) (a0 a1 : Option Addr) (l m : List UInt8) (c0 c1 : Nat) (h0 : Row w a0 l c0) (h1 : Row w a1 m c1) :
    Calls Tryz.prog 38 #[.slice a0 l.length c0, .slice a1 m.length c1] w fun e w' => e = .returned (.int .i64 (ordB l m)) ∧ Drew w w' := by
  have b0 := h0.len_le
  have b1 := h1.len_le
  go_enter Tryz.func38, Tryz.ntmps38
  go_wp2
  go_loopw [5] (fun i wr => ∃ k n : Nat, k ≤ l.length ∧ k ≤ m.length ∧ i = .int .i64 k ∧ wr = w.drewN n ∧ ordB l m = ordB (l.drop k) (m.drop k)) (fun i _ => l.length - (intOf i).toNat)
  case atStart => exact ⟨0, 0, Nat.zero_le _, Nat.zero_le _, rfl, rfl, rfl⟩
  case round =>
    obtain ⟨k, n, hk0, hk1, rfl, rfl, he⟩ := hrel
    have HE := Lib.hid he
    clear he
    by_cases hlt : k < l.length ∧ k < m.length
    · obtain ⟨hl, hm⟩ := hlt
      have HD := Lib.hid (ordB_drop l m k hl hm)
      have i0 := h0.index Tryz.underlying31 sz1 k hl
      have i1 := h1.index Tryz.underlying31 sz1 k hm
      have e0 := h0.cell k hl
      have e1 := h1.cell k hm
      have d1 : decide ((k : Int) < (l.length : Int)) = true := by simp; omega
      have d2 : decide ((k : Int) < (m.length : Int)) = true := by simp; omega
      by_cases hx : l[k] < m[k]
      · have t1 : decide (l[k].toNat < m[k].toNat) = true := by simpa [UInt8.lt_iff_toNat_lt] using hx
        go_wp2
        go_quiet (fail)
        go_wp2
        go_ret
        exact ⟨ret_int (by rw [HE.out, HD.out, if_pos hx]), ((Drew.refl _).more _).more _⟩
      · have t1 : decide (l[k].toNat < m[k].toNat) = false := by simpa [UInt8.lt_iff_toNat_lt] using hx
        by_cases hy : m[k] < l[k]
        · have t2 : decide (m[k].toNat < l[k].toNat) = true := by simpa [UInt8.lt_iff_toNat_lt] using hy
          go_wp2
          go_quiet (fail)
          go_wp2
          go_quiet (fail)
          go_wp2
          go_ret
          exact ⟨ret_int (by rw [HE.out, HD.out, if_neg hx, if_pos hy]), (((Drew.refl _).more _).more _).more _⟩
        · have t2 : decide (m[k].toNat < l[k].toNat) = false := by simpa [UInt8.lt_iff_toNat_lt] using hy
          go_wp2
          go_quiet (fail)
          go_wp2
          go_quiet (fail)
          go_wp2
          go_roundw
          case rel => exact ⟨k + 1, _, by omega, by omega, by go_num, rfl, by rw [HE.out, HD.out, if_neg hx, if_neg hy]⟩
          case measure => simp [intOf]; omega
    · have HN := Lib.hid (ordB_end l m k hlt hk0 hk1)
      go_wp2
      all_goals
        go_ret
        refine ⟨ret_int ?_, (Drew.refl _).more _⟩
        rw [HE.out, HN.out]
        first | (rw [if_pos (by omega)]) | (rw [if_neg (by omega), if_pos (by omega)]) | (rw [if_neg (by omega), if_neg (by omega)])

theorem same_calls (w : World) (a0 a1 : Option Addr) (l m : List UInt8) (c0 c1 : Nat) (h0 : Row w a0 l c0) (h1 : Row w a1 m c1) :
    Calls Tryz.prog 12 #[.slice a0 l.length c0, .slice a1 m.length c1] w fun e w' => e = .returned (.bool (ordB l m == 0)) ∧ Drew w w' := by
  go_enter Tryz.func12, Tryz.ntmps12
  go_wp2_with (go_at_call 38; refine (order_calls _ _ _ _ _ _ _ h0 h1).mono ?_; rintro e w' ⟨rfl, hd⟩)
  go_ret
  exact ⟨rfl, hd⟩


/-! The plain law: 0 just if they are one. -/
theorem ordB_eq : ∀ a b : List UInt8, ordB a b = 0 ↔ a = b
  | [], [] => by simp [ordB]
  | [], _ :: _ => by simp [ordB]
  | _ :: _, [] => by simp [ordB]
  | x :: xs, y :: ys => by
    unfold ordB
    by_cases h : x < y
    · rw [if_pos h]; simp; intro he; subst he; exact absurd h (UInt8.lt_irrefl _)
    · rw [if_neg h]
      by_cases h' : y < x
      · rw [if_pos h']; simp; intro he; subst he; exact absurd h' (UInt8.lt_irrefl _)
      · rw [if_neg h', ordB_eq xs ys]
        have : x = y := UInt8.le_antisymm (UInt8.not_lt.1 h') (UInt8.not_lt.1 h)
        simp [this]
theorem ordB_beq (a b : List UInt8) : (ordB a b == 0) = decide (a = b) := by
  rw [Bool.eq_iff_iff]; simp [ordB_eq]
theorem ordB_self (l : List UInt8) : (ordB l l == 0) = true := by rw [ordB_beq]; simp
end Go.Proofs.YtofagofpeedfcaaGreat

