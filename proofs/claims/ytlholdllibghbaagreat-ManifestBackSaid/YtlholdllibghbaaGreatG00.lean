/- Texts of the proof, one behind the other: Num, Row, Own, Save. No condition but those that each names. -/
import Derived.WalkKit
import Derived.Lib.Hide
import Derived.BigQuiet
import Derived.Deep.QuietTactic
import Derived.Deep.DeepMust
import Derived.Deep.DeepFit
import Derived.Deep.RegionLaw
import Derived.BigRegion
import Derived.Laws.AppendOwnNone
import Derived.Deep.AppendLies
/- Machine integers of the walk, written as UInt8, UInt32, UInt64: what each operation of the walk leaves, as one such number. The operations bear names of their own, so that the walk does not open them. No condition. -/
namespace Go.Cit
open Go

@[reducible] def vb (x : UInt8) : Value := .int .u8 (x.toNat : Int)
@[reducible] def vw (x : UInt32) : Value := .int .u32 (x.toNat : Int)
@[reducible] def vq (x : UInt64) : Value := .int .u64 (x.toNat : Int)

def wXor (x y : UInt32) : UInt32 := x ^^^ y
def wAnd (x y : UInt32) : UInt32 := x &&& y
def wOr (x y : UInt32) : UInt32 := x ||| y
def wAdd (x y : UInt32) : UInt32 := x + y
def wSub (x y : UInt32) : UInt32 := x - y
def wMul (x y : UInt32) : UInt32 := x * y
def wDiv (x y : UInt32) : UInt32 := x / y
def wMod (x y : UInt32) : UInt32 := x % y
def wNot (x : UInt32) : UInt32 := ~~~ x
def wI (m : Int) : UInt32 := UInt32.ofNat m.toNat
def wOfB (x : UInt8) : UInt32 := x.toUInt32
def wOfQ (x : UInt64) : UInt32 := x.toUInt32
def wOfI (n : Int) : UInt32 := UInt32.ofNat (n % 4294967296).toNat
def qAdd (x y : UInt64) : UInt64 := x + y
def qSub (x y : UInt64) : UInt64 := x - y
def qMul (x y : UInt64) : UInt64 := x * y
def qDiv (x y : UInt64) : UInt64 := x / y
def qMod (x y : UInt64) : UInt64 := x % y
def qI (m : Int) : UInt64 := UInt64.ofNat m.toNat
def qOfB (x : UInt8) : UInt64 := x.toUInt64
def qOfW (x : UInt32) : UInt64 := x.toUInt64
def qOfI (n : Int) : UInt64 := UInt64.ofNat (n % 18446744073709551616).toNat
def bXor (x y : UInt8) : UInt8 := x ^^^ y
def bAnd (x y : UInt8) : UInt8 := x &&& y
def bOr (x y : UInt8) : UInt8 := x ||| y
def bAdd (x y : UInt8) : UInt8 := x + y
def bDiv (x y : UInt8) : UInt8 := x / y
def bMod (x y : UInt8) : UInt8 := x % y
def bI (m : Int) : UInt8 := UInt8.ofNat m.toNat
def bOfW (x : UInt32) : UInt8 := x.toUInt8
def bOfQ (x : UInt64) : UInt8 := x.toUInt8
theorem wrap_u8_eq (n : Int) : IntKind.u8.wrap n = n % 256 := by
  simp [IntKind.wrap, IntKind.bits, IntKind.signed]
theorem wrap_u32_eq (n : Int) : IntKind.u32.wrap n = n % 4294967296 := by
  simp [IntKind.wrap, IntKind.bits, IntKind.signed]
theorem wrap_u64_eq (n : Int) : IntKind.u64.wrap n = n % 18446744073709551616 := by
  simp [IntKind.wrap, IntKind.bits, IntKind.signed]

theorem b_lt (x : UInt8) : x.toNat < 256 := x.toNat_lt
theorem w_lt (x : UInt32) : x.toNat < 4294967296 := x.toNat_lt
theorem q_lt (x : UInt64) : x.toNat < 18446744073709551616 := x.toNat_lt

section words
variable (x y : UInt32)
theorem wI_nat (m : Int) (h0 : 0 ≤ m) (h : m < 4294967296) : ((wI m).toNat : Int) = m := by unfold wI; rw [UInt32.toNat_ofNat_of_lt' (show m.toNat < 4294967296 by omega)]; omega
theorem wrap_w_cast : IntKind.u32.wrap (x.toNat : Int) = x.toNat := by rw [wrap_u32_eq]; have := w_lt x; omega
theorem wrap_w_add : IntKind.u32.wrap ((x.toNat : Int) + y.toNat) = ((wAdd x y).toNat : Int) := by
  rw [wrap_u32_eq, wAdd, UInt32.toNat_add]; omega
theorem wrap_w_sub : IntKind.u32.wrap ((x.toNat : Int) - y.toNat) = ((wSub x y).toNat : Int) := by
  rw [wrap_u32_eq, wSub, UInt32.toNat_sub]; have := w_lt x; have := w_lt y; omega
theorem wrap_w_mul : IntKind.u32.wrap ((x.toNat : Int) * y.toNat) = ((wMul x y).toNat : Int) := by
  rw [wrap_u32_eq, wMul, UInt32.toNat_mul, ← Int.natCast_mul]; omega
theorem bits_w_xor : bits .xor .u32 (x.toNat : Int) y.toNat = ((wXor x y).toNat : Int) := by
  rw [u32_xor_nat _ _ (w_lt x) (w_lt y), wXor, UInt32.toNat_xor]
theorem bits_w_and : bits .and .u32 (x.toNat : Int) y.toNat = ((wAnd x y).toNat : Int) := by
  rw [u32_and_nat _ _ (w_lt x) (w_lt y), wAnd, UInt32.toNat_and]
theorem bits_w_or : bits .or .u32 (x.toNat : Int) y.toNat = ((wOr x y).toNat : Int) := by
  rw [u32_or_nat _ _ (w_lt x) (w_lt y), wOr, UInt32.toNat_or]
theorem bits_w_not : bits .xor .u32 IntKind.u32.max (x.toNat : Int) = ((wNot x).toNat : Int) := by
  have e : IntKind.u32.max = ((0xffffffff : UInt32).toNat : Int) := by decide
  have h : (0xffffffff : UInt32) ^^^ x = ~~~ x := by apply UInt32.eq_of_toBitVec_eq; simp; exact BitVec.allOnes_xor
  rw [e, bits_w_xor, wXor, wNot, h]
theorem bits_w_xor_lit (m : Int) (h0 : 0 ≤ m) (h : m < 4294967296) : bits .xor .u32 (x.toNat : Int) m = ((wXor x (wI m)).toNat : Int) := by
  rw [← bits_w_xor, wI_nat m h0 h]
theorem bits_w_and_lit (m : Int) (h0 : 0 ≤ m) (h : m < 4294967296) : bits .and .u32 (x.toNat : Int) m = ((wAnd x (wI m)).toNat : Int) := by
  rw [← bits_w_and, wI_nat m h0 h]
theorem wrap_w_mul_lit (m : Int) (h0 : 0 ≤ m) (h : m < 4294967296) : IntKind.u32.wrap (m * (x.toNat : Int)) = ((wMul (wI m) x).toNat : Int) := by
  rw [← wrap_w_mul, wI_nat m h0 h]
theorem w_tdiv_lit (m : Int) (h0 : 0 ≤ m) (h : m < 4294967296) : IntKind.u32.wrap ((x.toNat : Int).tdiv m) = ((wDiv x (wI m)).toNat : Int) := by
  rw [wDiv, UInt32.toNat_div, Int.natCast_ediv, wI_nat m h0 h, Int.tdiv_eq_ediv_of_nonneg (by omega), wrap_u32_eq]
  have h1 := w_lt x
  have h2 : (x.toNat : Int) / m ≤ x.toNat := Int.ediv_le_self _ (by omega)
  have h3 : 0 ≤ (x.toNat : Int) / m := Int.ediv_nonneg (by omega) (by omega)
  exact Int.emod_eq_of_lt h3 (Int.lt_of_le_of_lt h2 (by omega))
theorem w_ediv_lit (m : Int) (h0 : 0 ≤ m) (h : m < 4294967296) : ((x.toNat : Int) / m) = ((wDiv x (wI m)).toNat : Int) := by
  rw [wDiv, UInt32.toNat_div, Int.natCast_ediv, wI_nat m h0 h]
theorem w_tmod_lit (m : Int) (h0 : 0 ≤ m) (h : m < 4294967296) : ((x.toNat : Int).tmod m) = ((wMod x (wI m)).toNat : Int) := by
  rw [wMod, UInt32.toNat_mod, Int.natCast_emod, wI_nat m h0 h, Int.tmod_eq_emod_of_nonneg (by omega)]
theorem eq_w : ((x.toNat : Int) == (y.toNat : Int)) = (x == y) := by
  rw [Bool.eq_iff_iff]; simp only [beq_iff_eq]
  constructor
  · intro h; exact UInt32.toNat_inj.1 (by omega)
  · rintro rfl; rfl
theorem eq_w_lit (m : Int) (h0 : 0 ≤ m) (h : m < 4294967296) : ((x.toNat : Int) == m) = (x == wI m) := by
  rw [← eq_w, wI_nat m h0 h]
theorem wrap_b_w (x : UInt8) : IntKind.u32.wrap (x.toNat : Int) = ((wOfB x).toNat : Int) := by
  rw [wrap_u32_eq, wOfB, UInt8.toNat_toUInt32]; have := b_lt x; omega
theorem wrap_q_w (x : UInt64) : IntKind.u32.wrap (x.toNat : Int) = ((wOfQ x).toNat : Int) := by
  rw [wrap_u32_eq, wOfQ, UInt64.toNat_toUInt32]; omega
theorem wOfI_nat (n : Int) : ((wOfI n).toNat : Int) = n % 4294967296 := by
  unfold wOfI; rw [UInt32.toNat_ofNat_of_lt' (by show _ < 4294967296; omega)]; omega
end words

section quads
variable (x y : UInt64)
theorem qI_nat (m : Int) (h0 : 0 ≤ m) (h : m < 18446744073709551616) : ((qI m).toNat : Int) = m := by unfold qI; rw [UInt64.toNat_ofNat_of_lt' (show m.toNat < 18446744073709551616 by omega)]; omega
theorem wrap_q_cast : IntKind.u64.wrap (x.toNat : Int) = x.toNat := by rw [wrap_u64_eq]; have := q_lt x; omega
theorem wrap_q_add : IntKind.u64.wrap ((x.toNat : Int) + y.toNat) = ((qAdd x y).toNat : Int) := by
  rw [wrap_u64_eq, qAdd, UInt64.toNat_add]; omega
theorem wrap_q_sub : IntKind.u64.wrap ((x.toNat : Int) - y.toNat) = ((qSub x y).toNat : Int) := by
  rw [wrap_u64_eq, qSub, UInt64.toNat_sub]; have := q_lt x; have := q_lt y; omega
theorem wrap_q_mul : IntKind.u64.wrap ((x.toNat : Int) * y.toNat) = ((qMul x y).toNat : Int) := by
  rw [wrap_u64_eq, qMul, UInt64.toNat_mul, ← Int.natCast_mul]; omega
theorem wrap_q_mul_lit (m : Int) (h0 : 0 ≤ m) (h : m < 18446744073709551616) : IntKind.u64.wrap ((x.toNat : Int) * m) = ((qMul x (qI m)).toNat : Int) := by
  rw [← wrap_q_mul, qI_nat m h0 h]
theorem wrap_q_lit_mul (m : Int) (h0 : 0 ≤ m) (h : m < 18446744073709551616) : IntKind.u64.wrap (m * (x.toNat : Int)) = ((qMul (qI m) x).toNat : Int) := by
  rw [← wrap_q_mul, qI_nat m h0 h]
theorem q_tdiv_lit (m : Int) (h0 : 0 ≤ m) (h : m < 18446744073709551616) : IntKind.u64.wrap ((x.toNat : Int).tdiv m) = ((qDiv x (qI m)).toNat : Int) := by
  rw [qDiv, UInt64.toNat_div, Int.natCast_ediv, qI_nat m h0 h, Int.tdiv_eq_ediv_of_nonneg (by omega), wrap_u64_eq]
  have h1 := q_lt x
  have h2 : (x.toNat : Int) / m ≤ x.toNat := Int.ediv_le_self _ (by omega)
  have h3 : 0 ≤ (x.toNat : Int) / m := Int.ediv_nonneg (by omega) (by omega)
  exact Int.emod_eq_of_lt h3 (Int.lt_of_le_of_lt h2 (by omega))
theorem q_ediv_lit (m : Int) (h0 : 0 ≤ m) (h : m < 18446744073709551616) : ((x.toNat : Int) / m) = ((qDiv x (qI m)).toNat : Int) := by
  rw [qDiv, UInt64.toNat_div, Int.natCast_ediv, qI_nat m h0 h]
theorem q_tmod_lit (m : Int) (h0 : 0 ≤ m) (h : m < 18446744073709551616) : ((x.toNat : Int).tmod m) = ((qMod x (qI m)).toNat : Int) := by
  rw [qMod, UInt64.toNat_mod, Int.natCast_emod, qI_nat m h0 h, Int.tmod_eq_emod_of_nonneg (by omega)]
theorem eq_q : ((x.toNat : Int) == (y.toNat : Int)) = (x == y) := by
  rw [Bool.eq_iff_iff]; simp only [beq_iff_eq]
  constructor
  · intro h; exact UInt64.toNat_inj.1 (by omega)
  · rintro rfl; rfl
theorem wrap_b_q (x : UInt8) : IntKind.u64.wrap (x.toNat : Int) = ((qOfB x).toNat : Int) := by
  rw [wrap_u64_eq, qOfB, UInt8.toNat_toUInt64]; have := b_lt x; omega
theorem wrap_w_q (x : UInt32) : IntKind.u64.wrap (x.toNat : Int) = ((qOfW x).toNat : Int) := by
  rw [wrap_u64_eq, qOfW, UInt32.toNat_toUInt64]; have := w_lt x; omega
theorem qOfI_nat (n : Int) : ((qOfI n).toNat : Int) = n % 18446744073709551616 := by
  unfold qOfI; rw [UInt64.toNat_ofNat_of_lt' (by show _ < 18446744073709551616; omega)]; omega
end quads

section bytes
variable (x y : UInt8)
theorem bI_nat (m : Int) (h0 : 0 ≤ m) (h : m < 256) : ((bI m).toNat : Int) = m := by unfold bI; rw [UInt8.toNat_ofNat_of_lt' (show m.toNat < 256 by omega)]; omega
theorem wrap_b_cast : IntKind.u8.wrap (x.toNat : Int) = x.toNat := by rw [wrap_u8_eq]; have := b_lt x; omega
theorem wrap_b_add : IntKind.u8.wrap ((x.toNat : Int) + y.toNat) = ((bAdd x y).toNat : Int) := by
  rw [wrap_u8_eq, bAdd, UInt8.toNat_add]; omega
theorem wrap_b_add_lit (m : Int) (h0 : 0 ≤ m) (h : m < 256) : IntKind.u8.wrap ((x.toNat : Int) + m) = ((bAdd x (bI m)).toNat : Int) := by
  rw [← wrap_b_add, bI_nat m h0 h]
theorem bits_b_xor : bits .xor .u8 (x.toNat : Int) y.toNat = ((bXor x y).toNat : Int) := by
  rw [u8_xor_nat _ _ (b_lt x) (b_lt y), bXor, UInt8.toNat_xor]
theorem bits_b_or : bits .or .u8 (x.toNat : Int) y.toNat = ((bOr x y).toNat : Int) := by
  rw [u8_or_nat _ _ (b_lt x) (b_lt y), bOr, UInt8.toNat_or]
theorem bits_b_and_lit (m : Int) (h0 : 0 ≤ m) (h : m < 256) : bits .and .u8 (x.toNat : Int) m = ((bAnd x (bI m)).toNat : Int) := by
  rw [show bits .and .u8 (x.toNat : Int) m = bits .and .u8 (x.toNat : Int) ((bI m).toNat : Int) by rw [bI_nat m h0 h], u8_and_nat _ _ (b_lt x) (b_lt _), bAnd, UInt8.toNat_and]
theorem b_ediv_lit (m : Int) (h0 : 0 ≤ m) (h : m < 256) : ((x.toNat : Int) / m) = ((bDiv x (bI m)).toNat : Int) := by
  rw [bDiv, UInt8.toNat_div, Int.natCast_ediv, bI_nat m h0 h]
theorem b_tmod_lit (m : Int) (h0 : 0 ≤ m) (h : m < 256) : ((x.toNat : Int).tmod m) = ((bMod x (bI m)).toNat : Int) := by
  rw [bMod, UInt8.toNat_mod, Int.natCast_emod, bI_nat m h0 h, Int.tmod_eq_emod_of_nonneg (by omega)]
theorem eq_b : ((x.toNat : Int) == (y.toNat : Int)) = (x == y) := by
  rw [Bool.eq_iff_iff]; simp only [beq_iff_eq]
  constructor
  · intro h; exact UInt8.toNat_inj.1 (by omega)
  · rintro rfl; rfl
theorem ne_b : ((x.toNat : Int) != (y.toNat : Int)) = (x != y) := by
  unfold bne; rw [eq_b]
theorem eq_b_lit (m : Int) (h0 : 0 ≤ m) (h : m < 256) : ((x.toNat : Int) == m) = (x == bI m) := by
  rw [← eq_b, bI_nat m h0 h]
theorem wrap_q_b (x : UInt64) : IntKind.u8.wrap (x.toNat : Int) = ((bOfQ x).toNat : Int) := by
  rw [wrap_u8_eq, bOfQ, UInt64.toNat_toUInt8]; omega
theorem wrap_w_b (x : UInt32) : IntKind.u8.wrap (x.toNat : Int) = ((bOfW x).toNat : Int) := by
  rw [wrap_u8_eq, bOfW, UInt32.toNat_toUInt8]; omega
end bytes

attribute [go_sem] bits_w_not wrap_w_cast wrap_w_add wrap_w_sub wrap_w_mul bits_w_xor bits_w_and bits_w_or eq_w wrap_b_w wrap_q_w wrap_q_cast wrap_q_add wrap_q_sub wrap_q_mul eq_q wrap_b_q wrap_w_q wrap_b_cast wrap_b_add bits_b_xor bits_b_or eq_b ne_b wrap_q_b wrap_w_b
attribute [go_sem low] bits_w_xor_lit bits_w_and_lit wrap_w_mul_lit w_tdiv_lit w_ediv_lit w_tmod_lit eq_w_lit wrap_q_mul_lit wrap_q_lit_mul q_tdiv_lit q_ediv_lit q_tmod_lit wrap_b_add_lit bits_b_and_lit b_ediv_lit b_tmod_lit eq_b_lit
end Go.Cit

/- Slices of bytes that are read: what the walk needs of them. No condition. -/
namespace Go.Cit
open Go Go.RowKit

def ad (a : Option Addr) (i : Nat) : Addr := match a with | some x => ⟨x.block, x.off + i, none⟩ | none => ⟨0, i, none⟩

structure Row (w : World) (a : Option Addr) (l : List UInt8) (cap : Nat) : Prop where
  le : l.length ≤ cap
  top : cap ≤ maxLen
  nil : a = none → cap = 0
  spot : l ≠ [] → ∃ b off, a = some ⟨b, off, none⟩
  cell : ∀ i (h : i < l.length), w.cell? (ad a i) = some (vb l[i])

theorem Row.nil_ (w : World) : Row w none [] 0 := ⟨Nat.le_refl _, Nat.zero_le _, fun _ => rfl, fun h => (h rfl).elim, fun i h => by simp at h⟩

theorem Row.len_le {w a l cap} (h : Row w a l cap) : l.length ≤ 9223372036854775807 := by
  have h1 := h.le; have h2 := h.top; unfold maxLen at h2; omega

theorem Row.blk {w a l cap} (h : Row w a l cap) {i : Nat} (hi : i < l.length) : (ad a i).block < w.heap.size :=
  World.block_lt_of_cell? w _ (h.cell i hi)

theorem Row.stay {w w' : World} {a l cap} (h : Row w a l cap) (hb : Below w.heap.size w w') : Row w' a l cap :=
  ⟨h.le, h.top, h.nil, h.spot, fun i hi => (hb.cell (h.blk hi)).trans (h.cell i hi)⟩

theorem Row.drew {w : World} {a l cap} (h : Row w a l cap) : Row w.drew a l cap :=
  ⟨h.le, h.top, h.nil, h.spot, fun i hi => h.cell i hi⟩
theorem Row.drewN {w : World} {a l cap} (h : Row w a l cap) (n : Nat) : Row (w.drewN n) a l cap :=
  ⟨h.le, h.top, h.nil, h.spot, fun i hi => h.cell i hi⟩

theorem ret_int {k : IntKind} {a b : Int} (h : a = b) : Ending.returned (.int k a) = .returned (.int k b) := by rw [h]
theorem ret_bool {a b : Bool} (h : a = b) : Ending.returned (.bool a) = .returned (.bool b) := by rw [h]

theorem below_drewN (B : Nat) (w : World) (n : Nat) : Below B w (w.drewN n) := ⟨rfl, rfl, rfl, Nat.le_refl _, fun _ _ => rfl⟩

/-! A slice of a row. -/
theorem Row.sub {w a l cap} (h : Row w a l cap) (lo hi mx : Nat) (h1 : lo ≤ hi) (h2 : hi ≤ l.length) (h3 : hi ≤ mx) (h4 : mx ≤ cap) : Row w (if mx = lo then a else a.map (·.add (lo * 1))) ((l.take hi).drop lo) (mx - lo) := by
  have hlen : ((l.take hi).drop lo).length = hi - lo := by rw [List.length_drop, List.length_take]; omega
  have htop := h.top
  refine ⟨by omega, by omega, fun hn => ?_, fun hne => ?_, fun i hi' => ?_⟩
  · have hn' : a = none := by
      split at hn
      · exact hn
      · simpa using hn
    have := h.nil hn'
    omega
  · have hlt : lo < hi := by
      rcases Nat.lt_or_ge lo hi with h | h
      · exact h
      · exact absurd (List.eq_nil_of_length_eq_zero (by omega)) hne
    obtain ⟨b, off, rfl⟩ := h.spot (by intro h0; simp [h0] at h2; omega)
    rw [if_neg (by omega)]
    refine ⟨b, off + lo, ?_⟩
    by_cases h0 : lo = 0
    · subst h0; simp [Addr.add]
    · simp [Addr.add, h0]
  · rw [hlen] at hi'
    have hl : lo + i < l.length := by omega
    obtain ⟨b, off, rfl⟩ := h.spot (by intro h0; simp [h0] at hl)
    rw [if_neg (by omega)]
    have hc := h.cell (lo + i) hl
    have e : ad (Option.map (·.add (lo * 1)) (some (⟨b, off, none⟩ : Addr))) i = ad (some ⟨b, off, none⟩) (lo + i) := by
      by_cases h0 : lo = 0
      · subst h0; simp [Addr.add, ad]
      · simp [Addr.add, ad, h0, Nat.add_assoc]
    rw [e, hc]
    simp

section
variable {P : Program} {T E : TypeId} (hT : P.underlying T = some (.slice E)) (hE : ∀ w, (sizeOf E).run P w = .ok 1 w)
include hT hE
theorem Row.index {w a l cap} (h : Row w a l cap) (i : Nat) (hi : i < l.length) :
    ∀ w, (Instr.indexAt T (.slice a l.length cap) (.int .i64 (i : Int))).run P w = .ok (.pointer (some (ad a i))) w := by
  intro w
  obtain ⟨b, off, rfl⟩ := h.spot (by intro h0; simp [h0] at hi)
  have he : P.elem T = E := by simp [Program.elem, hT]
  rw [run_indexAt_slice w T _ _ _ _ _ (by rw [he]; exact hT), if_pos (by omega), he, hE]
  simp only [Result.andThen, ad, Addr.add]
  by_cases h0 : i = 0
  · subst h0; simp
  · simp [h0]

theorem Row.from_ {w a l cap} (h : Row w a l cap) (lo : Nat) (h1 : lo ≤ l.length) : ∃ a' m cap', m = l.drop lo ∧
    (∀ w, (Instr.sliceAt T (.slice a l.length cap) (some (.int .i64 (lo : Int))) none none).run P w = .ok (.slice a' m.length cap') w) ∧ Row w a' m cap' := by
  have he : P.elem T = E := by simp [Program.elem, hT]
  refine ⟨_, _, _, rfl, fun w => ?_, by simpa using h.sub lo l.length cap h1 (Nat.le_refl _) h.le (Nat.le_refl _)⟩
  rw [run_sliceAt_slice _ _ _ _ _ _ (by rw [he]; exact hT), run_slice_l w T a _ _ (by rw [he]; exact hT) .i64 lo (by omega) (by omega), he, hE]
  simp [Result.andThen, sliced]
theorem Row.upto {w a l cap} (h : Row w a l cap) (hi : Nat) (h1 : hi ≤ l.length) : ∃ a' m cap', m = l.take hi ∧
    (∀ w, (Instr.sliceAt T (.slice a l.length cap) none (some (.int .i64 (hi : Int))) none).run P w = .ok (.slice a' m.length cap') w) ∧ Row w a' m cap' := by
  have he : P.elem T = E := by simp [Program.elem, hT]
  have hle := h.le
  refine ⟨_, _, _, rfl, fun w => ?_, by simpa using h.sub 0 hi cap (Nat.zero_le _) h1 (by omega) (Nat.le_refl _)⟩
  rw [run_sliceAt_slice _ _ _ _ _ _ (by rw [he]; exact hT), run_slice_h w T a _ _ (by rw [he]; exact hT) .i64 hi (by omega) (by omega), he, hE]
  simp [Result.andThen, sliced]
  omega
theorem Row.part {w a l cap} (h : Row w a l cap) (lo hi : Nat) (h0 : lo ≤ hi) (h1 : hi ≤ l.length) : ∃ a' m cap', m = (l.take hi).drop lo ∧
    (∀ w, (Instr.sliceAt T (.slice a l.length cap) (some (.int .i64 (lo : Int))) (some (.int .i64 (hi : Int))) none).run P w = .ok (.slice a' m.length cap') w) ∧ Row w a' m cap' := by
  have he : P.elem T = E := by simp [Program.elem, hT]
  have hle := h.le
  refine ⟨_, _, _, rfl, fun w => ?_, h.sub lo hi cap h0 h1 (by omega) (Nat.le_refl _)⟩
  rw [run_sliceAt_slice _ _ _ _ _ _ (by rw [he]; exact hT), run_slice_lh w T a _ _ (by rw [he]; exact hT) .i64 .i64 lo hi (by omega) (by omega) (by omega), he, hE]
  simp [Result.andThen, sliced]
  omega
end
end Go.Cit

/- Slices of bytes that a call makes itself: what is known of them, and the laws of append, make at them. No condition. -/
namespace Go.Cit
open Go Go.RowKit

structure ByteTypes (P : Program) (T E : TypeId) : Prop where
  slice : P.underlying T = some (.slice E)
  sz : ∀ w, (sizeOf E).run P w = .ok 1 w
  info : (P.info? E).map (fun i => (i.zero, i.size, i.bytes)) = some (some (.int .u8 0), 1, 1)

structure Own (E base : Nat) (w : World) (a : Option Addr) (l : List UInt8) (cap : Nat) : Prop where
  row : w.ownsRow base E 1 (.slice a l.length cap) l.length (l.map vb)

def blk (a : Option Addr) : Option Nat := a.map (·.block)

theorem ownBlock_slice (a : Option Addr) (n c : Nat) : (Value.slice a n c).ownBlock = blk a := by cases a <;> rfl

theorem Own.nil (E base : Nat) (w : World) : Own E base w none [] 0 := ⟨World.ownsRow_nil w base E 1⟩

theorem Own.form {E base w a l cap} (h : Own E base w a l cap) : (a = none ∧ l = [] ∧ cap = 0) ∨
    ∃ g cur, a = some ⟨g, 0, none⟩ ∧ base ≤ g ∧ w.heap[g]? = some (.cells cur E (0, 0)) ∧ l.length ≤ cap ∧ cap ≤ maxLen ∧ cur.size = cap ∧ cur.toList.take l.length = l.map vb := by
  rcases h.row.2 with ⟨hv, hn⟩ | ⟨g, c, cur, hv, hb, hg, hle, hm, hs, ht⟩
  · injection hv with h1 h2 h3
    exact .inl ⟨h1, List.eq_nil_of_length_eq_zero hn, h3⟩
  · injection hv with h1 h2 h3
    subst h3
    exact .inr ⟨g, cur, h1, hb, hg, hle, hm, by simpa using hs, by simpa using ht⟩

theorem Own.isRow {E base w a l cap} (h : Own E base w a l cap) : Row w a l cap := by
  rcases h.form with ⟨rfl, rfl, rfl⟩ | ⟨g, cur, rfl, hb, hg, hle, hm, hs, ht⟩
  · exact Row.nil_ w
  · refine ⟨hle, hm, fun h => by simp at h, fun _ => ⟨g, 0, rfl⟩, fun i hi => ?_⟩
    have e1 : (cur.toList.take l.length)[i]? = some (vb l[i]) := by rw [ht]; simp [hi]
    rw [List.getElem?_take, if_pos hi] at e1
    simp only [ad, World.cell?, hg, Nat.zero_add]
    simpa using e1

theorem Own.blk_ge {E base w a l cap} (h : Own E base w a l cap) {g} (hg : blk a = some g) : base ≤ g ∧ g < w.heap.size :=
  h.row.lt g (by rw [ownBlock_slice]; exact hg)

theorem Own.kept {E base w w' a l cap} {row : Option Nat} (h : Own E base w a l cap) (hg : w.grownBy w' row) (hne : blk a = none ∨ blk a ≠ row) : Own E base w' a l cap :=
  ⟨h.row.kept hg (by rw [ownBlock_slice]; exact hne)⟩
theorem Own.alloc {E base w a l cap} (h : Own E base w a l cap) (o : Obj) : Own E base (w.alloc o) a l cap := ⟨h.row.alloc o⟩
theorem Own.drew {E base w a l cap} (h : Own E base w a l cap) : Own E base w.drew a l cap := ⟨h.row.drew⟩
theorem Own.drewN {E base w a l cap} (h : Own E base w a l cap) (n : Nat) : Own E base (w.drewN n) a l cap := ⟨h.row⟩
theorem Own.stay {E base w w' a l cap} (h : Own E base w a l cap) (hb : Below w.heap.size w w') : Own E base w' a l cap := by
  refine ⟨h.row.1, ?_⟩
  rcases h.row.2 with hn | ⟨g, c, cur, hv, hbg, hg, rest⟩
  · exact .inl hn
  · refine .inr ⟨g, c, cur, hv, hbg, ?_, rest⟩
    rw [hb.block g (Array.getElem?_eq_some_iff.1 hg).1]; exact hg
theorem Own.low {E base base' w a l cap} (h : Own E base w a l cap) (hb : base' ≤ base) : Own E base' w a l cap := by
  refine ⟨h.row.1, ?_⟩
  rcases h.row.2 with hn | ⟨g, c, cur, hv, hbg, rest⟩
  · exact .inl hn
  · exact .inr ⟨g, c, cur, hv, by omega, rest⟩

theorem Own.frozen {E base w a l cap} (h : Own E base w a l cap) (i : Nat) (hi : i < l.length) : w.frozen? (ad a i) = false := by
  rcases h.form with ⟨rfl, rfl, rfl⟩ | ⟨g, cur, rfl, hb, hg, _⟩
  · simp at hi
  · simpa [ad] using frozen_of_row w g i cur E hg
theorem Own.stored {E base w a l cap} (h : Own E base w a l cap) (i : Nat) (hi : i < l.length) (b : UInt8) :
    Own E base (w.setCell (ad a i) (vb b)) a (l.set i b) cap ∧ w.grownBy (w.setCell (ad a i) (vb b)) (blk a) := by
  rcases h.form with ⟨rfl, rfl, rfl⟩ | ⟨g, cur, rfl, hb, hg, _⟩
  · simp at hi
  · have hs := h.row.stored i (vb b)
    simp only [ad, Nat.zero_add]
    refine ⟨⟨?_⟩, hs.2⟩
    have := hs.1
    rwa [List.length_set, List.map_set]
structure Mine (base : Nat) (w : World) (a : Option Addr) (l : List UInt8) (cap : Nat) : Prop where
  row : Row w a l cap
  new : ∀ g, blk a = some g → base ≤ g
  free : ∀ i, i < l.length → w.frozen? (ad a i) = false
theorem Own.mine {E base w a l cap} (h : Own E base w a l cap) : Mine base w a l cap := ⟨h.isRow, fun _ hg => (h.blk_ge hg).1, fun i hi => h.frozen i hi⟩
theorem Mine.nil (base : Nat) (w : World) : Mine base w none [] 0 := ⟨Row.nil_ w, fun g h => by simp [blk] at h, fun i h => by simp at h⟩
theorem Mine.low {base base' w a l cap} (h : Mine base w a l cap) (hb : base' ≤ base) : Mine base' w a l cap := ⟨h.row, fun g hg => Nat.le_trans hb (h.new g hg), h.free⟩
theorem Mine.stay {base w w' a l cap} (h : Mine base w a l cap) (hb : Below w.heap.size w w') : Mine base w' a l cap :=
  ⟨h.row.stay hb, h.new, fun i hi => (hb.frozen (h.row.blk hi)).trans (h.free i hi)⟩
theorem Mine.drewN {base w a l cap} (h : Mine base w a l cap) (n : Nat) : Mine base (w.drewN n) a l cap := ⟨h.row.drewN n, h.new, h.free⟩
theorem Mine.stored {base w a l cap} (h : Mine base w a l cap) (i : Nat) (hi : i < l.length) (b : UInt8) :
    Mine base (w.setCell (ad a i) (vb b)) a (l.set i b) cap ∧ w.grownBy (w.setCell (ad a i) (vb b)) (blk a) ∧ Below base w (w.setCell (ad a i) (vb b)) := by
  obtain ⟨g, off, rfl⟩ := h.row.spot (by intro h0; simp [h0] at hi)
  refine ⟨⟨⟨by rw [List.length_set]; exact h.row.le, h.row.top, h.row.nil, fun _ => ⟨g, off, rfl⟩, fun j hj => ?_⟩, h.new, fun j hj => ?_⟩, ⟨rfl, rfl, rfl, by simp [World.setCell], fun k hk hne => Below.heap_setCell _ _ _ _ (fun e => hne (by rw [e]; rfl))⟩, (Below.refl _ _).setCell (h.new g rfl) _⟩
  · rw [List.length_set] at hj
    have hc := h.row.cell j hj
    by_cases e : i = j
    · subst e
      rw [World.cell?_setCell_same' _ _ _ (by rw [hc]; rfl)]
      rw [List.getElem_set_self]
    · rw [World.cell?_setCell_other _ _ _ _ (by simp [ad] <;> omega), hc]
      simp [e]
  · rw [List.length_set] at hj
    have hf := h.free j hj
    simp only [World.frozen?, World.setCell, ad, Array.getElem?_modify] at hf ⊢
    cases hh : w.heap[g]? with
    | none => simp
    | some o =>
      rw [hh] at hf
      cases o <;> simp_all
theorem grown_below {w w' : World} {row : Option Nat} {base : Nat} (hg : w.grownBy w' row) (hb : base ≤ w.heap.size) (hr : ∀ k, row = some k → base ≤ k) : Below base w w' :=
  (Below.refl _ _).grown hg hb hr

section
variable {P : Program} {T E : TypeId}

theorem wp_make_bytes (hBT : ByteTypes P T E) {w : World} {ops : Array Oper} {rest : List Oper} {o : Oper} {act : Act} {Q : Exit → Act → World → Prop} (x y : Operand) (hgd : o.guard = none)
    (ho : o.op = .makeSlice T x y) (n : Nat) (k1 k2 : IntKind) {N : Int} (hx : act.eval x = .int k1 N) (hy : act.eval y = .int k2 N) (hN : N = (n : Int)) (hn : n ≤ 1000000000)
    (h : ∀ w', Own E w.heap.size w' (some ⟨w.heap.size, 0, none⟩) (List.replicate n 0) n → w.grownBy w' none → w.heap.size < w'.heap.size → wpList P ops Q rest (act.put o.dst (.slice (some ⟨w.heap.size, 0, none⟩) n n)) w') : wpList P ops Q (o :: rest) act w := by
  subst hN
  obtain ⟨i, hi, hz0, hz1, hz2⟩ := info_parts hBT.info
  refine wpList_make_full w hgd x y T ho w.heap.size E i (.int .u8 0) 1 hBT.slice hi hz0 hz1 k1 k2 n n n hx hy rfl rfl (by rw [hz2]; omega) (by unfold maxLen; omega) (Nat.le_refl _) ?_
  intro w' hown hgr
  have e1 : (madeCells (Value.int .u8 0).cells (n * 1)).toList = (List.replicate n (0 : UInt8)).map vb := by
    rw [show (Value.int .u8 0).cells = #[.int .u8 0] from rfl, toList_madeCells_one, Nat.mul_one, List.map_replicate]; rfl
  rw [e1] at hown
  have hO : Own E w.heap.size w' (some ⟨w.heap.size, 0, none⟩) (List.replicate n 0) n := ⟨by simpa using hown⟩
  exact h w' hO hgr (hO.blk_ge (g := w.heap.size) rfl).2

theorem wp_append_row (hBT : ByteTypes P T E) {w : World} {ops : Array Oper} {rest : List Oper} {o : Oper} {act : Act} {Q : Exit → Act → World → Prop} (s x : Operand) (hgd : o.guard = none)
    (ho : o.op = .call { callee := .builtin .append, args := #[s, x], argTypes := #[T, T] }) {base : Nat}
    {a b : Option Addr} {l m : List UInt8} {cap c : Nat} (hown : Own E base w a l cap) (hm : Row w b m c) (hlen : l.length + m.length ≤ 1000000000) (hbase : base ≤ w.heap.size)
    (hs : act.eval s = .slice a l.length cap) (hx : act.eval x = .slice b m.length c)
    (h : ∀ a' cap' w', Own E base w' a' (l ++ m) cap' → w.grownBy w' (blk a) → wpList P ops Q rest (act.put o.dst (.slice a' (l ++ m).length cap')) w') : wpList P ops Q (o :: rest) act w := by
  obtain ⟨i, hi, hz0, hz1, hz2⟩ := info_parts hBT.info
  cases b with
  | none =>
    have hc := hm.nil rfl
    have hle := hm.le
    obtain rfl : m = [] := List.eq_nil_of_length_eq_zero (by omega)
    subst hc
    refine wpList_append_own_none hgd s x T ho base E i 1 hBT.slice hi (.slice a l.length cap) l.length (l.map vb) hs hown.row hx ?_
    have hk := h a cap w
    rw [List.append_nil] at hk
    exact hk hown ⟨rfl, rfl, rfl, Nat.le_refl _, fun _ _ _ => rfl⟩
  | some p =>
    refine wpList_append_own w hgd s x T ho base E i (.int .u8 0) 1 1 hBT.slice hi hz0 hz1 hz2 rfl (by decide) _ l.length (l.map vb) hs hown.row p m.length c (m.map vb) hx (by simp) ?_ ?_ ?_ ?_ hbase ?_
    · intro j u hu
      have hj : j < m.length := by
        have := (List.getElem?_eq_some_iff.1 hu).1
        simpa using this
      obtain ⟨g, off, e⟩ := hm.spot (by intro h0; simp [h0] at hj)
      injection e with e
      subst e
      have ea : (⟨g, off, none⟩ : Addr).add j = ad (some ⟨g, off, none⟩) j := by unfold Addr.add ad; split <;> simp_all
      rw [ea, hm.cell j hj]
      simpa [hj] using hu
    · intro u hu
      obtain ⟨y, _, rfl⟩ := List.mem_map.1 hu
      rfl
    · unfold maxLen; omega
    · omega
    · intro v' w' hown' hgr hnil
      rw [ownBlock_slice] at hgr
      have hv' : ∃ a' cap', v' = .slice a' (l ++ m).length cap' := by
        rcases hown'.2 with ⟨hv, hn⟩ | ⟨g', c', cur, hv, _⟩
        · exact ⟨none, 0, by rw [hv]; simp; omega⟩
        · exact ⟨some ⟨g', 0, none⟩, c', by rw [hv]; simp⟩
      obtain ⟨a', cap', rfl⟩ := hv'
      exact h a' cap' w' ⟨by simpa using hown'⟩ hgr

theorem own_lit (w : World) (cs : Array Value) (E : TypeId) (l : List UInt8) (h : cs = (l.map vb).toArray) (hl : l.length ≤ 1000000000) :
    Own E w.heap.size (w.alloc (.cells cs E)) (some ⟨w.heap.size, 0, none⟩) l l.length := by
  refine ⟨?_⟩
  subst h
  have := World.ownsRow_lit (base := w.heap.size) (e := E) (size := 1) w (l.map vb).toArray l.length (Nat.le_refl _) (by unfold maxLen; omega) (by simp)
  simpa using this

end
theorem row_blk {w : World} {g : Nat} {cs : Array Value} {E : TypeId} {fr : Nat × Nat} (l : List UInt8) (hg : w.heap[g]? = some (.cells cs E fr)) (h : cs = (l.map vb).toArray) (hl : l.length ≤ 1000000000) :
    Row w (some ⟨g, 0, none⟩) l l.length := by
  refine ⟨Nat.le_refl _, by unfold maxLen; omega, fun h => by simp at h, fun _ => ⟨g, 0, rfl⟩, fun i hi => ?_⟩
  simp only [ad, Nat.zero_add]
  rw [cell_of_row w g i cs E fr hg, h]
  simp [hi]
theorem row_new (w : World) (cs : Array Value) (E : TypeId) (fr : Nat × Nat) (l : List UInt8) (h : cs = (l.map vb).toArray) (hl : l.length ≤ 1000000000) :
    Row (w.alloc (.cells cs E fr)) (some ⟨w.heap.size, 0, none⟩) l l.length := row_blk l (heap_alloc_new w _) h hl

theorem toX {P : Program} {f : FuncId} {args : Array Value} {w w0 : World} {L : List UInt8} {B B' : Nat} (h : Calls P f args w fun e w' => ∃ a cp, e = .returned (.slice a L.length cp) ∧ Mine B w' a L cp ∧ Below B' w0 w') :
    Calls P f args w fun e w' => ∃ a X cp, Hid (X = L) ∧ e = .returned (.slice a X.length cp) ∧ Mine B w' a X cp ∧ Below B' w0 w' :=
  h.mono fun _ _ ⟨a, cp, h1, h2, h3⟩ => ⟨a, L, cp, rfl, h1, h2, h3⟩
theorem toXn {P : Program} {f : FuncId} {args : Array Value} {w w0 : World} {L : List UInt8} {n E B B' : Nat} (hn : L.length = n) (h : Calls P f args w fun e w' => ∃ a cp, e = .returned (.slice a n cp) ∧ Own E B w' a L cp ∧ Below B' w0 w') :
    Calls P f args w fun e w' => ∃ a X cp, Hid (X = L) ∧ e = .returned (.slice a X.length cp) ∧ Mine B w' a X cp ∧ Below B' w0 w' :=
  h.mono fun _ _ ⟨a, cp, h1, h2, h3⟩ => ⟨a, L, cp, rfl, by rw [hn]; exact h1, h2.mine, h3⟩
end Go.Cit

/- What stays in a call, block by block; append of a row as a step of a region that draws its order. No condition. -/
namespace Go.Cit
open Go Go.RowKit

structure Save (S : Nat → Prop) (w w' : World) : Prop where
  os : w'.os = w.os
  tape : w'.tape = w.tape
  output : w'.output = w.output
  size : w.heap.size ≤ w'.heap.size
  block : ∀ k, k < w.heap.size → S k → w'.heap[k]? = w.heap[k]?

theorem Save.refl (S : Nat → Prop) (w : World) : Save S w w := ⟨rfl, rfl, rfl, Nat.le_refl _, fun _ _ _ => rfl⟩
theorem Save.trans {S : Nat → Prop} {a b c : World} (h : Save S a b) (k : Save S b c) : Save S a c :=
  ⟨k.os.trans h.os, k.tape.trans h.tape, k.output.trans h.output, Nat.le_trans h.size k.size, fun i hi hs => (k.block i (Nat.lt_of_lt_of_le hi h.size) hs).trans (h.block i hi hs)⟩
theorem Save.less {S T : Nat → Prop} {w w' : World} (h : Save S w w') (hS : ∀ k, k < w.heap.size → T k → S k) : Save T w w' := ⟨h.os, h.tape, h.output, h.size, fun k hk hs => h.block k hk (hS k hk hs)⟩
theorem Save.of {S : Nat → Prop} {w w' : World} (h : Below w.heap.size w w') : Save S w w' := ⟨h.os, h.tape, h.output, h.size, fun k hk _ => h.block k hk⟩
theorem Save.below {S : Nat → Prop} {w w' : World} {B : Nat} (h : Save S w w') (hB : B ≤ w.heap.size) (hS : ∀ k, k < B → S k) : Below B w w' := ⟨h.os, h.tape, h.output, h.size, fun k hk => h.block k (Nat.lt_of_lt_of_le hk hB) (hS k hk)⟩
theorem Save.set {w : World} {b i : Nat} {v : Value} : Save (· ≠ b) w (w.setCell ⟨b, i, none⟩ v) := ⟨rfl, rfl, rfl, by simp [World.setCell], fun k _ hs => Below.heap_setCell _ _ _ _ hs⟩
theorem Save.grown {w w' : World} {row : Option Nat} (h : w.grownBy w' row) : Save (fun k => some k ≠ row) w w' := ⟨h.os, h.tape, h.output, h.size, h.block⟩
theorem Save.alloc {S : Nat → Prop} (w : World) (o : Obj) : Save S w (w.alloc o) := .of ((Below.refl _ _).alloc (Nat.le_refl _) _)
theorem Save.drewN {S : Nat → Prop} (w : World) (n : Nat) : Save S w (w.drewN n) := ⟨rfl, rfl, rfl, Nat.le_refl _, fun _ _ _ => rfl⟩
theorem Save.drew {S : Nat → Prop} {a w : World} (h : Save S a w) : Save S a w.drew := ⟨h.os, h.tape, h.output, h.size, h.block⟩

theorem Save.cell {S : Nat → Prop} {w w' : World} (h : Save S w w') {p : Addr} (hp : p.block < w.heap.size) (hs : S p.block) : w'.cell? p = w.cell? p := World.cell?_of_block (w := w) (h.block p.block hp hs)
theorem Save.frozen {S : Nat → Prop} {w w' : World} (h : Save S w w') {p : Addr} (hp : p.block < w.heap.size) (hs : S p.block) : w'.frozen? p = w.frozen? p := World.frozen?_of_block (w := w) (h.block p.block hp hs)

theorem Row.save {S : Nat → Prop} {w w' : World} {a l cap} (r : Row w a l cap) (h : Save S w w') (hs : ∀ g, Go.Cit.blk a = some g → S g) : Row w' a l cap := by
  refine ⟨r.le, r.top, r.nil, r.spot, fun i hi => ?_⟩
  obtain ⟨g, off, rfl⟩ := r.spot (by intro h0; simp [h0] at hi)
  exact (h.cell (r.blk hi) (hs g rfl)).trans (r.cell i hi)
theorem Row.save' {S : Nat → Prop} {w w' : World} {a l cap} (r : Row w a l cap) (h : Save S w w') (hs : l ≠ [] → ∀ g, Go.Cit.blk a = some g → S g) : Row w' a l cap := by
  by_cases h0 : l = []
  · subst h0
    exact ⟨r.le, r.top, r.nil, r.spot, fun i hi => by simp at hi⟩
  · exact r.save h (hs h0)
theorem Own.save {S : Nat → Prop} {E base} {w w' : World} {a l cap} (r : Own E base w a l cap) (h : Save S w w') (hs : ∀ g, blk a = some g → S g) : Own E base w' a l cap := by
  refine ⟨r.row.1, ?_⟩
  rcases r.row.2 with hn | ⟨g, c, cur, hv, hbg, hg, rest⟩
  · exact .inl hn
  · injection hv with h1 h2 h3
    subst h1
    refine .inr ⟨g, c, cur, by rw [h2, h3], hbg, ?_, rest⟩
    rw [h.block g (Array.getElem?_eq_some_iff.1 hg).1 (hs g rfl)]; exact hg
theorem Mine.save {S : Nat → Prop} {base} {w w' : World} {a l cap} (r : Mine base w a l cap) (h : Save S w w') (hs : ∀ g, blk a = some g → S g) : Mine base w' a l cap := by
  refine ⟨r.row.save h hs, r.new, fun i hi => ?_⟩
  obtain ⟨g, off, rfl⟩ := r.row.spot (by intro h0; simp [h0] at hi)
  exact (h.frozen (r.row.blk hi) (hs g rfl)).trans (r.free i hi)

theorem blk_sub (a : Option Addr) (p : Prop) [Decidable p] (k : Nat) : blk (if p then a else a.map (·.add k)) = blk a := by
  split
  · rfl
  · cases a with
    | none => rfl
    | some x => simp [blk, Addr.add]; split <;> rfl
section
variable {P : Program} {T E : TypeId} (hT : P.underlying T = some (.slice E)) (hE : ∀ w, (sizeOf E).run P w = .ok 1 w)
include hT hE
theorem Row.from2 {w a l cap} (h : Row w a l cap) (lo : Nat) (h1 : lo ≤ l.length) : ∃ a' m cap', m = l.drop lo ∧
    (∀ w, (Instr.sliceAt T (.slice a l.length cap) (some (.int .i64 (lo : Int))) none none).run P w = .ok (.slice a' m.length cap') w) ∧ Row w a' m cap' ∧ Go.Cit.blk a' = Go.Cit.blk a := by
  have he : P.elem T = E := by simp [Program.elem, hT]
  refine ⟨_, _, _, rfl, fun w => ?_, by simpa using h.sub lo l.length cap h1 (Nat.le_refl _) h.le (Nat.le_refl _), blk_sub _ _ _⟩
  rw [run_sliceAt_slice _ _ _ _ _ _ (by rw [he]; exact hT), run_slice_l w T a _ _ (by rw [he]; exact hT) .i64 lo (by omega) (by omega), he, hE]
  simp [Result.andThen, sliced]
theorem Row.upto2 {w a l cap} (h : Row w a l cap) (hi : Nat) (h1 : hi ≤ l.length) : ∃ a' m cap', m = l.take hi ∧
    (∀ w, (Instr.sliceAt T (.slice a l.length cap) none (some (.int .i64 (hi : Int))) (some (.int .i64 (hi : Int)))).run P w = .ok (.slice a' m.length cap') w) ∧ Row w a' m cap' ∧ Go.Cit.blk a' = Go.Cit.blk a := by
  have he : P.elem T = E := by simp [Program.elem, hT]
  have hle := h.le
  refine ⟨_, _, _, rfl, fun w => ?_, by simpa using h.sub 0 hi hi (Nat.zero_le _) h1 (Nat.le_refl _) (by omega), blk_sub _ _ _⟩
  rw [run_sliceAt_slice _ _ _ _ _ _ (by rw [he]; exact hT), run_slice_hm w T a _ _ (by rw [he]; exact hT) .i64 .i64 hi hi (by omega) (by omega) (by omega), he, hE]
  simp [Result.andThen, sliced]
  omega
end
section
variable {P : Program} {T E : TypeId}
def Near (B : Nat) (a a' : Option Addr) : Prop := ∀ g, blk a' = some g → blk a = some g ∨ B ≤ g
theorem Near.refl (B : Nat) (a : Option Addr) : Near B a a := fun _ h => .inl h
theorem Near.trans {B B' : Nat} {a a' a'' : Option Addr} (h : Near B a a') (k : Near B' a' a'') (hB : B ≤ B') : Near B a a'' := fun g hg => by
  rcases k g hg with h1 | h1
  · exact h g h1
  · exact .inr (by omega)

theorem news_row {w : World} {g off : Nat} {m : List UInt8} {c : Nat} (hm : Row w (some ⟨g, off, none⟩) m c) : ∀ j u, (m.map vb)[j]? = some u → w.cell? ((⟨g, off, none⟩ : Addr).add j) = some u := by
  intro j u hu
  have hj : j < m.length := by
    have := (List.getElem?_eq_some_iff.1 hu).1
    simpa using this
  have ea : (⟨g, off, none⟩ : Addr).add j = ad (some ⟨g, off, none⟩) j := by unfold Addr.add ad; split <;> simp_all
  rw [ea, hm.cell j hj]
  simpa [hj] using hu
theorem one_vb {m : List UInt8} : ∀ u ∈ m.map vb, u.oneCell' = true := by
  intro u hu
  obtain ⟨y, _, rfl⟩ := List.mem_map.1 hu
  rfl

end
end Go.Cit

