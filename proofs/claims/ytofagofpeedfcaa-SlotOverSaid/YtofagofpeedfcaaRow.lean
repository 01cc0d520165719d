/- Slices of bytes that are read: what the walk needs of them. No condition. -/
import Derived.Test.YtofagofpeedfcaaNum
import Derived.Lib.Hide
import Derived.BigQuiet
import Derived.Deep.QuietTactic
import Derived.Deep.DeepMust
import Derived.Deep.DeepFit
import Derived.Deep.RegionLaw
import Derived.BigRegion
namespace Go.Cit
open Go Go.RowKit

/-- The place of element i of a slice that begins at a. -/
def ad (a : Option Addr) (i : Nat) : Addr := match a with | some x => ⟨x.block, x.off + i, none⟩ | none => ⟨0, i, none⟩

/-- The slice (a, l.length, cap) reads as l in w. -/
structure Row (w : World) (a : Option Addr) (l : List UInt8) (cap : Nat) : Prop where
  le : l.length ≤ cap
  top : cap ≤ maxLen
  nil : a = none → cap = 0
  spot : l ≠ [] → ∃ b off, a = some ⟨b, off, none⟩
  cell : ∀ i (h : i < l.length), w.cell? (ad a i) = some (vb l[i])

theorem Row.nil_ (w : World) : Row w none [] 0 := ⟨Nat.le_refl _, Nat.zero_le _, fun _ => rfl, fun h => (h rfl).elim, fun i h => by simp at h⟩

theorem Row.len_le {w a l cap} (h : Row w a l cap) : l.length ≤ 9223372036854775807 := by
  have h1 := h.le; have h2 := h.top; unfold maxLen at h2; omega

theorem Row.blk {w a l cap} (h : Row w a l cap) {i : Nat} (hi : i < l.length) : (ad a i).block < w.heap.size :=
  World.block_lt_of_cell? w _ (h.cell i hi)

/-- A row stays, where what lies below its block's end stays. -/
theorem Row.stay {w w' : World} {a l cap} (h : Row w a l cap) (hb : Below w.heap.size w w') : Row w' a l cap :=
  ⟨h.le, h.top, h.nil, h.spot, fun i hi => (hb.cell (h.blk hi)).trans (h.cell i hi)⟩

theorem Row.drew {w : World} {a l cap} (h : Row w a l cap) : Row w.drew a l cap :=
  ⟨h.le, h.top, h.nil, h.spot, fun i hi => h.cell i hi⟩
theorem Row.drewN {w : World} {a l cap} (h : Row w a l cap) (n : Nat) : Row (w.drewN n) a l cap :=
  ⟨h.le, h.top, h.nil, h.spot, fun i hi => h.cell i hi⟩

theorem ret_int {k : IntKind} {a b : Int} (h : a = b) : Ending.returned (.int k a) = .returned (.int k b) := by rw [h]
theorem ret_bool {a b : Bool} (h : a = b) : Ending.returned (.bool a) = .returned (.bool b) := by rw [h]

/-- Some draws alone lie between. -/
def Drew (w w' : World) : Prop := ∃ n, w' = w.drewN n
theorem Drew.refl (w : World) : Drew w w := ⟨0, rfl⟩
theorem Drew.more {w w1 : World} (h : Drew w w1) (n : Nat) : Drew w (w1.drewN n) := by obtain ⟨m, rfl⟩ := h; exact ⟨m + n, by rw [World.drewN_drewN]⟩
theorem Drew.trans {w w1 w2 : World} (h : Drew w w1) (k : Drew w1 w2) : Drew w w2 := by obtain ⟨m, rfl⟩ := k; exact h.more m
theorem Drew.below {w w1 : World} (h : Drew w w1) (B : Nat) : Below B w w1 := by obtain ⟨m, rfl⟩ := h; exact ⟨rfl, rfl, rfl, Nat.le_refl _, fun _ _ => rfl⟩
theorem Drew.row {w w1 : World} (h : Drew w w1) {a l cap} (r : Row w a l cap) : Row w1 a l cap := by obtain ⟨m, rfl⟩ := h; exact r.drewN m

theorem below_drewN (B : Nat) (w : World) (n : Nat) : Below B w (w.drewN n) := ⟨rfl, rfl, rfl, Nat.le_refl _, fun _ _ => rfl⟩

/-! A slice of a row. -/
theorem Row.sub {w a l cap} (h : Row w a l cap) (lo hi mx : Nat) (h1 : lo ≤ hi) (h2 : hi ≤ l.length) (h3 : hi ≤ mx) (h4 : mx ≤ cap) : Row w (if mx = lo then a else a.map (·.add (lo * 1))) ((l.take hi).drop lo) (mx - lo) := by
  have hlen : ((l.take hi).drop lo).length = hi - lo := by rw [List.length_drop, List.length_take]; omega
  have htop := h.top
  refine ⟨by omega, by omega, fun hn => ?_, fun hne => ?_, fun i hi' => ?_⟩
  · have hn' : a = none := by
      split at hn
      · exact hn
      · simpa using hn
    have := h.nil hn'
    omega
  · have hlt : lo < hi := by
      rcases Nat.lt_or_ge lo hi with h | h
      · exact h
      · exact absurd (List.eq_nil_of_length_eq_zero (by omega)) hne
    obtain ⟨b, off, rfl⟩ := h.spot (by intro h0; simp [h0] at h2; omega)
    rw [if_neg (by omega)]
    refine ⟨b, off + lo, ?_⟩
    by_cases h0 : lo = 0
    · subst h0; simp [Addr.add]
    · simp [Addr.add, h0]
  · rw [hlen] at hi'
    have hl : lo + i < l.length := by omega
    obtain ⟨b, off, rfl⟩ := h.spot (by intro h0; simp [h0] at hl)
    rw [if_neg (by omega)]
    have hc := h.cell (lo + i) hl
    have e : ad (Option.map (·.add (lo * 1)) (some (⟨b, off, none⟩ : Addr))) i = ad (some ⟨b, off, none⟩) (lo + i) := by
      by_cases h0 : lo = 0
      · subst h0; simp [Addr.add, ad]
      · simp [Addr.add, ad, h0, Nat.add_assoc]
    rw [e, hc]
    simp

section
variable {P : Program} {T E : TypeId} (hT : P.underlying T = some (.slice E)) (hE : ∀ w, (sizeOf E).run P w = .ok 1 w)
include hT hE
theorem Row.index {w a l cap} (h : Row w a l cap) (i : Nat) (hi : i < l.length) :
    ∀ w, (Instr.indexAt T (.slice a l.length cap) (.int .i64 (i : Int))).run P w = .ok (.pointer (some (ad a i))) w := by
  intro w
  obtain ⟨b, off, rfl⟩ := h.spot (by intro h0; simp [h0] at hi)
  have he : P.elem T = E := by simp [Program.elem, hT]
  rw [run_indexAt_slice w T _ _ _ _ _ (by rw [he]; exact hT), if_pos (by omega), he, hE]
  simp only [Result.andThen, ad, Addr.add]
  by_cases h0 : i = 0
  · subst h0; simp
  · simp [h0]

/-- b[lo:]: what it comes to, in whatever world, and that it is a row. -/
theorem Row.from_ {w a l cap} (h : Row w a l cap) (lo : Nat) (h1 : lo ≤ l.length) : ∃ a' m cap', m = l.drop lo ∧
    (∀ w, (Instr.sliceAt T (.slice a l.length cap) (some (.int .i64 (lo : Int))) none none).run P w = .ok (.slice a' m.length cap') w) ∧ Row w a' m cap' := by
  have he : P.elem T = E := by simp [Program.elem, hT]
  refine ⟨_, _, _, rfl, fun w => ?_, by simpa using h.sub lo l.length cap h1 (Nat.le_refl _) h.le (Nat.le_refl _)⟩
  rw [run_sliceAt_slice _ _ _ _ _ _ (by rw [he]; exact hT), run_slice_l w T a _ _ (by rw [he]; exact hT) .i64 lo (by omega) (by omega), he, hE]
  simp [Result.andThen, sliced]
/-- b[:hi]. -/
theorem Row.upto {w a l cap} (h : Row w a l cap) (hi : Nat) (h1 : hi ≤ l.length) : ∃ a' m cap', m = l.take hi ∧
    (∀ w, (Instr.sliceAt T (.slice a l.length cap) none (some (.int .i64 (hi : Int))) none).run P w = .ok (.slice a' m.length cap') w) ∧ Row w a' m cap' := by
  have he : P.elem T = E := by simp [Program.elem, hT]
  have hle := h.le
  refine ⟨_, _, _, rfl, fun w => ?_, by simpa using h.sub 0 hi cap (Nat.zero_le _) h1 (by omega) (Nat.le_refl _)⟩
  rw [run_sliceAt_slice _ _ _ _ _ _ (by rw [he]; exact hT), run_slice_h w T a _ _ (by rw [he]; exact hT) .i64 hi (by omega) (by omega), he, hE]
  simp [Result.andThen, sliced]
  omega
/-- b[lo:hi]. -/
theorem Row.part {w a l cap} (h : Row w a l cap) (lo hi : Nat) (h0 : lo ≤ hi) (h1 : hi ≤ l.length) : ∃ a' m cap', m = (l.take hi).drop lo ∧
    (∀ w, (Instr.sliceAt T (.slice a l.length cap) (some (.int .i64 (lo : Int))) (some (.int .i64 (hi : Int))) none).run P w = .ok (.slice a' m.length cap') w) ∧ Row w a' m cap' := by
  have he : P.elem T = E := by simp [Program.elem, hT]
  have hle := h.le
  refine ⟨_, _, _, rfl, fun w => ?_, h.sub lo hi cap h0 h1 (by omega) (Nat.le_refl _)⟩
  rw [run_sliceAt_slice _ _ _ _ _ _ (by rw [he]; exact hT), run_slice_lh w T a _ _ (by rw [he]; exact hT) .i64 .i64 lo hi (by omega) (by omega) (by omega), he, hE]
  simp [Result.andThen, sliced]
  omega
/-- b[:hi:hi]. -/
theorem Row.upto3 {w a l cap} (h : Row w a l cap) (hi : Nat) (h1 : hi ≤ l.length) : ∃ a' m cap', m = l.take hi ∧
    (∀ w, (Instr.sliceAt T (.slice a l.length cap) none (some (.int .i64 (hi : Int))) (some (.int .i64 (hi : Int)))).run P w = .ok (.slice a' m.length cap') w) ∧ Row w a' m cap' := by
  have he : P.elem T = E := by simp [Program.elem, hT]
  have hle := h.le
  refine ⟨_, _, _, rfl, fun w => ?_, by simpa using h.sub 0 hi hi (Nat.zero_le _) h1 (Nat.le_refl _) (by omega)⟩
  rw [run_sliceAt_slice _ _ _ _ _ _ (by rw [he]; exact hT), run_slice_hm w T a _ _ (by rw [he]; exact hT) .i64 .i64 hi hi (by omega) (by omega) (by omega), he, hE]
  simp [Result.andThen, sliced]
  omega
end
end Go.Cit
