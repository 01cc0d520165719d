/- Slices of bytes that are read: what the walk needs of them. No condition. -/
import Derived.Test.YtbglmglgaobjmaaNum
import Derived.Lib.Hide
import Derived.BigQuiet
import Derived.Deep.QuietTactic
import Derived.Deep.DeepMust
import Derived.Deep.DeepFit
namespace Go.Cit
open Go Go.RowKit

/-- The place of element i of a slice that begins at a. -/
def ad (a : Option Addr) (i : Nat) : Addr := match a with | some x => ⟨x.block, x.off + i, none⟩ | none => ⟨0, i, none⟩

/-- The slice (a, l.length, cap) reads as l in w. -/
structure Row (w : World) (a : Option Addr) (l : List UInt8) (cap : Nat) : Prop where
  le : l.length ≤ cap
  top : cap ≤ maxLen
  spot : l ≠ [] → ∃ b off, a = some ⟨b, off, none⟩
  cell : ∀ i (h : i < l.length), w.cell? (ad a i) = some (vb l[i])

theorem Row.nil (w : World) : Row w none [] 0 := ⟨Nat.le_refl _, Nat.zero_le _, fun h => (h rfl).elim, fun i h => by simp at h⟩

theorem Row.len_le {w a l cap} (h : Row w a l cap) : l.length ≤ 9223372036854775807 := by
  have h1 := h.le; have h2 := h.top; unfold maxLen at h2; omega

theorem Row.blk {w a l cap} (h : Row w a l cap) {i : Nat} (hi : i < l.length) : (ad a i).block < w.heap.size :=
  World.block_lt_of_cell? w _ (h.cell i hi)

/-- A row stays, where what lies below its block's end stays. -/
theorem Row.stay {w w' : World} {a l cap} (h : Row w a l cap) (hb : Below w.heap.size w w') : Row w' a l cap :=
  ⟨h.le, h.top, h.spot, fun i hi => (hb.cell (h.blk hi)).trans (h.cell i hi)⟩

theorem Row.drewN {w : World} {a l cap} (h : Row w a l cap) (n : Nat) : Row (w.drewN n) a l cap :=
  ⟨h.le, h.top, h.spot, fun i hi => h.cell i hi⟩

theorem ret_int {k : IntKind} {a b : Int} (h : a = b) : Ending.returned (.int k a) = .returned (.int k b) := by rw [h]
theorem ret_bool {a b : Bool} (h : a = b) : Ending.returned (.bool a) = .returned (.bool b) := by rw [h]

/-- Some draws alone lie between. -/
def Drew (w w' : World) : Prop := ∃ n, w' = w.drewN n
theorem Drew.refl (w : World) : Drew w w := ⟨0, rfl⟩
theorem Drew.more {w w1 : World} (h : Drew w w1) (n : Nat) : Drew w (w1.drewN n) := by obtain ⟨m, rfl⟩ := h; exact ⟨m + n, by rw [World.drewN_drewN]⟩
theorem Drew.trans {w w1 w2 : World} (h : Drew w w1) (k : Drew w1 w2) : Drew w w2 := by obtain ⟨m, rfl⟩ := k; exact h.more m
theorem Drew.below {w w1 : World} (h : Drew w w1) (B : Nat) : Below B w w1 := by obtain ⟨m, rfl⟩ := h; exact ⟨rfl, rfl, rfl, Nat.le_refl _, fun _ _ => rfl⟩
theorem Drew.row {w w1 : World} (h : Drew w w1) {a l cap} (r : Row w a l cap) : Row w1 a l cap := by obtain ⟨m, rfl⟩ := h; exact r.drewN m

theorem below_drewN (B : Nat) (w : World) (n : Nat) : Below B w (w.drewN n) := ⟨rfl, rfl, rfl, Nat.le_refl _, fun _ _ => rfl⟩

section
variable {P : Program} {T E : TypeId} (hT : P.underlying T = some (.slice E)) (hE : ∀ w, (sizeOf E).run P w = .ok 1 w)
include hT hE
theorem Row.index {w a l cap} (h : Row w a l cap) (i : Nat) (hi : i < l.length) :
    ∀ w, (Instr.indexAt T (.slice a l.length cap) (.int .i64 (i : Int))).run P w = .ok (.pointer (some (ad a i))) w := by
  intro w
  obtain ⟨b, off, rfl⟩ := h.spot (by intro h0; simp [h0] at hi)
  have he : P.elem T = E := by simp [Program.elem, hT]
  rw [run_indexAt_slice w T _ _ _ _ _ (by rw [he]; exact hT), if_pos (by omega), he, hE]
  simp only [Result.andThen, ad, Addr.add]
  by_cases h0 : i = 0
  · subst h0; simp
  · simp [h0]
end
end Go.Cit
