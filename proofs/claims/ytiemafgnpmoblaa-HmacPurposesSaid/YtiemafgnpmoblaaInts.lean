/- Slices of ints; a string's bytes. -/
import Derived.Test.YtiemafgnpmoblaaHmac
import Derived.Lib.ConvBytes
namespace Go.Proofs.Ytiemafgnpmoblaa
open Go Go.RowKit Go.Cit

/-- A slice of ints. -/
structure Ints (w : World) (a : Option Addr) (zs : List Int) (cap : Nat) : Prop where
  le : zs.length ≤ cap
  top : cap ≤ maxLen
  spot : zs ≠ [] → ∃ b off, a = some ⟨b, off, none⟩
  cell : ∀ i (h : i < zs.length), w.cell? (ad a i) = some (.int .i64 zs[i])
  rng : ∀ i (h : i < zs.length), -9223372036854775808 ≤ zs[i] ∧ zs[i] ≤ 9223372036854775807
theorem ints_of {w : World} {d : Sl Int} (h : (Sh.slice .i64).ok w d) : Ints w d.a d.l d.c := by
  obtain ⟨h1, h2, h3, h4, h5⟩ := h
  refine ⟨h1, by unfold maxLen; omega, h4, fun i hi => ?_, fun i hi => (h5 i hi).2⟩
  have := (h5 i hi).1 0 (by decide)
  simpa [Sh.size, Sh.enc] using this
theorem Ints.len_le {w a zs cap} (h : Ints w a zs cap) : zs.length ≤ 9223372036854775807 := by
  have h1 := h.le; have h2 := h.top; unfold maxLen at h2; omega
theorem Ints.stay {w w' : World} {a zs cap} (h : Ints w a zs cap) (hb : Below w.heap.size w w') : Ints w' a zs cap :=
  ⟨h.le, h.top, h.spot, fun i hi => (hb.cell (World.block_lt_of_cell? w _ (h.cell i hi))).trans (h.cell i hi), h.rng⟩
theorem szI : ∀ w, (sizeOf 3).run Try.prog w = .ok 1 w := by intro w; kernel_rfl
theorem Ints.index {w a zs cap} (h : Ints w a zs cap) (i : Nat) (hi : i < zs.length) :
    ∀ w, (Instr.indexAt 58 (.slice a zs.length cap) (.int .i64 (i : Int))).run Try.prog w = .ok (.pointer (some (ad a i))) w := by
  intro w
  obtain ⟨b, off, rfl⟩ := h.spot (by intro h0; simp [h0] at hi)
  have hT : Try.prog.underlying 58 = some (.slice 3) := Try.underlying58
  have he : Try.prog.elem 58 = 3 := by simp [Program.elem, hT]
  rw [run_indexAt_slice w _ _ _ _ _ _ (by rw [he]; exact hT), if_pos (by omega), he, szI]
  simp only [Result.andThen, ad, Addr.add]
  by_cases h0 : i = 0
  · subst h0; simp
  · simp [h0]

theorem string_bytes (w : World) (l : List UInt8) (hl : l.length ≤ 1000000000) : ∃ c w', (convert 9 25 (.string ⟨l.toArray⟩)).run Try.prog w = .ok (.slice (some ⟨w.heap.size, 0, none⟩) l.length c) w' ∧ Row w' (some ⟨w.heap.size, 0, none⟩) l c ∧ Below w.heap.size w w' := by
  have hr := Lib.run_convert_string_bytes (P := Try.prog) w 9 25 5 ⟨l.toArray⟩ Try.underlying9 Try.underlying25 Try.underlying5
  have hz : (⟨l.toArray⟩ : ByteArray).size = l.length := by simp [ByteArray.size]
  refine ⟨_, _, by rw [hz] at hr; exact hr, ⟨by rw [← hz]; exact grownCap_ge _ _ _ _, grownCap_le_maxLen _ _ _ _ (by unfold maxLen; omega), fun h => by simp at h, fun _ => ⟨_, _, rfl⟩, fun i hi => ?_⟩, ⟨?_, ?_, ?_, ?_, fun k hk => Lib.bytesWorld_at_old w _ _ k hk⟩⟩
  · simp only [ad, Nat.zero_add]
    rw [Lib.bytesWorld_cell w _ _ i (by rw [hz]; exact hi)]
    simp [List.getD, hi]
  · unfold Lib.bytesWorld World.freeze; split <;> rfl
  · unfold Lib.bytesWorld World.freeze; split <;> rfl
  · unfold Lib.bytesWorld World.freeze; split <;> rfl
  · rw [Lib.bytesWorld_size]; omega
end Go.Proofs.Ytiemafgnpmoblaa
