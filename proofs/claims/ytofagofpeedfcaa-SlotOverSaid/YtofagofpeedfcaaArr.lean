/- Variables that hold an array of words of 32 bits. -/
import Derived.Test.YtofagofpeedfcaaBox
import Derived.Test.YtofagofpeedfcaaRefOrder
namespace Go.Proofs.Ytofagofpeedfcaa
open Go Go.RowKit Go.Cit

/-- The variable in block b, of type T, holds the words l. -/
def Arr (T : TypeId) (w : World) (b : Nat) (l : List UInt32) : Prop := w.heap[b]? = some (.cells (l.map vw).toArray T (0, 0))
theorem Arr.lt {T w b l} (h : Arr T w b l) : b < w.heap.size := (Array.getElem?_eq_some_iff.1 h).1
theorem Arr.cell {T w b l} (h : Arr T w b l) (i : Nat) (hi : i < l.length) : w.cell? ⟨b, i, none⟩ = some (vw l[i]) := by
  rw [World.cell?, h]; simp [hi]
theorem Arr.free {T w b l} (h : Arr T w b l) (i : Nat) : w.frozen? ⟨b, i, none⟩ = false := by simp [World.frozen?, show w.heap[b]? = _ from h]
theorem Arr.set {T w b l} (h : Arr T w b l) (i : Nat) (x : UInt32) : Arr T (w.setCell ⟨b, i, none⟩ (vw x)) b (l.set i x) := by
  unfold Arr at *
  simp [World.setCell, Array.getElem?_modify, h, List.map_set]
theorem Arr.save {S : Nat → Prop} {T w w' b l} (h : Arr T w b l) (hs : Save S w w') (hb : S b) : Arr T w' b l := (hs.block b h.lt hb).trans h
theorem Arr.stay {T w w' b l} (h : Arr T w b l) (hs : Below w.heap.size w w') : Arr T w' b l := (hs.block b h.lt).trans h
theorem arr_ok (l : List UInt32) : (l.map vw).toArray.all (·.oneCell') = true := by simp [Value.oneCell']
theorem szW : ∀ w, (sizeOf 104).run Try.prog w = .ok 1 w := by intro w; kernel_rfl
theorem arr_index {T : TypeId} {n : Nat} (hT : Try.prog.underlying T = some (.array n 104)) (b i : Nat) (hi : i < n) (w : World) :
    (Instr.indexAt T (.pointer (some ⟨b, 0, none⟩)) (.int .i64 (i : Int))).run Try.prog w = .ok (.pointer (some ⟨b, i, none⟩)) w := by
  have he : Try.prog.elem T = 104 := by simp [Program.elem, hT]
  have hl : Try.prog.arrayLen T = n := by simp [Program.arrayLen, hT]
  rw [run_indexAt_array _ _ _ _ _ (by rw [he, hl]; exact hT), hl, he, szW]
  rw [if_pos (by omega)]
  simp only [Result.andThen, Addr.add]
  by_cases h0 : i = 0
  · subst h0; simp
  · simp [h0]
end Go.Proofs.Ytofagofpeedfcaa
