/- Variables that hold an array of bytes; an array's element by its value. -/
import Derived.Test.YtofagofpeedfcaaBoxTwo
import Derived.Test.YtofagofpeedfcaaArr
namespace Go.Proofs.Ytofagofpeedfcaa
open Go Go.RowKit Go.Cit

/-- The variable in block b, of type T, holds the bytes l. -/
def ArrB (T : TypeId) (w : World) (b : Nat) (l : List UInt8) : Prop := w.heap[b]? = some (.cells (l.map vb).toArray T (0, 0))
theorem ArrB.lt {T w b l} (h : ArrB T w b l) : b < w.heap.size := (Array.getElem?_eq_some_iff.1 h).1
theorem ArrB.cell {T w b l} (h : ArrB T w b l) (i : Nat) (hi : i < l.length) : w.cell? ⟨b, i, none⟩ = some (vb l[i]) := by
  rw [World.cell?, h]; simp [hi]
theorem ArrB.free {T w b l} (h : ArrB T w b l) (i : Nat) : w.frozen? ⟨b, i, none⟩ = false := by simp [World.frozen?, show w.heap[b]? = _ from h]
theorem ArrB.set {T w b l} (h : ArrB T w b l) (i : Nat) (x : UInt8) : ArrB T (w.setCell ⟨b, i, none⟩ (vb x)) b (l.set i x) := by
  unfold ArrB at *
  simp [World.setCell, Array.getElem?_modify, h, List.map_set]
theorem ArrB.save {S : Nat → Prop} {T w w' b l} (h : ArrB T w b l) (hs : Save S w w') (hb : S b) : ArrB T w' b l := (hs.block b h.lt hb).trans h
theorem arrB_ok (l : List UInt8) : (l.map vb).toArray.all (·.oneCell') = true := by simp [Value.oneCell']
/-- The array's bytes as a row. -/
theorem ArrB.row {T w b l} (h : ArrB T w b l) (hl : l.length ≤ 1000000000) : Row w (some ⟨b, 0, none⟩) l l.length := row_blk l h rfl hl

theorem arrB_copy {T : TypeId} {b : Nat} : ∀ (m A R : List UInt8) (w : World), ArrB T w b (A ++ R) → m.length ≤ R.length → ArrB T (w.setCells b A.length (m.map vb)) b (A ++ m ++ R.drop m.length) ∧ Save (· ≠ b) w (w.setCells b A.length (m.map vb))
  | [], A, R, w, h, _ => by
    rw [List.append_nil]; exact ⟨h, Save.refl _ _⟩
  | x :: m, A, [], w, h, hl => absurd hl (by simp)
  | x :: m, A, y :: R, w, h, hl => by
    have h1 := h.set A.length x
    rw [List.set_append_right _ _ (Nat.le_refl _), Nat.sub_self, List.set_cons_zero, show A ++ x :: R = (A ++ [x]) ++ R by simp] at h1
    have h2 := arrB_copy m (A ++ [x]) R _ h1 (by simpa using hl)
    rw [List.length_append, List.length_singleton] at h2
    refine ⟨?_, Save.set.trans h2.2⟩
    have := h2.1
    simpa [World.setCells] using this

theorem run_index_agg {P : Program} {T E : TypeId} {n k : Nat} {C : Array Value} (w : World) (hT : P.underlying T = some (.array n E)) (hs : (sizeOf E).run P w = .ok 1 w) (hA : (isAgg E).run P w = .ok false w) (hC : C.size = n) (hk : k < n) :
    (Instr.index T (.agg C) (.int .i64 (k : Int))).run P w = .ok C[k] w := by
  have hk' : (0 : Int) ≤ (k : Int) ∧ (k : Int) < (n : Int) := by omega
  have hkC : k < C.size := by omega
  simp [Instr.index, run_underlying hT, asIntOf, hs, hA, part, go_sem, hkC, hk]
theorem aggW : ∀ w, (isAgg 104).run Try.prog w = .ok false w := by intro w; kernel_rfl
theorem aggB : ∀ w, (isAgg 5).run Try.prog w = .ok false w := by intro w; kernel_rfl
theorem szB : ∀ w, (sizeOf 5).run Try.prog w = .ok 1 w := by intro w; kernel_rfl
end Go.Proofs.Ytofagofpeedfcaa
