/- IDs of partitions, told by places; any of a beginning: plain laws. -/
import Derived.Test.YtpnbaapjjchlbaaOverlap
namespace Go.Proofs.Ytpnbaapjjchlbaa
open Go Go.RowKit Go.Cit

theorem any_take {α : Type} (p : α → Bool) (l : List α) (k : Nat) (h : k < l.length) : (l.take (k + 1)).any p = ((l.take k).any p || p l[k]) := by
  rw [List.take_succ_eq_append_getElem h, List.any_append]; simp
/-- A partition's ID, by its place. -/
def pidAt (ps : List PtV) (i : Nat) : Int := (ps[i]?.map (·.id.1)).getD 0
def okAt (ps : List PtV) (i : Nat) : Bool := decide (1 ≤ pidAt ps i ∧ pidAt ps i ≤ 6 ∧ (i = 0 ∨ pidAt ps (i - 1) < pidAt ps i))
def okTo (ps : List PtV) (k : Nat) : Bool := (List.range k).all (okAt ps)
theorem okTo_succ (ps : List PtV) (k : Nat) : okTo ps (k + 1) = (okTo ps k && okAt ps k) := by
  unfold okTo; rw [List.range_succ, List.all_append]; simp
theorem pidAt_get (ps : List PtV) (k : Nat) (h : k < ps.length) : pidAt ps k = ps[k].id.1 := by simp [pidAt, h]
theorem ascP_iff : ∀ (ps : List PtV) (last : Int), ascP last ps = true ↔ ∀ i, i < ps.length → (if i = 0 then last else pidAt ps (i - 1)) < pidAt ps i ∧ pidAt ps i ≤ 6
  | [], last => by simp [ascP]
  | x :: r, last => by
    rw [ascP, Bool.and_eq_true, decide_eq_true_iff, ascP_iff r]
    constructor
    · rintro ⟨h1, h2⟩ i hi
      cases i with
      | zero => simpa [pidAt] using h1
      | succ j =>
        have := h2 j (by simpa using hi)
        cases j with
        | zero => simpa [pidAt] using this
        | succ j => simpa [pidAt] using this
    · intro h
      refine ⟨by simpa [pidAt] using h 0 (by simp), fun i hi => ?_⟩
      have := h (i + 1) (by simpa using hi)
      cases i with
      | zero => simpa [pidAt] using this
      | succ j => simpa [pidAt] using this
theorem okTo_eq (ps : List PtV) : okTo ps ps.length = ascP 0 ps := by
  rw [Bool.eq_iff_iff, ascP_iff]
  unfold okTo
  rw [List.all_eq_true]
  constructor
  · intro h i hi
    have := h i (List.mem_range.2 hi)
    simp only [okAt, decide_eq_true_eq] at this
    refine ⟨?_, this.2.1⟩
    split
    · omega
    · rcases this.2.2 with h0 | h0
      · omega
      · exact h0
  · intro h
    have hpos : ∀ i, i < ps.length → 1 ≤ pidAt ps i := by
      intro i
      induction i with
      | zero => intro hi; have := (h 0 hi).1; simp at this; omega
      | succ j ih =>
        intro hi
        have h1 := ih (by omega)
        have h2 := (h (j + 1) hi).1
        simp at h2
        omega
    intro i hi
    have hi := List.mem_range.1 hi
    have h1 := h i hi
    simp only [okAt, decide_eq_true_eq]
    refine ⟨hpos i hi, h1.2, ?_⟩
    by_cases h0 : i = 0
    · exact .inl h0
    · right; simpa [h0] using h1.1
end Go.Proofs.Ytpnbaapjjchlbaa
