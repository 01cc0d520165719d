/- Slices of rows of one's own; such an argument opened. -/
import Derived.Test.YtofagofpeedfcaaVec
import Derived.Test.YtofagofpeedfcaaGc
namespace Go.Proofs.Ytofagofpeedfcaa
open Go Go.RowKit Go.Cit

@[reducible] def sf (d : Sl UInt8) : List Value := [sv d]
theorem sf_len : ∀ d, (sf d).length = 1 := fun _ => rfl
theorem sf_one : ∀ d, ∀ u ∈ sf d, u.oneCell' = true := by intro d u hu; obtain rfl : u = sv d := by simpa using hu
                                                          rfl
@[reducible] def nilD : Sl UInt8 := ⟨none, 0, []⟩
theorem rowsT : ElemType Try.prog 55 22 1 24 (sv nilD) := ⟨Try.underlying55, infoRow, szRow, rfl, by decide, by decide⟩
theorem rows_vec {w : World} {a : Option Addr} {ds : List (Sl UInt8)} {c : Nat} (h : Vec sf 1 w a ds c) (hr : ∀ d ∈ ds, Row w d.a d.l d.c) : Rows w a ds c :=
  ⟨h.le, h.top, h.nil, h.spot, fun i hi => h.cell1 (v := sv) i hi, hr⟩
theorem Rows.vec {w : World} {a : Option Addr} {ds : List (Sl UInt8)} {c : Nat} (h : Rows w a ds c) : Vec sf 1 w a ds c := Vec.of1 (v := sv) h.le h.top h.nil h.spot h.cell
theorem rows_of {w : World} {d : Sl (Sl UInt8)} (h : (Sh.slice .bytes).ok w d) : Rows w d.a d.l d.c := by
  obtain ⟨h1, h2, h3, h4, h5⟩ := h
  refine ⟨h1, by unfold maxLen; omega, h3, h4, fun i hi => ?_, fun x hx => ?_⟩
  · have := (h5 i hi).1 0 (by decide)
    simpa [Sh.size, Sh.enc] using this
  · obtain ⟨i, hi, rfl⟩ := List.mem_iff_getElem.1 hx
    exact (h5 i hi).2.1
theorem rows_caps {w : World} {d : Sl (Sl UInt8)} (h : (Sh.slice .bytes).ok w d) : ∀ x ∈ d.l, x.l.length ≤ 140737488351232 := by
  intro x hx
  obtain ⟨i, hi, rfl⟩ := List.mem_iff_getElem.1 hx
  have := (h.2.2.2.2 i hi).2
  exact Nat.le_trans this.1.le this.2
/-- The bytes of all rows. -/
def totB (ds : List (Sl UInt8)) : Nat := (ds.map fun d => d.l.length).sum
theorem totB_take (ds : List (Sl UInt8)) (k : Nat) (h : k < ds.length) : totB (ds.take (k + 1)) = totB (ds.take k) + ds[k].l.length := by
  rw [totB, totB, List.take_succ_eq_append_getElem h, List.map_append, List.sum_append]; simp
theorem totB_one : ∀ (ds : List (Sl UInt8)), ∀ d ∈ ds, d.l.length ≤ totB ds
  | [], d, h => by simp at h
  | x :: ds, d, h => by
    have e : totB (x :: ds) = x.l.length + totB ds := by simp [totB]
    rcases List.mem_cons.1 h with rfl | h
    · omega
    · have := totB_one ds d h; omega
theorem totB_le : ∀ (ds : List (Sl UInt8)) (m : Nat), (∀ d ∈ ds, d.l.length ≤ m) → totB ds ≤ ds.length * m
  | [], m, _ => by simp [totB]
  | x :: ds, m, h => by
    have e : totB (x :: ds) = x.l.length + totB ds := by simp [totB]
    have h1 := h x (by simp)
    have h2 := totB_le ds m (fun d hd => h d (by simp [hd]))
    rw [e, List.length_cons, Nat.succ_mul]; omega
end Go.Proofs.Ytofagofpeedfcaa
