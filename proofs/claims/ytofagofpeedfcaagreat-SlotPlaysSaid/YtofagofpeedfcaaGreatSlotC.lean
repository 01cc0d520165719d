/- Go's copy into a row of one's own. -/
import Derived.Test.YtofagofpeedfcaaGreatSlot3
namespace Go.Proofs.YtofagofpeedfcaaGreat
open Go Go.RowKit Go.Cit

theorem patch_step (l : List UInt8) (k : Nat) (v : UInt8) (rest : List UInt8) (hk : k + (rest.length + 1) ≤ l.length) : patchL (l.set k v) (k + 1) rest = patchL l k (v :: rest) := by
  unfold patchL
  have h1 : (l.set k v).take (k + 1) = l.take k ++ [v] := by
    apply List.ext_getElem?
    intro j
    simp only [List.getElem?_take, List.getElem?_set, List.getElem?_append, List.length_take]
    by_cases hj : j < k
    · have : min k l.length = k := by omega
      simp [hj, this, Nat.ne_of_gt hj]
      omega
    · by_cases hj2 : j = k
      · subst hj2
        have : min j l.length = j := by omega
        have hjl : j < l.length := by omega
        simp [this, hjl]
      · have : min k l.length = k := by omega
        have h3 : ¬ j < k + 1 := by omega
        simp [hj, this, h3]
        omega
  have h2 : (l.set k v).drop (k + 1 + rest.length) = l.drop (k + (rest.length + 1)) := by
    apply List.ext_getElem?
    intro j
    simp only [List.getElem?_drop, List.getElem?_set]
    have : ¬ k = k + 1 + rest.length + j := by omega
    simp [this]
    congr 1
    omega
  rw [h1, h2]
  simp
theorem store_mine {P : Program} (B g off c lo : Nat) : ∀ (vs : List UInt8) (i : Nat) (l : List UInt8) (w : World), Mine B w (some ⟨g, off, none⟩) l c → lo + i + vs.length ≤ l.length →
    ∃ w', (storeCells ⟨g, off + lo, none⟩ (vs.map vb) i).run P w = .ok () w' ∧ Mine B w' (some ⟨g, off, none⟩) (patchL l (lo + i) vs) c ∧ Save (fun k => k ≠ g) w w'
  | [], i, l, w, h, _ => ⟨w, rfl, by simpa [patchL] using h, Save.refl _ _⟩
  | v :: vs, i, l, w, h, hl => by
    have hi : lo + i < l.length := by simp at hl; omega
    have hadd : (⟨g, off + lo, none⟩ : Addr).add i = ad (some ⟨g, off, none⟩) (lo + i) := by
      unfold Addr.add ad
      split <;> simp_all [Nat.add_assoc]
    have hcell := h.row.cell (lo + i) hi
    have hfro := h.free (lo + i) hi
    obtain ⟨h1, h2, _⟩ := h.stored (lo + i) hi v
    have hst : (store ((⟨g, off + lo, none⟩ : Addr).add i) (vb v)).run P w = .ok () (w.setCell (ad (some ⟨g, off, none⟩) (lo + i)) (vb v)) := by
      rw [hadd, run_store P w _ (vb v) _ rfl, hcell]
      simp [hfro]
    obtain ⟨w', h3, h4, h5⟩ := store_mine (P := P) B g off c lo vs (i + 1) (l.set (lo + i) v) _ h1 (by simp at hl ⊢; omega)
    refine ⟨w', ?_, ?_, ?_⟩
    · simp only [List.map_cons, storeCells, Sem.run_bind, hst, Result.andThen_ok]
      exact h3
    · have := patch_step l (lo + i) v vs (by simp at hl; omega)
      rw [← this]
      exact h4
    · exact ((Save.grown h2).less (fun k _ hk e => by simp [Go.Cit.blk] at e; exact hk e)).trans h5
/-- A part of a row. -/
theorem Row.mid {P : Program} {T E : TypeId} (hT : P.underlying T = some (.slice E)) (hE : ∀ w, (sizeOf E).run P w = .ok 1 w) {w : World} {a : Option Addr} {l : List UInt8} {c : Nat} (h : Row w a l c) (lo hi : Nat) (h1 : lo ≤ hi) (h2 : hi ≤ l.length) :
    ∀ w, (Instr.sliceAt T (.slice a l.length c) (some (.int .i64 (lo : Int))) (some (.int .i64 (hi : Int))) none).run P w = .ok (.slice (if c = lo then a else a.map (·.add (lo * 1))) (hi - lo) (c - lo)) w := fun w => by
  have he : P.elem T = E := by simp [Program.elem, hT]
  have hle := h.le
  rw [run_sliceAt_slice _ _ _ _ _ _ (by rw [he]; exact hT), run_slice_lh _ T a _ _ (by rw [he]; exact hT) .i64 .i64 lo hi (by omega) (by omega) (by omega), he, hE]
  simp [Result.andThen, sliced]
/-- copy, of bytes that come from elsewhere, into a part of a row. -/
theorem copy_mine {P : Program} {dT sT ty elem : TypeId} (hu : P.underlying dT = some (.slice elem)) (hs : (P.info? elem).map (·.size) = some 1) {w : World} {B : Nat} {a : Option Addr} {l : List UInt8} {c : Nat} (h : Mine B w a l c) (lo hi : Nat) (h1 : lo < hi) (h2 : hi ≤ l.length)
    {a2 : Option Addr} {m : List UInt8} {c2 : Nat} (r : Row w a2 m c2) (hm : hi - lo ≤ m.length) :
    ∃ w', (Builtin.copy_ #[dT, sT] ty #[.slice (if c = lo then a else a.map (·.add (lo * 1))) (hi - lo) (c - lo), .slice a2 m.length c2]).run P w = .ok (.int .i64 ((hi - lo : Nat) : Int)) w' ∧ Mine B w' a (patchL l lo (m.take (hi - lo))) c ∧ Save (fun k => Go.Cit.blk a ≠ some k) w w' := by
  obtain ⟨g, off, rfl⟩ := h.row.spot (by intro h0; rw [h0] at h2; simp at h2 <;> omega)
  obtain ⟨g2, off2, rfl⟩ := r.spot (by intro h0; rw [h0] at hm; simp at hm <;> omega)
  have hle := h.row.le
  have hc : ¬ c = lo := by omega
  rw [if_neg hc]
  have ha : (some (⟨g, off, none⟩ : Addr)).map (·.add (lo * 1)) = some ⟨g, off + lo, none⟩ := by
    rw [Option.map_some, Nat.mul_one]
    congr 1
    unfold Addr.add
    split <;> simp_all
  rw [ha]
  obtain ⟨w', h3, h4, h5⟩ := store_mine (P := P) B g off c lo (m.take (hi - lo)) 0 l w h (by simp; omega)
  have hcs : ((m.take (hi - lo)).map vb).length = Nat.min m.length (hi - lo) := by
    rw [List.length_map, List.length_take, Nat.min_comm]
  have hl := run_loadCells_list (P := P) w ⟨g2, off2, none⟩ ((m.take (hi - lo)).map vb) (fun j v hv => by
    have hj : j < (m.take (hi - lo)).length := by
      have := (List.getElem?_eq_some_iff.1 hv).1
      simpa using this
    have h7 := r.cell j (by rw [List.length_take] at hj; omega)
    have ea : (⟨g2, off2, none⟩ : Addr).add j = ad (some ⟨g2, off2, none⟩) j := by unfold Addr.add ad; split <;> simp_all
    rw [ea, h7]
    rw [List.getElem?_map, List.getElem?_eq_getElem hj] at hv
    rw [← Option.some.inj hv]
    simp)
  have hk : (m.take (hi - lo)).length = hi - lo := by rw [List.length_take]; omega
  rw [List.length_map, hk] at hl
  have hmin : min (hi - lo) m.length = hi - lo := Nat.min_eq_left hm
  have hmin2 : min m.length (hi - lo) = hi - lo := Nat.min_eq_right hm
  rw [List.map_take] at h3
  refine ⟨w', ?_, by simpa using h4, h5.less (fun k _ hk e => hk (by simp [Go.Cit.blk, e]))⟩
  cases hq : P.info? elem with
  | none => simp [hq] at hs
  | some i =>
    have hi1 : i.size = 1 := by simpa [hq] using hs
    simp [Builtin.copy_, run_underlying hu, Builtin.lenOf, Builtin.firstCells, sizeOf, typeInfo, hq, hi1, hmin, hmin2, hl, h3, hk, goInt]
end Go.Proofs.YtofagofpeedfcaaGreat
