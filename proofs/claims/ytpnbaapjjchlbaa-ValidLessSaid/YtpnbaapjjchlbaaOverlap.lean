/- Overlapping regions, told by places: plain law. -/
import Derived.Test.YtpnbaapjjchlbaaVChk
namespace Go.Proofs.Ytpnbaapjjchlbaa
open Go Go.RowKit Go.Cit

theorem pairsL_pairwise (p : Reg → Reg → Bool) : ∀ l : List Reg, (pairsL l).all (fun x => p x.1 x.2) = true ↔ l.Pairwise (fun a b => p a b = true)
  | [] => by simp [pairsL]
  | a :: r => by
    rw [pairsL, List.all_append, Bool.and_eq_true, pairsL_pairwise p r, List.pairwise_cons]
    simp [List.all_eq_true]
theorem apartR_comm (a b : Reg) : apartR a b = apartR b a := by
  unfold apartR
  cases mayR a <;> cases mayR b <;> simp [Bool.or_comm]
/-- The regions at two places may be, and are not apart. -/
def badAt (ps : List PtV) (i k : Nat) : Bool := match ps[i]?, ps[k]? with
  | some x, some y => mayR x.reg && (mayR y.reg && !apartR x.reg y.reg)
  | _, _ => false
def badRow (ps : List PtV) (i k : Nat) : Bool := (List.range k).any fun j => badAt ps i j
def badTo (ps : List PtV) (i : Nat) : Bool := (List.range i).any fun j => badRow ps j j
theorem badRow_succ (ps : List PtV) (i k : Nat) : badRow ps i (k + 1) = (badRow ps i k || badAt ps i k) := by
  unfold badRow; rw [List.range_succ, List.any_append]; simp
theorem badTo_succ (ps : List PtV) (i : Nat) : badTo ps (i + 1) = (badTo ps i || badRow ps i i) := by
  unfold badTo; rw [List.range_succ, List.any_append]; simp
theorem okRegs_all (ps : List PtV) : (okRegs ps).all mayR = true := by
  rw [List.all_eq_true]
  intro r hr
  unfold okRegs at hr
  obtain ⟨x, hx, rfl⟩ := List.mem_map.1 hr
  simpa using (List.mem_filter.1 hx).2
theorem pairwise_bad (ps : List PtV) : (okRegs ps).Pairwise (fun a b => apartR a b = true) ↔ badTo ps ps.length = false := by
  unfold okRegs
  rw [List.pairwise_map, List.pairwise_filter, List.pairwise_iff_getElem, badTo, List.any_eq_false]
  constructor
  · intro h j hj hb
    rw [badRow, List.any_eq_true] at hb
    obtain ⟨i, hi, hb⟩ := hb
    have hi := List.mem_range.1 hi
    have hj := List.mem_range.1 hj
    simp only [badAt, List.getElem?_eq_getElem hj, List.getElem?_eq_getElem (show i < ps.length by omega), Bool.and_eq_true, Bool.not_eq_true'] at hb
    have := h i j (by omega) hj hi hb.2.1 hb.1
    rw [apartR_comm, hb.2.2] at this
    exact absurd this (by decide)
  · intro h i j hi hj hij hm1 hm2
    have h2 := h j (List.mem_range.2 hj)
    rw [badRow, List.any_eq_true] at h2
    have h3 : ¬ badAt ps j i = true := fun e => h2 ⟨i, List.mem_range.2 hij, e⟩
    simp only [badAt, List.getElem?_eq_getElem hi, List.getElem?_eq_getElem hj, hm1, hm2, Bool.true_and, Bool.not_eq_true'] at h3
    rw [apartR_comm]
    simpa using h3
theorem badTo_eq (ps : List PtV) : badTo ps ps.length = overlapBad ps := by
  have h1 : overlapBad ps = !(pairsL (okRegs ps)).all (fun x => apartR x.1 x.2) := by
    unfold overlapBad regAll
    rw [okRegs_all, if_pos rfl]
    cases (pairsL (okRegs ps)).all (fun x => apartR x.1 x.2) <;> simp
  have key : (pairsL (okRegs ps)).all (fun x => apartR x.1 x.2) = true ↔ badTo ps ps.length = false := by
    rw [pairsL_pairwise]
    exact pairwise_bad ps
  rw [h1]
  cases hx : (pairsL (okRegs ps)).all (fun x => apartR x.1 x.2) with
  | true => rw [key.1 hx]; rfl
  | false =>
    cases hb : badTo ps ps.length with
    | true => rfl
    | false => rw [key.2 hb] at hx; exact absurd hx (by decide)
end Go.Proofs.Ytpnbaapjjchlbaa
