/- Chapter 15: what a write into a slot leaves, of a disk that is not armed; plain. -/
import Derived.Test.YtofagofpeedfcaaGreatSlot6
namespace Go.Proofs.YtofagofpeedfcaaGreat
open Go Go.RowKit Go.Cit

/-- What a write of l at the place A (counted over all sectors) leaves. -/
structure Wr (D D' : Dk) (A : Nat) (l : List UInt8) : Prop where
  ok : D'.Ok
  up : D'.up = true
  left : D'.left = 0
  S : D'.S = D.S
  at_ : ∀ i k, i < D.S.length → k < 64 → (getR D' i)[k]? = if A ≤ 64 * i + k ∧ 64 * i + k < A + l.length then l[64 * i + k - A]? else (getR D i)[k]?
  dirty : ∀ i, i ∈ dirtyL D'.C → i ∈ dirtyL D.C ∨ (A < 64 * i + 64 ∧ 64 * i < A + l.length)
theorem getR_put {D : Dk} (h : D.Ok) {i : Nat} (hi : i < D.S.length) (r : List UInt8) (j : Nat) : getR (putD i r (tickD D)) j = if j = i then r else getR D j := by
  unfold getR putD tickD
  simp only []
  by_cases e : j = i
  · subst e
    rw [if_pos rfl, List.getElem?_set_self (by rw [h.len]; exact hi)]
    rfl
  · rw [if_neg e, List.getElem?_set_ne (Ne.symm e)]
theorem patch_get {r m : List UInt8} {lo : Nat} (h : lo + m.length ≤ r.length) (k : Nat) : (patchL r lo m)[k]? = if lo ≤ k ∧ k < lo + m.length then m[k - lo]? else r[k]? := by
  unfold patchL
  rw [List.append_assoc, List.getElem?_append, List.length_take, Nat.min_eq_left (by omega)]
  by_cases h1 : k < lo
  · rw [if_pos h1, if_neg (by omega), List.getElem?_take, if_pos h1]
  · rw [if_neg h1, List.getElem?_append]
    by_cases h2 : k - lo < m.length
    · rw [if_pos h2, if_pos (by omega)]
    · rw [if_neg h2, if_neg (by omega), List.getElem?_drop]
      congr 1
      omega
theorem wr_plain (base en : Nat) (hen : en ≤ 4096) : ∀ (xs : List Pc) (D : Dk) (a : Nat) (l : List UInt8), D.Ok → D.up = true → D.left = 0 → base + 64 ≤ D.S.length → l.length = en - a → a ≤ en → Leads base en a xs en → (wrP D l xs).2 = 0 ∧ Wr D (wrP D l xs).1 (64 * base + a) l
  | [], D, a, l, hok, hu, hl, hb, hll, hae, h => by
    have h0 : a = en := h
    have hl0 : l = [] := List.eq_nil_of_length_eq_zero (by omega)
    subst hl0
    refine ⟨rfl, hok, hu, hl, rfl, fun i k hi hk => ?_, fun i hi => .inl hi⟩
    rw [if_neg (by simp <;> omega)]
    rfl
  | x :: xs, D, a, l, hok, hu, hl, hb, hll, hae, ⟨h1, h2, h3⟩ => by
    obtain ⟨q1, q2, q3, q4⟩ := pc_in (base := base) h1
    rw [← h2] at q1 q2 q3 q4
    have hsec : x.sec = base + a / 64 := by rw [h2]; rfl
    have hlo : x.lo = a % 64 := by rw [h2]; rfl
    have hi : x.sec < D.S.length := by omega
    have hre : readE D x.sec = 0 := by rw [readE, if_neg (by rw [hu]; decide), if_pos ⟨by omega, by omega⟩]
    have hwe : writeE D x.sec 64 = 0 := by rw [writeE, if_neg (by rw [hu]; decide), if_neg (by simp; omega), if_neg (by decide), if_neg (by rw [hl]; decide)]
    have hse : stepE D x = 0 := by rw [stepE, if_neg (by rw [hre]; decide), hwe]
    have h64 := hok.get hi
    have hkl : (l.take (x.hi - x.lo)).length = x.hi - x.lo := by rw [List.length_take]; omega
    have hpl : (patchL (getR D x.sec) x.lo (l.take (x.hi - x.lo))).length = 64 := by rw [patch_len (by rw [hkl, h64]; omega), h64]
    obtain ⟨r, hr⟩ : ∃ r, r = patchL (getR D x.sec) x.lo (l.take (x.hi - x.lo)) := ⟨_, rfl⟩
    have hst : stepT D l x = putD x.sec r (tickD D) := by
      rw [stepT, if_neg (by rw [hre]; decide), ← hr, writeT, if_neg, if_neg (by rw [hl]; decide), Int.toNat_natCast]
      rw [hr, hpl]
      simp [hu]
      omega
    have hok2 : (stepT D l x).Ok := stepT_ok hok l x
    obtain ⟨e0, hw⟩ := wr_plain base en hen xs (stepT D l x) (pcNext en a) (l.drop (x.hi - x.lo)) hok2 (by rw [hst]; exact hu) (by rw [hst]; show D.left - 1 = 0; omega) (by rw [stepT_len hok]; exact hb) (by rw [List.length_drop]; omega) (pcNext_le h1).2 h3
    rw [wrP, if_neg (by rw [hse]; decide)]
    refine ⟨e0, hw.ok, hw.up, hw.left, by rw [hw.S, hst]; rfl, fun i k hi2 hk => ?_, fun i hi2 => ?_⟩
    · rw [hw.at_ i k (by rw [stepT_len hok]; exact hi2) hk, List.length_drop]
      by_cases g1 : 64 * base + pcNext en a ≤ 64 * i + k ∧ 64 * i + k < 64 * base + pcNext en a + (l.length - (x.hi - x.lo))
      · rw [if_pos g1, if_pos (by omega), List.getElem?_drop]
        congr 1
        omega
      · rw [if_neg g1, hst, getR_put hok hi]
        by_cases g2 : i = x.sec
        · rw [if_pos g2, hr, patch_get (by rw [hkl, h64]; omega), hkl, ← g2]
          by_cases g3 : x.lo ≤ k ∧ k < x.lo + (x.hi - x.lo)
          · rw [if_pos g3, if_pos (by omega), List.getElem?_take, if_pos (by omega)]
            congr 1
            omega
          · rw [if_neg g3, if_neg (by omega)]
        · rw [if_neg g2, if_neg (by omega)]
    · rcases hw.dirty i hi2 with g | g
      · rw [hst] at g
        by_cases g2 : i = x.sec
        · exact .inr ⟨by omega, by omega⟩
        · obtain ⟨r2, g3⟩ := mem_dirtyL.1 g
          refine .inl (mem_dirtyL.2 ⟨r2, ?_⟩)
          have : (D.C.set x.sec (some r))[i]? = some (some r2) := g3
          rwa [List.getElem?_set_ne (Ne.symm g2)] at this
      · rw [List.length_drop] at g
        exact .inr ⟨by omega, by omega⟩
/-- Bytes of a disk, counted over all sectors. -/
def contD (D : Dk) (A n : Nat) : List UInt8 := (List.range n).map fun j => ((getR D ((A + j) / 64))[(A + j) % 64]?).getD 0
theorem contD_len (D : Dk) (A n : Nat) : (contD D A n).length = n := by simp [contD]
theorem contD_add (D : Dk) (A m n : Nat) : contD D A (m + n) = contD D A m ++ contD D (A + m) n := by
  unfold contD
  rw [List.range_add, List.map_append, List.map_map]
  congr 1
  apply List.map_congr_left
  intro j _
  show ((getR D ((A + (m + j)) / 64))[(A + (m + j)) % 64]?).getD 0 = _
  rw [Nat.add_assoc]
theorem contD_get (D : Dk) (A n j : Nat) (h : j < n) : (contD D A n)[j]? = some (((getR D ((A + j) / 64))[(A + j) % 64]?).getD 0) := by
  unfold contD
  rw [List.getElem?_map, List.getElem?_range h]; rfl
theorem rd_plain (base en : Nat) (hen : en ≤ 4096) (D : Dk) (hok : D.Ok) (hu : D.up = true) (hb : base + 64 ≤ D.S.length) : ∀ (xs : List Pc) (a : Nat) (acc : List UInt8), a ≤ en → Leads base en a xs en → rdP D acc xs = (acc ++ contD D (64 * base + a) (en - a), 0)
  | [], a, acc, hae, h => by
    have h0 : a = en := h
    rw [rdP, show en - a = 0 by omega]
    simp [contD]
  | x :: xs, a, acc, hae, ⟨h1, h2, h3⟩ => by
    obtain ⟨q1, q2, q3, q4⟩ := pc_in (base := base) h1
    rw [← h2] at q1 q2 q3 q4
    have hsec : x.sec = base + a / 64 := by rw [h2]; rfl
    have hlo : x.lo = a % 64 := by rw [h2]; rfl
    have hi : x.sec < D.S.length := by omega
    have hre : readE D x.sec = 0 := by rw [readE, if_neg (by rw [hu]; decide), if_pos ⟨by omega, by omega⟩]
    have hrr : readR D x.sec = getR D x.sec := by rw [readR, if_pos ⟨hu, by omega, by omega⟩, Int.toNat_natCast]
    have h64 := hok.get hi
    rw [rdP, if_neg (by rw [hre]; decide), rd_plain base en hen D hok hu hb xs _ _ (pcNext_le h1).2 h3, hrr]
    have e1 : en - a = (x.hi - x.lo) + (en - pcNext en a) := by omega
    rw [e1, contD_add, ← List.append_assoc, show 64 * base + a + (x.hi - x.lo) = 64 * base + pcNext en a by omega]
    congr 3
    apply List.ext_getElem?
    intro j
    by_cases hj : j < x.hi - x.lo
    · rw [contD_get _ _ _ _ hj, List.getElem?_drop, List.getElem?_take, if_pos (by omega)]
      have e2 : (64 * base + a + j) / 64 = x.sec := by omega
      have e3 : (64 * base + a + j) % 64 = x.lo + j := by omega
      rw [e2, e3, List.getElem?_eq_getElem (by omega)]
      rfl
    · rw [List.getElem?_eq_none (by rw [List.length_drop, List.length_take]; omega), List.getElem?_eq_none (by rw [contD_len]; omega)]
/-- The bytes behind a write. -/
theorem Wr.cont {D D' : Dk} {A : Nat} {l : List UInt8} (h : Wr D D' A l) (hok : D.Ok) {B n : Nat} (hB : B + n ≤ 64 * D.S.length) (j : Nat) (hj : j < n) : (contD D' B n)[j]? = if A ≤ B + j ∧ B + j < A + l.length then l[B + j - A]? else (contD D B n)[j]? := by
  have hi : (B + j) / 64 < D.S.length := by omega
  have hk : (B + j) % 64 < 64 := Nat.mod_lt _ (by decide)
  have e1 : 64 * ((B + j) / 64) + (B + j) % 64 = B + j := by omega
  have h2 := h.at_ _ _ hi hk
  rw [e1] at h2
  rw [contD_get _ _ _ _ hj, contD_get _ _ _ _ hj, h2]
  have h64 := hok.get hi
  by_cases g : A ≤ B + j ∧ B + j < A + l.length
  · rw [if_pos g, if_pos g, List.getElem?_eq_getElem (by omega)]; rfl
  · rw [if_neg g, if_neg g]
end Go.Proofs.YtofagofpeedfcaaGreat
