/- Chapter 15: what a slot is read as, in closed form; a write, sector by sector; plain. -/
import Derived.Test.YtofagofpeedfcaaGreatSlot8
namespace Go.Proofs.YtofagofpeedfcaaGreat
open Go Go.RowKit Go.Cit

/-- What a slot's first n bytes are read as, of a disk that is up. -/
def rdF (D : Dk) (base n : Nat) : List UInt8 × Int := if 64 * (D.S.length - base) < n then ([], 61) else (contD D (64 * base) n, 0)
theorem rd_all (base en : Nat) (hen : en ≤ 4096) (D : Dk) (hok : D.Ok) (hu : D.up = true) : ∀ (xs : List Pc) (a : Nat) (acc : List UInt8), a ≤ en → Leads base en a xs en → rdP D acc xs = if a < en ∧ 64 * (D.S.length - base) < en then ([], 61) else (acc ++ contD D (64 * base + a) (en - a), 0)
  | [], a, acc, hae, h => by
    have h0 : a = en := h
    rw [rdP, if_neg (by omega), show en - a = 0 by omega]
    simp [contD]
  | x :: xs, a, acc, hae, ⟨h1, h2, h3⟩ => by
    obtain ⟨q1, q2, q3, q4⟩ := pc_in (base := base) h1
    rw [← h2] at q1 q2 q3 q4
    have hsec : x.sec = base + a / 64 := by rw [h2]; rfl
    have hlo : x.lo = a % 64 := by rw [h2]; rfl
    have hhi : x.hi = min 64 (a % 64 + en - a) := by rw [h2]; rfl
    by_cases hi : x.sec < D.S.length
    · have hre : readE D x.sec = 0 := by rw [readE, if_neg (by rw [hu]; decide), if_pos ⟨by omega, by omega⟩]
      have hrr : readR D x.sec = getR D x.sec := by rw [readR, if_pos ⟨hu, by omega, by omega⟩, Int.toNat_natCast]
      have h64 := hok.get hi
      rw [rdP, if_neg (by rw [hre]; decide), rd_all base en hen D hok hu xs _ _ (pcNext_le h1).2 h3, hrr]
      by_cases hc : pcNext en a < en ∧ 64 * (D.S.length - base) < en
      · rw [if_pos hc, if_pos ⟨h1, hc.2⟩]
      · rw [if_neg hc, if_neg (by omega)]
        have e1 : en - a = (x.hi - x.lo) + (en - pcNext en a) := by omega
        rw [e1, contD_add, ← List.append_assoc, show 64 * base + a + (x.hi - x.lo) = 64 * base + pcNext en a by omega]
        congr 3
        apply List.ext_getElem?
        intro j
        by_cases hj : j < x.hi - x.lo
        · rw [contD_get _ _ _ _ hj, List.getElem?_drop, List.getElem?_take, if_pos (by omega)]
          have e2 : (64 * base + a + j) / 64 = x.sec := by omega
          have e3 : (64 * base + a + j) % 64 = x.lo + j := by omega
          rw [e2, e3, List.getElem?_eq_getElem (by omega)]
          rfl
        · rw [List.getElem?_eq_none (by rw [List.length_drop, List.length_take]; omega), List.getElem?_eq_none (by rw [contD_len]; omega)]
    · have hre : readE D x.sec = 61 := by rw [readE, if_neg (by rw [hu]; decide), if_neg (by omega)]
      rw [rdP, if_pos (by rw [hre]; decide), hre, if_pos (by omega)]
theorem rdP_F (base n : Nat) (hn : n ≤ 4096) (D : Dk) (hok : D.Ok) (hu : D.up = true) (xs : List Pc) (h : Leads base n 0 xs n) : rdP D [] xs = rdF D base n := by
  rw [rd_all base n hn D hok hu xs 0 [] (Nat.zero_le _) h, rdF]
  by_cases hc : 64 * (D.S.length - base) < n
  · rw [if_pos ⟨by omega, hc⟩, if_pos hc]
  · rw [if_neg (fun e => hc e.2), if_neg hc]; rfl
theorem rdF_len (D : Dk) (base n : Nat) : (rdF D base n).1.length ≤ n := by
  unfold rdF
  split
  · simp
  · simp [contD_len]
/-- What is told of the bytes of a sector. -/
theorem contD_sec (D : Dk) (hok : D.Ok) (i : Nat) (hi : i < D.S.length) : contD D (64 * i) 64 = getR D i := by
  have h64 := hok.get hi
  apply List.ext_getElem?
  intro j
  by_cases hj : j < 64
  · rw [contD_get _ _ _ _ hj, show (64 * i + j) / 64 = i by omega, show (64 * i + j) % 64 = j by omega, List.getElem?_eq_getElem (by omega)]
    rfl
  · rw [List.getElem?_eq_none (by rw [contD_len]; omega), List.getElem?_eq_none (by omega)]
theorem contD_take (D : Dk) (A m n : Nat) (h : n ≤ m) : (contD D A m).take n = contD D A n := by
  rw [show m = n + (m - n) by omega, contD_add, List.take_left' (contD_len _ _ _)]
/-- How far a write has come, ahead of sector i. -/
def farW (at_ en i : Nat) : Nat := min en (max at_ (64 * i))
theorem far_skip {at_ en i : Nat} (hae : at_ ≤ en) (h : ¬ (at_ < en ∧ at_ < 64 * i + 64 ∧ 64 * i < en)) : farW at_ en (i + 1) = farW at_ en i := by unfold farW; omega
theorem far_step {at_ en i : Nat} (hae : at_ ≤ en) (h : at_ < en ∧ at_ < 64 * i + 64 ∧ 64 * i < en) : farW at_ en i < en ∧ pcNext en (farW at_ en i) = farW at_ en (i + 1) ∧ farW at_ en i / 64 = i := by
  unfold pcNext farW; omega
theorem far_end {at_ en : Nat} (hae : at_ ≤ en) (hen : en ≤ 4096) : farW at_ en 64 = en := by unfold farW; omega
theorem far_start {at_ en : Nat} (hae : at_ ≤ en) : farW at_ en 0 = at_ := by unfold farW; omega
/-- A sector's bytes, patched one by one. -/
theorem patch_one (r m : List UInt8) (lo : Nat) (h : lo + m.length ≤ r.length) (k : Nat) (hk : k < r.length) : (patchL r lo m)[k]? = if lo ≤ k ∧ k < lo + m.length then m[k - lo]? else r[k]? := patch_get h k
end Go.Proofs.YtofagofpeedfcaaGreat
