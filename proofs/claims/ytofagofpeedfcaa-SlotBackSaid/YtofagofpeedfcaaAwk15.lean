/- Chapter 15's examples: plain part. -/
import Derived.Test.YtofagofpeedfcaaSlot8
namespace Go.Proofs.Ytofagofpeedfcaa
open Go Go.RowKit Go.Cit

theorem newD_len (n : Nat) : (newD n).S.length = n := List.length_replicate
theorem awk_leads : Leads (3 + 64 * 0) (62 + 3) 62 [⟨3, 62, 64⟩, ⟨4, 0, 1⟩] (62 + 3) := ⟨by decide, rfl, by decide, rfl, rfl⟩
theorem awk_dirty (r1 r2 : List UInt8) : dirtyL (((List.replicate 323 (none : Option (List UInt8))).set 3 (some r1)).set 4 (some r2)) = [3, 4] := by kernel_rfl
/-- The disk of the example, behind its write. -/
theorem awk_write {xs : List Pc} (h : Leads (3 + 64 * 0) (62 + 3) 62 xs (62 + 3)) : (wrP (newD 323) [97, 98, 99] xs).2 = 0 ∧ dirtyI (wrP (newD 323) [97, 98, 99] xs).1.C = [3, 4] ∧ Wr (newD 323) (wrP (newD 323) [97, 98, 99] xs).1 254 [97, 98, 99] := by
  have hok := newD_ok 323 (by decide) (by decide)
  obtain ⟨h0, hw⟩ := wr_plain 3 65 (by decide) xs (newD 323) 62 [97, 98, 99] hok rfl rfl (by rw [newD_len]; decide) rfl (by decide) h
  refine ⟨h0, ?_, hw⟩
  obtain rfl := h.det awk_leads
  have hre : ∀ (D : Dk) (i : Nat), D.up = true → i < D.S.length → readE D i = 0 := fun D i hu hi => by rw [readE, if_neg (by rw [hu]; decide), if_pos ⟨by omega, by omega⟩]
  have hstep : ∀ (D : Dk) (m : List UInt8) (x : Pc), D.Ok → D.up = true → D.left = 0 → x.sec < D.S.length → x.lo ≤ x.hi → x.hi ≤ 64 → x.hi - x.lo ≤ m.length → ∃ r, stepE D x = 0 ∧ stepT D m x = putD x.sec r (tickD D) := fun D m x ho hu hl hx h1 h2 h3 => by
    refine ⟨patchL (getR D x.sec) x.lo (m.take (x.hi - x.lo)), ?_, ?_⟩
    · rw [stepE, if_neg (by rw [hre D _ hu hx]; decide), writeE, if_neg (by rw [hu]; decide), if_neg (by simp; omega), if_neg (by decide), if_neg (by rw [hl]; decide)]
    · have h64 := ho.get hx
      have hkl : (m.take (x.hi - x.lo)).length = x.hi - x.lo := by rw [List.length_take]; omega
      have hpl : (patchL (getR D x.sec) x.lo (m.take (x.hi - x.lo))).length = 64 := by rw [patch_len (by rw [hkl, h64]; omega), h64]
      rw [stepT, if_neg (by rw [hre D _ hu hx]; decide), writeT, if_neg (by rw [hpl]; simp [hu]; omega), if_neg (by rw [hl]; decide), Int.toNat_natCast]
  obtain ⟨r1, e1, t1⟩ := hstep (newD 323) [97, 98, 99] ⟨3, 62, 64⟩ hok rfl rfl (by rw [newD_len]; decide) (by decide) (by decide) (by decide)
  have hok2 : (stepT (newD 323) [97, 98, 99] ⟨3, 62, 64⟩).Ok := stepT_ok hok _ _
  rw [wrP, if_neg (by rw [e1]; decide)]
  rw [t1] at hok2 ⊢
  obtain ⟨r2, e2, t2⟩ := hstep (putD 3 r1 (tickD (newD 323))) [99] ⟨4, 0, 1⟩ hok2 rfl rfl (by show 4 < (newD 323).S.length; rw [newD_len]; decide) (by decide) (by decide) (by decide)
  rw [show ([97, 98, 99] : List UInt8).drop ((⟨3, 62, 64⟩ : Pc).hi - (⟨3, 62, 64⟩ : Pc).lo) = [99] from rfl, wrP, if_neg (by rw [e2]; decide), t2, wrP]
  show (dirtyL (((List.replicate 323 (none : Option (List UInt8))).set 3 (some r1)).set 4 (some r2))).map Int.ofNat = [3, 4]
  rw [awk_dirty]
  rfl
/-- What is read of it. -/
theorem awk_read {D : Dk} (h : Wr (newD 323) D 254 [97, 98, 99]) : contD D 192 66 = List.replicate 62 0 ++ [97, 98, 99] ++ [0] := by
  have hok := newD_ok 323 (by decide) (by decide)
  apply List.ext_getElem?
  intro j
  by_cases hj : j < 66
  · rw [h.cont hok (by rw [newD_len]; decide) j hj, show ([97, 98, 99] : List UInt8).length = 3 from rfl]
    by_cases g : 254 ≤ 192 + j ∧ 192 + j < 254 + 3
    · rw [if_pos g]
      obtain h1 | h1 | h1 : j = 62 ∨ j = 63 ∨ j = 64 := by omega
      · subst h1; rfl
      · subst h1; rfl
      · subst h1; rfl
    · rw [if_neg g, contD_get _ _ _ _ hj]
      have e : (getR (newD 323) ((192 + j) / 64))[(192 + j) % 64]? = some 0 := by
        have h1 : (192 + j) / 64 < 323 := by omega
        have h2 : (192 + j) % 64 < 64 := Nat.mod_lt _ (by decide)
        unfold getR newD
        simp only []
        rw [List.getElem?_replicate, if_pos h1, List.getElem?_replicate, if_pos h1]
        show (List.replicate 64 (0 : UInt8))[(192 + j) % 64]? = some 0
        rw [List.getElem?_replicate, if_pos h2]
      rw [e]
      by_cases g2 : j < 62
      · rw [List.append_assoc, List.getElem?_append_left (by simp; omega), List.getElem?_replicate, if_pos g2]; rfl
      · obtain rfl : j = 65 := by omega
        rfl
  · rw [List.getElem?_eq_none (by rw [contD_len]; omega), List.getElem?_eq_none (by simp; omega)]
end Go.Proofs.Ytofagofpeedfcaa
