/- What is taken by back is what it was taken of: plain laws. -/
import Derived.Test.YtglmijcfdcajkaaWireBack
import Derived.Test.YtglmijcfdcajkaaLawWireOrder
import Derived.Test.YtglmijcfdcajkaaWordsOrd
namespace Go.Proofs.Ytglmijcfdcajkaa
open Go Go.RowKit Go.Cit

theorem read_zero {α : Type} {s : St} {n : Nat} {f : List UInt8 → α × Bool} {z : α} (h : s.e = 0) :
    (n ≤ s.l.length ∧ (f (s.l.take n)).2 = true ∧ s.read n f z = ((f (s.l.take n)).1, ⟨s.l.drop n, 0⟩)) ∨ s.read n f z = (z, St.broke) := by
  obtain ⟨l, e⟩ := s
  have h : e = 0 := h
  subst h
  by_cases hn : n ≤ l.length
  · by_cases hf : (f (l.take n)).2 = true
    · exact .inl ⟨hn, hf, read_yes hn hf⟩
    · exact .inr (read_bad hn (by simpa using hf))
  · right
    rw [read_no (fun _ => by omega)]
    rfl
theorem read_broke {α : Type} {n : Nat} {f : List UInt8 → α × Bool} {z : α} : St.broke.read n f z = (z, St.broke) := by
  rw [show St.broke = ⟨[], 50⟩ from rfl, read_no (fun h => absurd h (by decide))]; rfl
theorem bytes_broke : St.broke.bytes = ([], St.broke) := by
  rw [St.bytes, read_broke, if_neg (by decide)]
theorem qOfI_i64Q (q : UInt64) : qOfI (i64Q q) = q := by
  apply UInt64.toNat_inj.1
  have h1 := qOfI_nat (i64Q q)
  have h2 := q_lt q
  unfold i64Q wrap64 at h1
  have : ((qOfI (i64Q q)).toNat : Int) = q.toNat := by
    unfold i64Q wrap64
    omega
  omega
theorem row4_len {x : List UInt8} (hx : x.length = 4) (h : (numB x).toNat ≤ 65536) : rowB (qOfW (wOfI ((numB x).toNat : Int))) 4 = x := by
  have h1 : qOfW (wOfI ((numB x).toNat : Int)) = numB x := by
    apply UInt64.toNat_inj.1
    have := wOfI_nat ((numB x).toNat : Int)
    unfold qOfW
    rw [UInt32.toNat_toUInt64]
    omega
  rw [h1, ← hx]
  exact rowB_numB x (by omega)
theorem bytes_zero {s : St} (h : s.e = 0) : (∃ m rest, m.length ≤ 65536 ∧ s.l = withB m ++ rest ∧ s.bytes = (m, ⟨rest, 0⟩)) ∨ s.bytes = ([], St.broke) := by
  rcases read_zero (n := 4) (f := fLen) (z := 0) h with ⟨hn, hf, hr⟩ | hr
  · have hle : (numB (s.l.take 4)).toNat ≤ 65536 := by simpa [fLen] using hf
    rw [St.bytes, hr, if_pos rfl]
    have hm : ((fLen (s.l.take 4)).1).toNat = (numB (s.l.take 4)).toNat := by simp [fLen]
    dsimp only
    rw [hm]
    rcases read_zero (s := ⟨s.l.drop 4, 0⟩) (n := (numB (s.l.take 4)).toNat) (f := fAll) (z := []) rfl with ⟨hn2, _, hr2⟩ | hr2
    · left
      dsimp only at hn2 hr2
      have hl : ((s.l.drop 4).take (numB (s.l.take 4)).toNat).length = (numB (s.l.take 4)).toNat := by rw [List.length_take]; omega
      refine ⟨(s.l.drop 4).take (numB (s.l.take 4)).toNat, (s.l.drop 4).drop (numB (s.l.take 4)).toNat, by rw [hl]; exact hle, ?_, hr2⟩
      rw [withB, hl, row4_len (by rw [List.length_take]; omega) hle, List.append_assoc, List.take_append_drop, List.take_append_drop]
    · exact .inr hr2
  · right
    rw [St.bytes, hr, if_neg (by decide)]

/-- A field that holds nothing. -/
def FlZ (f : Fl) : Prop := f.x = 0 ∧ f.n = 0 ∧ f.is = false ∧ f.l = [] ∧ f.t = zeros32

theorem back_broke {k : Int} {f : Fl} {s' : St} (h : backIs k St.broke f s') : s' = St.broke ∧ FlZ f := by
  obtain ⟨h0, h1, h2, h3, h4, h5, h6⟩ := h
  simp only [read_broke, bytes_broke, ite_self] at h1 h2 h3 h4 h5 h6
  exact ⟨h6, h1, h2, h3, h4, h5⟩

theorem flag_one (x : UInt8) (h : x.toNat ≤ 1) : flagB (x == bI 1) = [x] := by
  have hx : x = 0 ∨ x = 1 := by
    rcases Nat.lt_or_ge x.toNat 1 with h1 | h1
    · left; apply UInt8.toNat_inj.1; show x.toNat = 0; omega
    · right; apply UInt8.toNat_inj.1; show x.toNat = 1; omega
  rcases hx with rfl | rfl <;> decide

theorem take_one {l : List UInt8} (h : 1 ≤ l.length) : l = l.getD 0 0 :: l.drop 1 := by
  cases l with
  | nil => simp at h
  | cons x r => rfl
theorem take1_get {l : List UInt8} : (l.take 1).getD 0 0 = l.getD 0 0 := by cases l <;> rfl

theorem back_ok {k : Int} {s : St} {f : Fl} {s' : St} (h : backIs k s f s') (hs : s.e = 0) : (s' = St.broke ∧ FlZ f) ∨ (s'.e = 0 ∧ (0 ≤ k → k ≤ 5 → s.l = f.bytes ++ s'.l ∧ 1 ≤ f.bytes.length ∧ f.l.length ≤ f.bytes.length)) := by
  obtain ⟨h0, h1, h2, h3, h4, h5, h6⟩ := h
  by_cases k0 : k = 0
  · subst k0
    simp only [if_true, if_false, show ¬ ((0 : Int) = 1) by decide, show ¬ ((0 : Int) = 2) by decide, show ¬ ((0 : Int) = 3 ∨ (0 : Int) = 4) by decide, show ¬ ((0 : Int) = 5) by decide] at h1 h2 h3 h4 h5 h6
    rcases read_zero (n := 1) (f := fByte) (z := 0) hs with ⟨hn, _, hr⟩ | hr
    · rw [hr] at h1 h6
      right
      rw [h6]
      refine ⟨rfl, fun _ _ => ?_⟩
      have hb : f.bytes = [s.l.getD 0 0] := by rw [Fl.bytes, if_pos h0, h1]; simp only [fByte, take1_get]
      rw [hb, h4]
      exact ⟨take_one hn, by simp, by simp⟩
    · rw [hr] at h1 h6
      exact .inl ⟨h6, h1, h2, h3, h4, h5⟩
  by_cases k1 : k = 1
  · subst k1
    simp only [if_true, if_false, show ¬ ((1 : Int) = 0) by decide, show ¬ ((1 : Int) = 2) by decide, show ¬ ((1 : Int) = 3 ∨ (1 : Int) = 4) by decide, show ¬ ((1 : Int) = 5) by decide] at h1 h2 h3 h4 h5 h6
    rcases read_zero (n := 8) (f := fInt) (z := 0) hs with ⟨hn, _, hr⟩ | hr
    · rw [hr] at h2 h6
      right
      rw [h6]
      refine ⟨rfl, fun _ _ => ?_⟩
      have hl8 : (s.l.take 8).length = 8 := by rw [List.length_take]; omega
      have hb : f.bytes = s.l.take 8 := by
        rw [Fl.bytes, if_neg (by rw [h0]; decide), if_pos h0, h2]
        simp only [fInt]
        rw [qOfI_i64Q]
        have := rowB_numB (s.l.take 8) (by omega)
        rwa [hl8] at this
      rw [hb, h4]
      exact ⟨(List.take_append_drop _ _).symm, by omega, by simp⟩
    · rw [hr] at h2 h6
      exact .inl ⟨h6, h1, h2, h3, h4, h5⟩
  by_cases k2 : k = 2
  · subst k2
    simp only [if_true, if_false, show ¬ ((2 : Int) = 0) by decide, show ¬ ((2 : Int) = 1) by decide, show ¬ ((2 : Int) = 3 ∨ (2 : Int) = 4) by decide, show ¬ ((2 : Int) = 5) by decide] at h1 h2 h3 h4 h5 h6
    rcases read_zero (n := 1) (f := fFlag) (z := false) hs with ⟨hn, hf, hr⟩ | hr
    · rw [hr] at h3 h6
      right
      rw [h6]
      refine ⟨rfl, fun _ _ => ?_⟩
      have hle : (s.l.getD 0 0).toNat ≤ 1 := by
        have : decide (((s.l.take 1).getD 0 0).toNat ≤ 1) = true := hf
        rw [take1_get] at this
        exact of_decide_eq_true this
      have hb : f.bytes = [s.l.getD 0 0] := by
        rw [Fl.bytes, if_neg (by rw [h0]; decide), if_neg (by rw [h0]; decide), if_pos h0, h3]
        simp only [fFlag, take1_get]
        exact flag_one _ hle
      rw [hb, h4]
      exact ⟨take_one hn, by simp, by simp⟩
    · rw [hr] at h3 h6
      exact .inl ⟨h6, h1, h2, h3, h4, h5⟩
  by_cases k3 : k = 3 ∨ k = 4
  · have k5 : k ≠ 5 := by omega
    rw [if_neg k0] at h1
    rw [if_neg k1] at h2
    rw [if_neg k2] at h3
    rw [if_pos k3] at h4
    rw [if_neg k5] at h5
    rw [if_neg k0, if_neg k1, if_neg k2, if_pos k3] at h6
    rcases bytes_zero hs with ⟨m, rest, hm, hl, hr⟩ | hr
    · rw [hr] at h4 h6
      right
      rw [h6]
      refine ⟨rfl, fun _ _ => ?_⟩
      have hb : f.bytes = withB m := by
        rw [Fl.bytes, if_neg (by rw [h0]; exact k0), if_neg (by rw [h0]; exact k1), if_neg (by rw [h0]; exact k2), if_pos (by rw [h0]; exact k3), h4]
      have hwl : (withB m).length = 4 + m.length := by rw [withB, List.length_append, rowB_length]
      rw [hb, h4]
      exact ⟨hl, by omega, by show m.length ≤ _; omega⟩
    · rw [hr] at h4 h6
      exact .inl ⟨h6, h1, h2, h3, h4, h5⟩
  by_cases k5 : k = 5
  · rw [if_neg k0] at h1
    rw [if_neg k1] at h2
    rw [if_neg k2] at h3
    rw [if_neg k3] at h4
    rw [if_pos k5] at h5
    rw [if_neg k0, if_neg k1, if_neg k2, if_neg k3, if_pos k5] at h6
    rcases read_zero (n := 32) (f := fTag) (z := zeros32) hs with ⟨hn, _, hr⟩ | hr
    · rw [hr] at h5 h6
      right
      rw [h6]
      refine ⟨rfl, fun _ _ => ?_⟩
      have hb : f.bytes = s.l.take 32 := by
        rw [Fl.bytes, if_neg (by rw [h0]; exact k0), if_neg (by rw [h0]; exact k1), if_neg (by rw [h0]; exact k2), if_neg (by rw [h0]; exact k3), if_pos (by rw [h0]; exact k5), h5]; rfl
      rw [hb, h4]
      exact ⟨(List.take_append_drop _ _).symm, by rw [List.length_take]; omega, by simp⟩
    · rw [hr] at h5 h6
      exact .inl ⟨h6, h1, h2, h3, h4, h5⟩
  · rw [if_neg k0, if_neg k1, if_neg k2, if_neg k3, if_neg k5] at h6
    right
    rw [h6]
    exact ⟨hs, fun a b => by omega⟩

/-- A reader is whole, or broken by a field. -/
def OkSt (s : St) : Prop := s.e = 0 ∨ s = St.broke
theorem count_ok {s : St} (most : Int) (h : OkSt s) : OkSt (s.count most).2 ∧ (s = St.broke → s.count most = (0, St.broke)) := by
  have hb : ∀ m, St.broke.count m = (0, St.broke) := fun m => by
    rw [show St.broke = ⟨[], 50⟩ from rfl, count_no (fun h => absurd h (by decide))]; rfl
  refine ⟨?_, fun e => by rw [e]; exact hb _⟩
  rcases h with h | h
  · unfold St.count St.next
    rw [if_neg (by rw [h]; simp)]
    split
    · rename_i x s' hx
      split at hx
      · injection hx with h1 h2
        split
        · left; rw [← h2]
        · right; rfl
      · exact absurd hx (by simp)
    · rename_i s' hx
      split at hx
      · exact absurd hx (by simp)
      · injection hx with h1 h2
        right; rw [← h2]
  · rw [h, hb]; exact .inr rfl
theorem back_st {k : Int} {s : St} {f : Fl} {s' : St} (h : backIs k s f s') (hs : OkSt s) : OkSt s' := by
  rcases hs with hs | rfl
  · rcases back_ok h hs with ⟨h1, _⟩ | ⟨h1, _⟩
    · exact .inr h1
    · exact .inl h1
  · exact .inr (back_broke h).1
end Go.Proofs.Ytglmijcfdcajkaa
