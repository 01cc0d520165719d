/- hmac: a key's short form. Walked. -/
import Derived.Test.YtiemafgnpmoblaaGe
import Derived.Test.YtiemafgnpmoblaaGf
import Derived.Test.YtiemafgnpmoblaaGc
import Derived.WalkSpells
import Derived.Lib.SliceRun
namespace Go.Proofs.Ytiemafgnpmoblaa
open Go Go.RowKit Go.Cit

set_option maxRecDepth 100000 in
/-- slices.Clone. -/
theorem sclone_calls (w : World) (a : Option Addr) (l : List UInt8) (c : Nat) (h : Row w a l c) (hl : l.length ≤ 1000000000) :
    Calls Try.prog 63 #[.slice a l.length c] w fun e w' => ∃ a' c', e = .returned (.slice a' l.length c') ∧ Cit.Own 5 w.heap.size w' a' l c' ∧ Below w.heap.size w w' := by
  cases a with
  | none =>
    have h0 := h.nil rfl
    have h1 := h.le
    obtain rfl : l = [] := List.eq_nil_of_length_eq_zero (by omega)
    subst h0
    show Calls Try.prog 63 #[.slice none 0 0] w _
    have hq := fun w : World => Lib.run_eql_slice_nil (P := Try.prog) w 25 5 none 0 0 0 0 Try.underlying25
    go_enter Try.func63, Try.ntmps63
    go_wp2_with fail
    go_ret
    exact ⟨none, 0, rfl, Cit.Own.nil _ _ _, Below.refl _ _⟩
  | some x =>
    have hq := fun w : World => Lib.run_eql_slice_nil (P := Try.prog) w 25 5 (some x) l.length c 0 0 Try.underlying25
    have B0 : Below w.heap.size w (w.alloc (.cells #[] 5)) := (Below.refl _ _).alloc (Nat.le_refl _) _
    have O0 := own_lit w #[] 5 [] rfl (by simp)
    have HO := Lib.hid O0
    have HR := Lib.hid (h.stay B0)
    have HB := Lib.hid B0
    clear O0 B0 h
    go_enter Try.func63, Try.ntmps63
    go_wp2_with (first
      | ((with_reducible refine wp_append_row (o := ⟨some 7, .call _, _, _, _, _⟩) bt (.tmp 5) (.tmp 6) (by with_unfolding_all rfl) (by with_unfolding_all rfl) HO.out HR.out (by simp; omega) HB.out.size (by with_unfolding_all rfl) (by with_unfolding_all rfl) ?_); intro a2 c2 w2 hO2 hg2; rw [List.nil_append] at hO2; have HO2 := Lib.hid hO2; have HB2 := Lib.hid (HB.out.trans (grown_below hg2 HB.out.size (fun k hk => (HO.out.blk_ge hk).1))); clear hO2 hg2))
    go_ret
    exact ⟨a2, c2, rfl, HO2.out, HB2.out⟩

/-- A key's short form. -/
def shortK (k : List UInt8) : List UInt8 := if 64 < k.length then sumB k else k
theorem shortK_len (k : List UInt8) : (shortK k).length ≤ 64 := by
  unfold shortK; split
  · rw [sumB_len]; decide
  · omega
set_option maxRecDepth 100000 in
set_option maxHeartbeats 2000000 in
theorem short_calls (w : World) (a : Option Addr) (k : List UInt8) (c : Nat) (h : Row w a k c) (hl : k.length ≤ 10000000) :
    Calls Try.prog 34 #[.slice a k.length c] w fun e w' => ∃ a' c', e = .returned (.slice a' (shortK k).length c') ∧ Cit.Own 5 w.heap.size w' a' (shortK k) c' ∧ Below w.heap.size w w' := by
  by_cases h64 : 64 < k.length
  · have d1 : decide ((64 : Int) < (k.length : Int)) = true := by simp; omega
    have d1' : decide (64 < k.length) = true := by simpa using h64
    have HE : Hid (shortK k = sumB k) := by rw [Hid, shortK, if_pos h64]
    have HA := Lib.hid (fun ρ d ty ps af w => alloc_tag ρ d ty ps (af := af) w)
    obtain ⟨X, hX⟩ : ∃ Y, Hid (Y = ((List.replicate 32 (0 : UInt8)).map vb).toArray) := ⟨_, rfl⟩
    rw [← hX.out] at HA
    have HX : Hid (X.size = 32) := by rw [Hid, hX.out]; simp
    have HS := Lib.hid (sum_calls w a k c h (by omega))
    clear h
    rw [HE.out]
    go_enter Try.func34, Try.ntmps34
    go_wp2_with fail
    refine HS.out.mono ?_
    rintro e w2 ⟨rfl, hb2⟩
    obtain ⟨D, hD⟩ : ∃ D, Hid (D = ((sumB k).map vb).toArray) := ⟨_, rfl⟩
    rw [← hD.out]
    have HD : Hid (D.size = 32) := by rw [Hid, hD.out]; simpa using sumB_len k
    have HDo : Hid (D.all (·.oneCell') = true) := by rw [Hid, hD.out]; exact arrB_ok _
    have HN2 : Hid ((w2.alloc (.cells X 36)).heap[w2.heap.size]? = some (.cells X 36 (0, 0))) := heap_alloc_new _ _
    have tA := tag_all w2.heap.size
    have HB2 := Lib.hid hb2
    clear hb2 HS
    go_wp2_with (first
      | ((with_reducible refine wpList_value (o := ⟨some 3, .alloc _, _, _, _, _⟩) (by with_unfolding_all rfl) (HA.out _ _ _ _ _ _) ?_))
      | ((with_reducible refine wpList_storeB (o := ⟨none, .store _ (.tmp 3) (.tmp 8), _, _, _, _⟩) row_tag (.tmp 3) (.tmp 8) (by with_unfolding_all rfl) (by with_unfolding_all rfl) (by with_unfolding_all rfl) (by with_unfolding_all rfl) (by with_unfolding_all rfl) HN2.out HX.out HD.out HDo.out ?_); intro w3 hb3 hS3; have HB3 := Lib.hid hb3; have HS3 := Lib.hid hS3; clear hb3 hS3))
    have hs3 := HS3.out.size
    rw [World.size_alloc] at hs3
    have B3' : Below w2.heap.size w2 w3 := ((Below.refl _ w2).alloc (Nat.le_refl _) (.cells X 36)).trans (HS3.out.below (by simp) (fun j hj => by omega))
    have B3 := HB2.out.trans (B3'.mono HB2.out.size)
    have hR : Row w3 (some ⟨w2.heap.size, 0, none⟩) (sumB k) 32 := by
      have hx := HB3.out
      rw [hD.out] at hx
      have := ArrB.row (T := 36) (l := sumB k) hx (by rw [sumB_len]; decide)
      rwa [sumB_len] at this
    have hc := sclone_calls w3 _ (sumB k) 32 hR (by rw [sumB_len]; decide)
    rw [sumB_len] at hc
    have HC := Lib.hid hc
    clear hR hc B3'
    go_wp2_with fail
    refine HC.out.mono ?_
    rintro e w4 ⟨a4, c4, rfl, hO4, hb4⟩
    have HO4 := Lib.hid (hO4.low B3.size)
    have HB4 := Lib.hid (B3.trans (hb4.mono B3.size))
    clear hO4 hb4
    go_wp2_with fail
    go_ret
    exact ⟨a4, c4, by rw [sumB_len]; rfl, HO4.out, HB4.out⟩
  · have d1 : decide ((64 : Int) < (k.length : Int)) = false := by simp; omega
    have d1' : decide (64 < k.length) = false := by simpa using h64
    have HE : Hid (shortK k = k) := by rw [Hid, shortK, if_neg h64]
    have HC := Lib.hid (sclone_calls w a k c h (by omega))
    clear h
    rw [HE.out]
    go_enter Try.func34, Try.ntmps34
    go_wp2_with fail
    refine HC.out.mono ?_
    rintro e w4 ⟨a4, c4, rfl, hO4, hb4⟩
    go_wp2_with fail
    go_ret
    exact ⟨a4, c4, rfl, hO4, hb4⟩
end Go.Proofs.Ytiemafgnpmoblaa
