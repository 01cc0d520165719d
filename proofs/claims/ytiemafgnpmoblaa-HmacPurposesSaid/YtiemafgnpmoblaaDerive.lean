/- hmac.Derive and the reference's: walked. -/
import Derived.Test.YtiemafgnpmoblaaPurpose
import Derived.Test.YtiemafgnpmoblaaHmacSeal
namespace Go.Proofs.Ytiemafgnpmoblaa
open Go Go.RowKit Go.Cit

def deriveB (k s : List UInt8) (zs : List Int) : List UInt8 := hmacB k (formB s zs)

set_option maxRecDepth 100000 in
set_option maxHeartbeats 2000000 in
theorem derive_calls (w : World) (a : Option Addr) (k : List UInt8) (c : Nat) (h : Row w a k c) (hl : k.length ≤ 1000000) (s : List UInt8) (hs9 : s.length ≤ 1000) (a2 : Option Addr) (zs : List Int) (c2 : Nat) (h2 : Ints w a2 zs c2) (hz9 : zs.length ≤ 1000) :
    Calls Try.prog 38 #[.slice a k.length c, .string ⟨s.toArray⟩, .slice a2 zs.length c2] w fun e w' => ∃ g, e = .returned (.slice (some ⟨g, 0, none⟩) 32 32) ∧ w.heap.size ≤ g ∧ ArrB 36 w' g (deriveB k s zs) ∧ Below w.heap.size w w' := by
  have HA := Lib.hid (fun ρ d ty ps af w => alloc_tag ρ d ty ps (af := af) w)
  obtain ⟨X, hX⟩ : ∃ Y, Hid (Y = ((List.replicate 32 (0 : UInt8)).map vb).toArray) := ⟨_, rfl⟩
  rw [← hX.out] at HA
  have HX : Hid (X.size = 32) := by rw [Hid, hX.out]; simp
  have HP := Lib.hid (purpose_calls w s hs9 a2 zs c2 h2 hz9)
  have HK := Lib.hid h
  have hfl := partsB_len s zs
  have hf9 : (formB s zs).length ≤ 1000000 := by omega
  clear h h2 hfl
  obtain ⟨F, hF⟩ : ∃ F, Hid (F = formB s zs) := ⟨_, rfl⟩
  rw [← hF.out] at HP hf9
  go_enter Try.func38, Try.ntmps38
  go_wp2_with fail
  refine HP.out.mono ?_
  rintro e w1 ⟨a1, c1, rfl, hr1, hb1⟩
  have HB1 := Lib.hid hb1
  have HS := Lib.hid (hsum_calls w1 a k c (HK.out.stay hb1) hl a1 F c1 hr1 hf9)
  clear hr1 hb1 HP
  go_wp2_with fail
  refine HS.out.mono ?_
  rintro e w2 ⟨rfl, hb2⟩
  obtain ⟨D, hD⟩ : ∃ D, Hid (D = ((hmacB k F).map vb).toArray) := ⟨_, rfl⟩
  rw [← hD.out]
  have HD : Hid (D.size = 32) := by rw [Hid, hD.out]; simpa using hmacB_len k F
  have HDo : Hid (D.all (·.oneCell') = true) := by rw [Hid, hD.out]; exact arrB_ok _
  have HN2 : Hid ((w2.alloc (.cells X 36)).heap[w2.heap.size]? = some (.cells X 36 (0, 0))) := heap_alloc_new _ _
  have tA := tag_all w2.heap.size
  have HB2 := Lib.hid (HB1.out.trans (hb2.mono HB1.out.size))
  clear hb2 HS
  go_wp2_with (first
    | ((with_reducible refine wpList_value (o := ⟨some 7, .alloc _, _, _, _, _⟩) (by with_unfolding_all rfl) (HA.out _ _ _ _ _ _) ?_))
    | ((with_reducible refine wpList_storeB (o := ⟨none, .store _ (.tmp 7) (.tmp 12), _, _, _, _⟩) row_tag (.tmp 7) (.tmp 12) (by with_unfolding_all rfl) (by with_unfolding_all rfl) (by with_unfolding_all rfl) (by with_unfolding_all rfl) (by with_unfolding_all rfl) HN2.out HX.out HD.out HDo.out ?_); intro w3 hb3 hS3; have HB3 := Lib.hid hb3; have HS3 := Lib.hid hS3; clear hb3 hS3))
  have hs3 := HS3.out.size
  rw [World.size_alloc] at hs3
  have B3' : Below w2.heap.size w2 w3 := ((Below.refl _ w2).alloc (Nat.le_refl _) (.cells X 36)).trans (HS3.out.below (by simp) (fun j hj => by omega))
  have B3 := Lib.hid (HB2.out.trans (B3'.mono HB2.out.size))
  have HG := Lib.hid HB2.out.size
  clear B3' hs3
  go_ret
  refine ⟨w2.heap.size, rfl, HG.out, ?_, B3.out⟩
  have := HB3.out
  rw [hD.out, hF.out] at this
  exact this

set_option maxRecDepth 100000 in
set_option maxHeartbeats 2000000 in
theorem refderive_calls (w : World) (a : Option Addr) (k : List UInt8) (c : Nat) (h : Row w a k c) (hl : k.length ≤ 1000000) (s : List UInt8) (hs9 : s.length ≤ 1000) (a2 : Option Addr) (zs : List Int) (c2 : Nat) (h2 : Ints w a2 zs c2) (hz9 : zs.length ≤ 1000) :
    Calls Try.prog 39 #[.slice a k.length c, .string ⟨s.toArray⟩, .slice a2 zs.length c2] w fun e w' => ∃ a' c', e = .returned (.slice a' 32 c') ∧ Row w' a' (deriveB k s zs) c' ∧ Below w.heap.size w w' := by
  have HP := Lib.hid (refform_calls w s hs9 a2 zs c2 h2 hz9)
  have HK := Lib.hid h
  have hfl := partsB_len s zs
  have hf9 : (formB s zs).length ≤ 1000000 := by omega
  clear h h2 hfl
  obtain ⟨F, hF⟩ : ∃ F, Hid (F = formB s zs) := ⟨_, rfl⟩
  rw [← hF.out] at HP hf9
  go_enter Try.func39, Try.ntmps39
  go_wp2_with fail
  refine HP.out.mono ?_
  rintro e w1 ⟨a1, c1, rfl, hr1, hb1⟩
  have HB1 := Lib.hid hb1
  have HS := Lib.hid (refhsum_calls w1 a k c (HK.out.stay hb1) hl a1 F c1 hr1 hf9)
  clear hr1 hb1 HP
  go_wp2_with fail
  refine HS.out.mono ?_
  rintro e w2 ⟨rfl, hb2⟩
  have HB2 := Lib.hid (HB1.out.trans (hb2.mono HB1.out.size))
  have HY := Lib.hid (refbytes_calls w2 (hmacB k F) (hmacB_len k F))
  clear hb2 HS
  go_wp2_with fail
  refine HY.out.mono ?_
  rintro e w3 ⟨a3, c3, rfl, hO3, hb3⟩
  have B3 := Lib.hid (HB2.out.trans (hb3.mono HB2.out.size))
  have HM3 := Lib.hid hO3.isRow
  clear hO3 hb3 HY
  go_wp2_with fail
  go_ret
  refine ⟨a3, c3, rfl, ?_, B3.out⟩
  have := HM3.out
  rw [hF.out] at this
  exact this
end Go.Proofs.Ytiemafgnpmoblaa
