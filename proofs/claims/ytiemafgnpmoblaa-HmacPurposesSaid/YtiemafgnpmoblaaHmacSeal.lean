/- hmac.Seal, the reference's Seal: walked. -/
import Derived.Test.YtiemafgnpmoblaaRefHsum
namespace Go.Proofs.Ytiemafgnpmoblaa
open Go Go.RowKit Go.Cit

def sealB (k b : List UInt8) : List UInt8 := b ++ hmacB k b
theorem sealB_len (k b : List UInt8) : (sealB k b).length = b.length + 32 := by unfold sealB; rw [List.length_append, hmacB_len]

set_option maxRecDepth 100000 in
set_option maxHeartbeats 2000000 in
theorem seal_calls (w : World) (a : Option Addr) (k : List UInt8) (c : Nat) (h : Row w a k c) (hl : k.length ≤ 1000000) (a2 : Option Addr) (b : List UInt8) (c2 : Nat) (h2 : Row w a2 b c2) (hl2 : b.length ≤ 1000000) :
    Calls Try.prog 40 #[.slice a k.length c, .slice a2 b.length c2] w fun e w' => ∃ a' c', e = .returned (.slice a' (sealB k b).length c') ∧ Row w' a' (sealB k b) c' ∧ Below w.heap.size w w' := by
  have HA := Lib.hid (fun ρ d ty ps af w => alloc_tag ρ d ty ps (af := af) w)
  obtain ⟨X, hX⟩ : ∃ Y, Hid (Y = ((List.replicate 32 (0 : UInt8)).map vb).toArray) := ⟨_, rfl⟩
  rw [← hX.out] at HA
  have HX : Hid (X.size = 32) := by rw [Hid, hX.out]; simp
  have HS := Lib.hid (hsum_calls w a k c h hl a2 b c2 h2 hl2)
  have HH2 := Lib.hid h2
  clear h h2
  go_enter Try.func40, Try.ntmps40
  go_wp2_with fail
  refine HS.out.mono ?_
  rintro e w2 ⟨rfl, hb2⟩
  obtain ⟨D, hD⟩ : ∃ D, Hid (D = ((hmacB k b).map vb).toArray) := ⟨_, rfl⟩
  rw [← hD.out]
  have HD : Hid (D.size = 32) := by rw [Hid, hD.out]; simpa using hmacB_len k b
  have HDo : Hid (D.all (·.oneCell') = true) := by rw [Hid, hD.out]; exact arrB_ok _
  have HN2 : Hid ((w2.alloc (.cells X 36)).heap[w2.heap.size]? = some (.cells X 36 (0, 0))) := heap_alloc_new _ _
  have tA := tag_all w2.heap.size
  have HB2 := Lib.hid hb2
  clear hb2 HS
  go_wp2_with (first
    | ((with_reducible refine wpList_value (o := ⟨some 5, .alloc _, _, _, _, _⟩) (by with_unfolding_all rfl) (HA.out _ _ _ _ _ _) ?_))
    | ((with_reducible refine wpList_storeB (o := ⟨none, .store _ (.tmp 5) (.tmp 8), _, _, _, _⟩) row_tag (.tmp 5) (.tmp 8) (by with_unfolding_all rfl) (by with_unfolding_all rfl) (by with_unfolding_all rfl) (by with_unfolding_all rfl) (by with_unfolding_all rfl) HN2.out HX.out HD.out HDo.out ?_); intro w3 hb3 hS3; have HB3 := Lib.hid hb3; have HS3 := Lib.hid hS3; clear hb3 hS3))
  have hs3 := HS3.out.size
  rw [World.size_alloc] at hs3
  have B3' : Below w2.heap.size w2 w3 := ((Below.refl _ w2).alloc (Nat.le_refl _) (.cells X 36)).trans (HS3.out.below (by simp) (fun j hj => by omega))
  have B3 := HB2.out.trans (B3'.mono HB2.out.size)
  have hR : Row w3 (some ⟨w2.heap.size, 0, none⟩) (hmacB k b) 32 := by
    have hx := HB3.out
    rw [hD.out] at hx
    have := ArrB.row (T := 36) (l := hmacB k b) hx (by rw [hmacB_len]; decide)
    rwa [hmacB_len] at this
  have hc := cat2_calls w3 25 (HH2.out.stay B3) hR (by omega) (by rw [hmacB_len]; decide)
  rw [hmacB_len] at hc
  have HC := Lib.hid hc
  clear hR hc B3'
  go_wp2_with fail
  refine HC.out.mono ?_
  rintro e w4 ⟨a4, c4, rfl, hm4, hb4⟩
  have HM4 := Lib.hid hm4.row
  have HB4 := Lib.hid (B3.trans (hb4.mono B3.size))
  have HSL : Hid ((b ++ hmacB k b).length = (sealB k b).length) := rfl
  rw [HSL.out]
  clear hm4 hb4
  go_wp2_with fail
  go_ret
  exact ⟨a4, c4, rfl, HM4.out, HB4.out⟩

set_option maxRecDepth 100000 in
set_option maxHeartbeats 2000000 in
theorem refseal_calls (w : World) (a : Option Addr) (k : List UInt8) (c : Nat) (h : Row w a k c) (hl : k.length ≤ 1000000) (a2 : Option Addr) (b : List UInt8) (c2 : Nat) (h2 : Row w a2 b c2) (hl2 : b.length ≤ 1000000) :
    Calls Try.prog 43 #[.slice a k.length c, .slice a2 b.length c2] w fun e w' => ∃ a' c', e = .returned (.slice a' (sealB k b).length c') ∧ Row w' a' (sealB k b) c' ∧ Below w.heap.size w w' := by
  have HS := Lib.hid (refhsum_calls w a k c h hl a2 b c2 h2 hl2)
  have HH2 := Lib.hid h2
  clear h h2
  go_enter Try.func43, Try.ntmps43
  go_wp2_with fail
  refine HS.out.mono ?_
  rintro e w2 ⟨rfl, hb2⟩
  have HB2 := Lib.hid hb2
  have HY := Lib.hid (refbytes_calls w2 (hmacB k b) (hmacB_len k b))
  clear hb2 HS
  go_wp2_with fail
  refine HY.out.mono ?_
  rintro e w3 ⟨a3, c3, rfl, hO3, hb3⟩
  have B3 := HB2.out.trans (hb3.mono HB2.out.size)
  have hc := refcat_calls w3 a2 a3 b (hmacB k b) c2 c3 (HH2.out.stay B3) hO3.isRow (by omega) (by rw [hmacB_len]; decide)
  rw [hmacB_len] at hc
  have HC := Lib.hid hc
  clear hO3 hb3 hc HY
  go_wp2_with fail
  refine HC.out.mono ?_
  rintro e w4 ⟨a4, c4, rfl, hO4, hb4⟩
  have HM4 := Lib.hid hO4.isRow
  have HB4 := Lib.hid (B3.trans (hb4.mono B3.size))
  have HSL : Hid ((b ++ hmacB k b).length = (sealB k b).length) := rfl
  rw [HSL.out]
  clear hO4 hb4
  go_wp2_with fail
  go_ret
  exact ⟨a4, c4, rfl, HM4.out, HB4.out⟩
end Go.Proofs.Ytiemafgnpmoblaa
