/- HmacTwo: the walk of the law. -/
import Derived.Test.YtiemafgnpmoblaaHmacAwake
namespace Go.Proofs.Ytiemafgnpmoblaa
open Go Go.RowKit Go.Cit

set_option maxRecDepth 100000 in
set_option maxHeartbeats 4000000 in
theorem hmacTwo_law (w : World) (l : List UInt8) (at_ bit : Int) (hl : l.length = 32) (ha : -9223372036854775808 ≤ at_ ∧ at_ ≤ 9223372036854775807) (hb : -9223372036854775808 ≤ bit ∧ bit ≤ 9223372036854775807) :
    Calls Try.prog 11 #[.agg (l.map vb).toArray, .int .i64 at_, .int .i64 bit] w fun e w' => e = .returned (.bool true) ∧ Below w.heap.size w w' := by
  obtain ⟨C, hC⟩ : ∃ C, Hid (C = (l.map vb).toArray) := ⟨_, rfl⟩
  have HC : Hid (C.size = 32) := by rw [Hid, hC.out]; simpa using hl
  have HCo : Hid (C.all (·.oneCell') = true) := by rw [Hid, hC.out]; exact arrB_ok _
  rw [← hC.out]
  have HLL := Lib.hid hl
  have HA := Lib.hid (fun ρ d ty ps af w => alloc_tag ρ d ty ps (af := af) w)
  obtain ⟨X, hX⟩ : ∃ Y, Hid (Y = ((List.replicate 32 (0 : UInt8)).map vb).toArray) := ⟨_, rfl⟩
  rw [← hX.out] at HA
  have HX : Hid (X.size = 32) := by rw [Hid, hX.out]; simp
  have b0 : (w.alloc (.cells C 36)).heap[w.heap.size]? = some (.cells C 36 (0, 0)) := heap_alloc_new w _
  have B0 : Below w.heap.size w (w.alloc (.cells C 36)) := (Below.refl _ w).alloc (Nat.le_refl _) _
  have HB := Lib.hid (And.intro b0 B0)
  have HAW := Lib.hid (hmacAwake_calls (w.alloc (.cells C 36)))
  clear b0 B0 hl
  go_enter Try.func11, Try.ntmps11
  go_wp2_with (first
    | ((with_reducible refine wpList_boxB (o := ⟨some 3, .box _ (.tmp 0), _, _, _, _⟩) (.tmp 0) (by with_unfolding_all rfl) (by with_unfolding_all rfl) (by with_unfolding_all rfl) ?_)))
  refine HAW.out.mono ?_
  rintro e w1 ⟨rfl, hb1⟩
  have hsz1 : w.heap.size < w1.heap.size := by have := hb1.size; simp at this; omega
  have H1 : Hid (w1.heap[w.heap.size]? = some (.cells C 36 (0, 0))) := (hb1.block _ (by simp)).trans HB.out.1
  have B1 := HB.out.2.trans (hb1.mono (by simp))
  have HN1 : Hid ((w1.alloc (.cells X 36)).heap[w1.heap.size]? = some (.cells X 36 (0, 0))) := heap_alloc_new _ _
  clear hb1 HB HAW
  go_wp2_with (first
    | ((with_reducible refine wpList_loadB (o := ⟨some 10, .load _ _, _, _, _, _⟩) row_tag (.tmp 3) (by with_unfolding_all rfl) (by with_unfolding_all rfl) (by with_unfolding_all rfl) H1.out HC.out ?_))
    | ((with_reducible refine wpList_value (o := ⟨some 7, .alloc _, _, _, _, _⟩) (by with_unfolding_all rfl) (HA.out _ _ _ _ _ _) ?_))
    | ((with_reducible refine wpList_storeB (o := ⟨none, .store _ (.tmp 7) (.tmp 10), _, _, _, _⟩) row_tag (.tmp 7) (.tmp 10) (by with_unfolding_all rfl) (by with_unfolding_all rfl) (by with_unfolding_all rfl) (by with_unfolding_all rfl) (by with_unfolding_all rfl) HN1.out HX.out HC.out HCo.out ?_); intro w2 hb2 hS2; have HB2 := Lib.hid hb2; have HS2 := Lib.hid hS2; have H2 : Hid (w2.heap[w.heap.size]? = some (.cells C 36 (0, 0))) := (hS2.block _ (by simp; omega) (by omega)).trans ((((Below.refl w1.heap.size w1).alloc (Nat.le_refl _) _).block _ hsz1).trans H1.out); clear hb2 hS2)
    | ((with_reducible refine wpList_loadB (o := ⟨some 11, .load _ _, _, _, _, _⟩) row_tag (.tmp 3) (by with_unfolding_all rfl) (by with_unfolding_all rfl) (by with_unfolding_all rfl) H2.out HC.out ?_))
    | ((with_reducible refine wpList_loadB (o := ⟨some 12, .load _ _, _, _, _, _⟩) row_tag (.tmp 7) (by with_unfolding_all rfl) (by with_unfolding_all rfl) (by with_unfolding_all rfl) HB2.out HC.out ?_)))
  have hq : Calls Try.prog 44 #[.agg C, .agg C] w2 fun e w' => e = .returned (.bool true) ∧ Below w2.heap.size w2 w' := by
    have h := hsame_calls w2 l l HLL.out HLL.out
    rw [← hC.out] at h
    simpa using h
  refine hq.mono ?_
  rintro e w3 ⟨rfl, hb3⟩
  have hs2 := HS2.out.size
  rw [World.size_alloc] at hs2
  have hA2 : Below w1.heap.size w1 w2 := ((Below.refl _ w1).alloc (Nat.le_refl _) (.cells X 36)).trans (HS2.out.below (by simp) (fun j hj => by omega))
  have B2 := B1.trans (hA2.mono B1.size)
  have B3 := B2.trans (hb3.mono B2.size)
  have H3 : Hid (w3.heap[w.heap.size]? = some (.cells C 36 (0, 0))) := (hb3.block _ (by omega)).trans H2.out
  have A3 : ArrB 36 w3 w1.heap.size l := by
    have h : w3.heap[w1.heap.size]? = some (.cells C 36 (0, 0)) := (hb3.block _ (by omega)).trans HB2.out
    rw [hC.out] at h; exact h
  clear hq hb3 HS2 hA2 B2 H2 HB2 HN1 B1 H1
  by_cases c1 : at_ < 0
  · have d1 : decide (at_ < 0) = true := by simpa using c1
    go_wp2_with fail
    go_ret
    exact ⟨rfl, B3⟩
  have d1 : decide (at_ < 0) = false := by simpa using c1
  by_cases c2 : 31 < at_
  · have d2 : decide (31 < at_) = true := by simpa using c2
    go_wp2_with fail
    go_ret
    exact ⟨rfl, B3⟩
  have d2 : decide (31 < at_) = false := by simpa using c2
  by_cases c3 : bit < 0
  · have d3 : decide (bit < 0) = true := by simpa using c3
    go_wp2_with fail
    go_ret
    exact ⟨rfl, B3⟩
  have d3 : decide (bit < 0) = false := by simpa using c3
  by_cases c4 : 7 < bit
  · have d4 : decide (7 < bit) = true := by simpa using c4
    go_wp2_with fail
    go_ret
    exact ⟨rfl, B3⟩
  have d4 : decide (7 < bit) = false := by simpa using c4
  obtain ⟨k, rfl⟩ := Int.eq_ofNat_of_zero_le (show 0 ≤ at_ by omega)
  obtain ⟨j, rfl⟩ := Int.eq_ofNat_of_zero_le (show 0 ≤ bit by omega)
  have hk : k < 32 := by omega
  have hj : j < 8 := by omega
  have hkl : k < l.length := by rw [HLL.out]; exact hk
  have ik := fun W => arrB_index (T := 36) (n := 32) Try.underlying36 w1.heap.size k hk W
  have ek := A3.cell k hkl
  have fk := A3.free k
  obtain ⟨x, hx⟩ : ∃ x, l[k] = x := ⟨_, rfl⟩
  rw [hx] at ek
  obtain ⟨p, hp⟩ : ∃ p : UInt8, ((p.toNat : Nat) : Int) = (2 : Int) ^ j % 256 ∧ p ≠ 0 := by
    have hj' : j = 0 ∨ j = 1 ∨ j = 2 ∨ j = 3 ∨ j = 4 ∨ j = 5 ∨ j = 6 ∨ j = 7 := by omega
    rcases hj' with rfl | rfl | rfl | rfl | rfl | rfl | rfl | rfl
    · exact ⟨1, by decide, by decide⟩
    · exact ⟨2, by decide, by decide⟩
    · exact ⟨4, by decide, by decide⟩
    · exact ⟨8, by decide, by decide⟩
    · exact ⟨16, by decide, by decide⟩
    · exact ⟨32, by decide, by decide⟩
    · exact ⟨64, by decide, by decide⟩
    · exact ⟨128, by decide, by decide⟩
  have hv : bits .xor .u8 (x.toNat : Int) ((2 : Int) ^ j % 256) = ((bXor x p).toNat : Int) := by rw [← hp.1]; exact bits_b_xor x p
  have hne : bXor x p ≠ x := by
    intro h
    unfold bXor at h
    have : p = 0 := by
      have h2 := congrArg (fun y => x ^^^ y) h
      simpa [← UInt8.xor_assoc] using h2
    exact hp.2 this
  obtain ⟨m, hm⟩ : ∃ m, Hid (m = l.set k (bXor x p)) := ⟨_, rfl⟩
  have HML : Hid (m.length = 32) := by rw [Hid, hm.out, List.length_set]; exact HLL.out
  have hlm : l ≠ m := by
    intro h
    have h2 : m[k]? = some (bXor x p) := by rw [hm.out]; simp [hkl]
    rw [← h, List.getElem?_eq_getElem hkl, hx] at h2
    exact hne (Option.some.inj h2).symm
  have A4 : ArrB 36 (w3.setCell ⟨w1.heap.size, k, none⟩ (vb (bXor x p))) w1.heap.size m := by rw [hm.out]; exact A3.set k (bXor x p)
  have hsv : Save (· ≠ w1.heap.size) w3 (w3.setCell ⟨w1.heap.size, k, none⟩ (vb (bXor x p))) := Save.set
  have H4 : Hid ((w3.setCell ⟨w1.heap.size, k, none⟩ (vb (bXor x p))).heap[w.heap.size]? = some (.cells C 36 (0, 0))) := (hsv.block _ (Array.getElem?_eq_some_iff.1 H3.out).1 (by omega)).trans H3.out
  have HB4 := Lib.hid (B3.trans (hsv.below B3.size (fun i hi => by omega)))
  obtain ⟨D, hD⟩ : ∃ D, Hid (D = (m.map vb).toArray) := ⟨_, rfl⟩
  have HD : Hid (D.size = 32) := by rw [Hid, hD.out]; simpa using HML.out
  have A4' : Hid ((w3.setCell ⟨w1.heap.size, k, none⟩ (vb (bXor x p))).heap[w1.heap.size]? = some (.cells D 36 (0, 0))) := by rw [hD.out]; exact A4
  have q1 := hsame_calls (w3.setCell ⟨w1.heap.size, k, none⟩ (vb (bXor x p))) l m HLL.out HML.out
  rw [decide_eq_false hlm, ← hC.out, ← hD.out] at q1
  have Q1 := Lib.hid q1
  have HLM := Lib.hid hlm
  clear c1 c2 c3 c4 hne hlm A4 hsv q1 A3 hx hkl hp B3
  go_wp2_with (first
    | ((with_reducible refine wpList_loadB (o := ⟨some 38, .load _ _, _, _, _, _⟩) row_tag (.tmp 3) (by with_unfolding_all rfl) (by with_unfolding_all rfl) (by with_unfolding_all rfl) H4.out HC.out ?_))
    | ((with_reducible refine wpList_loadB (o := ⟨some 39, .load _ _, _, _, _, _⟩) row_tag (.tmp 7) (by with_unfolding_all rfl) (by with_unfolding_all rfl) (by with_unfolding_all rfl) A4'.out HD.out ?_)))
  refine Q1.out.mono ?_
  rintro e w5 ⟨rfl, hb5⟩
  have H5 : Hid (w5.heap[w.heap.size]? = some (.cells C 36 (0, 0))) := (hb5.block _ (Array.getElem?_eq_some_iff.1 H4.out).1).trans H4.out
  have A5 : Hid (w5.heap[w1.heap.size]? = some (.cells D 36 (0, 0))) := (hb5.block _ (Array.getElem?_eq_some_iff.1 A4'.out).1).trans A4'.out
  have B5 := HB4.out.trans (hb5.mono HB4.out.size)
  have q2 := hsame_calls w5 m l HML.out HLL.out
  rw [decide_eq_false (fun h => HLM.out h.symm), ← hC.out, ← hD.out] at q2
  have Q2 := Lib.hid q2
  clear hb5 H4 A4' HB4 q2 Q1
  go_wp2_with (first
    | ((with_reducible refine wpList_value_gd (o := ⟨some 43, .load _ _, _, _, _, _⟩) (by with_unfolding_all rfl) (exec_loadB row_tag (.tmp 7) (by with_unfolding_all rfl) (by with_unfolding_all rfl) A5.out HD.out) ?_))
    | ((with_reducible refine wpList_value_gd (o := ⟨some 44, .load _ _, _, _, _, _⟩) (by with_unfolding_all rfl) (exec_loadB row_tag (.tmp 3) (by with_unfolding_all rfl) (by with_unfolding_all rfl) H5.out HC.out) ?_)))
  refine Q2.out.mono ?_
  rintro e w6 ⟨rfl, hb6⟩
  have B6 := B5.trans (hb6.mono B5.size)
  clear hb6 B5
  go_wp2_with fail
  go_ret
  exact ⟨rfl, B6⟩
end Go.Proofs.Ytiemafgnpmoblaa
