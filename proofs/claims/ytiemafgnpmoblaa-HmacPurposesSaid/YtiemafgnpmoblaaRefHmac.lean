/- The reference's Bytes, Short, masked; hmac.Same: walked. -/
import Derived.Test.YtiemafgnpmoblaaHmacSum
import Derived.Test.YtiemafgnpmoblaaGf
namespace Go.Proofs.Ytiemafgnpmoblaa
open Go Go.RowKit Go.Cit

set_option maxHeartbeats 2000000 in
theorem refbytes_calls (w : World) (l : List UInt8) (hl : l.length = 32) :
    Calls Try.prog 66 #[.agg (l.map vb).toArray] w fun e w' => ∃ a c, e = .returned (.slice a 32 c) ∧ Cit.Own 5 w.heap.size w' a l c ∧ Below w.heap.size w w' := by
  have HLL := Lib.hid hl
  have b0 : ArrB 36 (w.alloc (.cells (l.map vb).toArray 36)) w.heap.size l := heap_alloc_new w _
  have B0 : Below w.heap.size w (w.alloc (.cells (l.map vb).toArray 36)) := (Below.refl _ w).alloc (Nat.le_refl _) _
  have HB := Lib.hid (And.intro b0 B0)
  obtain ⟨C, hC⟩ : ∃ C, Hid (C = (l.map vb).toArray) := ⟨_, rfl⟩
  rw [← hC.out] at HB ⊢
  clear b0 B0 hl
  go_enter Try.func66, Try.ntmps66
  go_wp2_with (first
    | ((with_reducible refine wpList_boxB (o := ⟨some 1, .box _ (.tmp 0), _, _, _, _⟩) (.tmp 0) (by with_unfolding_all rfl) (by with_unfolding_all rfl) (by with_unfolding_all rfl) ?_)))
  obtain ⟨b0, B0⟩ := HB.out
  go_loopw [3, 4] (fun v i wr => ∃ (k : Nat) (m : List UInt8) (a : Option Addr) (c : Nat), k ≤ 32 ∧ i = .int .i64 k ∧ v = .slice a m.length c ∧ Hid (m = l.take k) ∧ Cit.Own 5 (w.heap.size + 1) wr a m c ∧ ArrB 36 wr w.heap.size l ∧ Below w.heap.size w wr) (fun _ i _ => 32 - (intOf i).toNat)
  case atStart => exact ⟨0, [], none, 0, by omega, rfl, rfl, rfl, Cit.Own.nil _ _ _, b0, B0⟩
  case round =>
    clear b0 B0
    obtain ⟨k, m, a, c, hk, rfl, rfl, HM, hO, A1, B⟩ := hrel
    have HML : Hid (m.length = k) := by rw [Hid, HM.out, List.length_take, HLL.out]; omega
    by_cases hlt : k < 32
    · have d1 : decide ((k : Int) < 32) = true := by simp; omega
      have hkl : k < l.length := by rw [HLL.out]; exact hlt
      have ik := fun W => arrB_index (T := 36) (n := 32) Try.underlying36 w.heap.size k hlt W
      have ek := A1.cell k hkl
      have HS : Hid (m ++ [l[k]] = l.take (k + 1)) := by rw [Hid, HM.out, List.take_succ_eq_append_getElem hkl]
      have hm9 : m.length ≤ 1000000000 := by rw [HML.out]; omega
      have hbs : w.heap.size + 1 ≤ wr.heap.size := A1.lt
      generalize l[k] = x at ek HS
      clear hkl
      go_wp2_with (first
        | ((with_reducible refine wp_append_boxc (o := ⟨some 14, .call _, _, _, _, _⟩) bt (.tmp 9) (.tmp 13) (by with_unfolding_all rfl) (by with_unfolding_all rfl) (b := x) (by with_unfolding_all rfl) hO hm9 hbs (by with_unfolding_all rfl) (by with_unfolding_all rfl) ?_); intro a2 c2 w2 hO2 hg2; have HO2 := Lib.hid hO2; have HA2 : Hid (ArrB 36 w2 w.heap.size l) := A1.save (Save.grown hg2) (fun h => Nat.not_succ_le_self _ (hO.blk_ge (g := w.heap.size) h.symm).1); have HB2 := Lib.hid (B.trans ((grown_below hg2 hbs (fun j hj => (hO.blk_ge hj).1)).mono (Nat.le_succ _))); clear hO2 hg2))
      go_roundw
      case rel => exact ⟨k + 1, _, _, _, by omega, by go_num, by simp, HS, HO2.out, HA2.out, HB2.out⟩
      case measure => simp [intOf]; omega
    · have hk2 : k = 32 := by omega
      have d1 : decide ((k : Int) < 32) = false := by simp; omega
      have HM2 : Hid (m = l) := by rw [Hid, HM.out, hk2, List.take_of_length_le (by rw [HLL.out]; omega)]
      have hm32 : Hid (m.length = 32) := by rw [Hid, HML.out, hk2]
      clear hk2
      go_wp2_with fail
      go_ret
      refine ⟨a, c, ?_, ?_, B⟩
      · show Ending.returned (.slice a m.length c) = _
        rw [hm32.out]
      · rw [← HM2.out]; exact hO.low (Nat.le_succ _)

set_option maxHeartbeats 2000000 in
theorem refshort_calls (w : World) (a : Option Addr) (k : List UInt8) (c : Nat) (h : Row w a k c) (hl : k.length ≤ 1000000) :
    Calls Try.prog 37 #[.slice a k.length c] w fun e w' => ∃ a' c', e = .returned (.slice a' (shortK k).length c') ∧ Cit.Own 5 w.heap.size w' a' (shortK k) c' ∧ Below w.heap.size w w' := by
  by_cases h64 : 64 < k.length
  · have d1 : decide ((k.length : Int) ≤ 64) = false := by simp; omega
    have d1' : decide (k.length ≤ 64) = false := by simp; omega
    have HE : Hid (shortK k = sumB k) := by rw [Hid, shortK, if_pos h64]
    have HS := Lib.hid (refsum_calls w a k c h (by omega))
    clear h
    rw [HE.out]
    go_enter Try.func37, Try.ntmps37
    go_wp2_with fail
    refine HS.out.mono ?_
    rintro e w1 ⟨rfl, hb1⟩
    go_wp2_with fail
    refine (refbytes_calls w1 (sumB k) (sumB_len k)).mono ?_
    rintro e w2 ⟨a2, c2, rfl, hO2, hb2⟩
    go_wp2_with fail
    go_ret
    exact ⟨a2, c2, by rw [sumB_len]; rfl, hO2.low hb1.size, hb1.trans (hb2.mono hb1.size)⟩
  · have d1 : decide ((k.length : Int) ≤ 64) = true := by simp; omega
    have d1' : decide (k.length ≤ 64) = true := by simp; omega
    have HE : Hid (shortK k = k) := by rw [Hid, shortK, if_neg h64]
    have HC := Lib.hid (copy_calls w a k c h (by omega))
    clear h
    rw [HE.out]
    go_enter Try.func37, Try.ntmps37
    go_wp2_with fail
    refine HC.out.mono ?_
    rintro e w4 ⟨a4, c4, rfl, hO4, hb4⟩
    go_wp2_with fail
    go_ret
    exact ⟨a4, c4, rfl, hO4, hb4⟩

theorem longK_get (k : List UInt8) (i : Nat) (hi : i < 64) : (longK k)[i]? = some (if h : i < (shortK k).length then (shortK k)[i] else 0) := by
  have hs := shortK_len k
  unfold longK padL
  by_cases h : i < (shortK k).length
  · rw [List.getElem?_append_left h, dif_pos h, List.getElem?_eq_getElem h]
  · rw [List.getElem?_append_right (by omega), dif_neg h, List.getElem?_replicate, if_pos (by omega)]
theorem maskL_snoc (l : List UInt8) (x : UInt8) (i : Nat) (y : UInt8) (h : l[i]? = some y) : maskL (l.take i) x ++ [bXor y x] = maskL (l.take (i + 1)) x := by
  obtain ⟨hi, rfl⟩ := List.getElem?_eq_some_iff.1 h
  unfold maskL
  rw [List.take_succ_eq_append_getElem hi, List.map_append]; rfl

set_option maxRecDepth 100000 in
set_option maxHeartbeats 2000000 in
theorem refmasked_calls (w : World) (a : Option Addr) (k : List UInt8) (c : Nat) (h : Row w a k c) (hl : k.length ≤ 1000000) (x : UInt8) :
    Calls Try.prog 65 #[.slice a k.length c, vb x] w fun e w' => ∃ a' c', e = .returned (.slice a' 64 c') ∧ Cit.Own 5 w.heap.size w' a' (maskL (longK k) x) c' ∧ Below w.heap.size w w' := by
  have HS := Lib.hid (refshort_calls w a k c h hl)
  have hsl := shortK_len k
  have HG := Lib.hid (longK_get k)
  have HLK := Lib.hid (longK_len k)
  obtain ⟨L, hL⟩ : ∃ L, Hid (L = longK k) := ⟨_, rfl⟩
  obtain ⟨s, hs⟩ : ∃ s, Hid (s = shortK k) := ⟨_, rfl⟩
  rw [← hs.out] at HS hsl HG
  rw [← hL.out] at HG HLK ⊢
  clear h
  go_enter Try.func65, Try.ntmps65
  go_wp2_with fail
  refine HS.out.mono ?_
  rintro e w1 ⟨a1, c1, rfl, hO1, hb1⟩
  have HR1 := Lib.hid hO1.isRow
  have HB1 := Lib.hid hb1
  clear hO1 hb1
  go_wp2_with fail
  go_loopw [6, 7] (fun v i wr => ∃ (j : Nat) (m : List UInt8) (a : Option Addr) (c : Nat), j ≤ 64 ∧ i = .int .i64 j ∧ v = .slice a m.length c ∧ Hid (m = maskL (L.take j) x) ∧ Cit.Own 5 w1.heap.size wr a m c ∧ Below w1.heap.size w1 wr) (fun _ i _ => 64 - (intOf i).toNat)
  case atStart => exact ⟨0, [], none, 0, by omega, rfl, rfl, rfl, Cit.Own.nil _ _ _, Below.refl _ _⟩
  case round =>
    obtain ⟨j, m, a', c', hj, rfl, rfl, HM, hO, B⟩ := hrel
    have HML : Hid (m.length = j) := by rw [Hid, HM.out, maskL_len, List.length_take, HLK.out]; omega
    by_cases hlt : j < 64
    · have d1 : decide ((j : Int) < 64) = true := by simp; omega
      have hg := HG.out j hlt
      have hm9 : m.length ≤ 1000000000 := by rw [HML.out]; omega
      have hr := HR1.out.stay B
      by_cases hjs : j < s.length
      · have d2 : decide (j < s.length) = true := by simpa using hjs
        rw [dif_pos hjs] at hg
        have ij := hr.index bt.slice bt.sz j hjs
        have ej := hr.cell j hjs
        have HS2 : Hid (m ++ [bXor s[j] x] = maskL (L.take (j + 1)) x) := by rw [Hid, HM.out, maskL_snoc L x j s[j] hg]
        generalize s[j] = y at ej HS2
        clear hg hr
        go_wp2_with (first
          | ((with_reducible refine wp_append_boxc (o := ⟨some 28, .call _, _, _, _, _⟩) bt (.tmp 23) (.tmp 27) (by with_unfolding_all rfl) (by with_unfolding_all rfl) (b := bXor y x) (by with_unfolding_all rfl) hO hm9 B.size (by with_unfolding_all rfl) (by with_unfolding_all rfl) ?_); intro a2 c2 w2 hO2 hg2; have HO2 := Lib.hid hO2; have HB2 := Lib.hid (B.trans (grown_below hg2 B.size (fun j hj => (hO.blk_ge hj).1))); clear hO2 hg2))
        go_roundw
        case rel => exact ⟨j + 1, _, _, _, by omega, by go_num, by simp, HS2, HO2.out, HB2.out⟩
        case measure => simp [intOf]; omega
      · have d2 : decide (j < s.length) = false := by simpa using hjs
        rw [dif_neg hjs] at hg
        have HS2 : Hid (m ++ [bXor 0 x] = maskL (L.take (j + 1)) x) := by rw [Hid, HM.out, maskL_snoc L x j 0 hg]
        have hx0 : bits .xor .u8 0 (x.toNat : Int) = ((bXor 0 x).toNat : Int) := by
          have := bits_b_xor 0 x
          exact this
        clear hg hr
        go_wp2_with (first
          | ((with_reducible refine wp_append_boxc (o := ⟨some 28, .call _, _, _, _, _⟩) bt (.tmp 23) (.tmp 27) (by with_unfolding_all rfl) (by with_unfolding_all rfl) (b := bXor 0 x) (by with_unfolding_all rfl) hO hm9 B.size (by with_unfolding_all rfl) (by with_unfolding_all rfl) ?_); intro a2 c2 w2 hO2 hg2; have HO2 := Lib.hid hO2; have HB2 := Lib.hid (B.trans (grown_below hg2 B.size (fun j hj => (hO.blk_ge hj).1))); clear hO2 hg2))
        go_roundw
        case rel => exact ⟨j + 1, _, _, _, by omega, by go_num, by simp, HS2, HO2.out, HB2.out⟩
        case measure => simp [intOf]; omega
    · have hj2 : j = 64 := by omega
      have d1 : decide ((j : Int) < 64) = false := by simp; omega
      have HM2 : Hid (m = maskL L x) := by rw [Hid, HM.out, hj2, List.take_of_length_le (by rw [HLK.out]; omega)]
      have hm64 : Hid (m.length = 64) := by rw [Hid, HML.out, hj2]
      clear hj2
      go_wp2_with fail
      go_ret
      refine ⟨a', c', ?_, ?_, HB1.out.trans (B.mono HB1.out.size)⟩
      · show Ending.returned (.slice a' m.length c') = _
        rw [hm64.out]
      · rw [← HM2.out]; exact hO.low HB1.out.size
end Go.Proofs.Ytiemafgnpmoblaa
