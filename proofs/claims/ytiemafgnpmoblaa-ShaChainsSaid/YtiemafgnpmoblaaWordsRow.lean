/- words.Row, words.Number, words.load, Load32, Load64, Put32, Put64: walked. -/
import Derived.Test.YtiemafgnpmoblaaProg
import Derived.Test.YtiemafgnpmoblaaRefCat
import Derived.Test.YtiemafgnpmoblaaWordsDef
namespace Go.Proofs.Ytiemafgnpmoblaa
open Go Go.RowKit Go.Cit

theorem zeros_rowB (x : UInt64) (n k : Nat) (h : k < n) : (List.replicate (n - k) 0 ++ rowB x k).set (n - k - 1) (bOfQ (dv k x)) = List.replicate (n - (k + 1)) 0 ++ rowB x (k + 1) := by
  obtain ⟨m, hm⟩ : ∃ m, n - k = m + 1 := ⟨n - k - 1, by omega⟩
  rw [hm, show n - (k + 1) = m from by omega, Nat.add_sub_cancel, List.replicate_succ', List.append_assoc, List.set_append_right _ _ (by simp)]
  simp [rowB]

set_option maxHeartbeats 1000000 in
theorem row_calls (w : World) (x : UInt64) (n : Nat) (h1 : 1 ≤ n) (h8 : n ≤ 8) :
    Calls Try.prog 73 #[vq x, .int .i64 n] w fun e w' => ∃ a c, e = .returned (.slice a n c) ∧ Own 5 w.heap.size w' a (rowB x n) c ∧ Below w.heap.size w w' := by
  have t1 : decide ((n : Int) < 1) = false := by simp; omega
  have t2 : decide (8 < (n : Int)) = false := by simp; omega
  go_enter Try.func73, Try.ntmps73
  go_wp2_with (refine wp_make_bytes bt (.tmp 12) (.tmp 12) rfl rfl n .i64 .i64 rfl rfl rfl (by omega) ?_; intro w1 hown hgr hsz)
  go_loopw [0, 1] (fun y i wr => ∃ (k : Nat) (l : List UInt8), Hid (l = List.replicate (n - k) 0 ++ rowB x k) ∧ Hid (l.length = n) ∧ k ≤ n ∧ i = .int .i64 ((n : Int) - k - 1) ∧ y = vq (dv k x) ∧ Own 5 w.heap.size wr (some ⟨w.heap.size, 0, none⟩) l n ∧ Below w.heap.size w wr) (fun _ i _ => (intOf i + 1).toNat)
  case atStart => exact ⟨0, List.replicate n 0, by simp [Hid, rowB], by simp [Hid], Nat.zero_le _, by go_num, rfl, hown, grown_below hgr (Nat.le_refl _) (by simp)⟩
  case round =>
    clear hown hgr hsz
    obtain ⟨k, l, HX, HL, hk, rfl, rfl, hown, hb⟩ := hrel
    by_cases hlt : k < n
    · have hi : n - k - 1 < l.length := by rw [HL.out]; omega
      have i0 := hown.isRow.index bt.slice bt.sz (n - k - 1) hi
      have e0 := hown.isRow.cell (n - k - 1) hi
      have f0 := hown.frozen (n - k - 1) hi
      have ei : ((n : Int) - k - 1) = ((n - k - 1 : Nat) : Int) := by omega
      rw [HL.out, ← ei] at i0
      have hst := hown.stored (n - k - 1) hi (bOfQ (dv k x))
      clear ei
      have HST := Lib.hid hst
      clear hst
      go_wp2
      go_roundw
      case rel =>
        exact ⟨k + 1, l.set (n - k - 1) (bOfQ (dv k x)), by rw [Hid, HX.out]; exact zeros_rowB x n k hlt, by rw [Hid, List.length_set]; exact HL.out, by omega, by go_num, rfl, HST.out.1, hb.grown HST.out.2 hb.size (fun j hj => (hown.blk_ge hj).1)⟩
      case measure => simp [intOf]; omega
    · have hk2 : k = n := by omega
      subst hk2
      have HX2 : Hid (l = rowB x k) := by rw [Hid, HX.out]; simp
      clear HX
      go_wp2
      go_ret
      refine ⟨_, _, rfl, ?_, hb⟩
      rw [← HX2.out]; exact hown

theorem row_none (w : World) (x : UInt64) (n : Int) (h : n < 1 ∨ 8 < n) :
    Calls Try.prog 73 #[vq x, .int .i64 n] w fun e w' => e = .returned (.slice none 0 0) ∧ w' = w := by
  by_cases h1 : n < 1
  · go_enter Try.func73, Try.ntmps73
    go_wp2
    go_ret
    exact ⟨rfl, rfl⟩
  · have h8 : 8 < n := by omega
    go_enter Try.func73, Try.ntmps73
    go_wp2
    go_ret
    exact ⟨rfl, rfl⟩

set_option maxHeartbeats 1000000 in
theorem refput_calls (w : World) (x : UInt64) (n : Nat) (h8 : n ≤ 8) :
    Calls Try.prog 54 #[vq x, .int .i64 n] w fun e w' => ∃ a c, e = .returned (.slice a n c) ∧ Own 5 w.heap.size w' a (rowB x n) c ∧ Below w.heap.size w w' := by
  go_enter Try.func54, Try.ntmps54
  go_wp2
  go_loopw [0, 5, 6] (fun y t i wr => ∃ (k : Nat) (a : Option Addr) (c : Nat) (l : List UInt8), Hid (l = (rowB x k).reverse) ∧ Hid (l.length = k) ∧ k ≤ n ∧ i = .int .i64 k ∧ y = vq (dv k x) ∧ t = .slice a l.length c ∧ Own 5 w.heap.size wr a l c ∧ Below w.heap.size w wr) (fun _ _ i _ => n - (intOf i).toNat)
  case atStart => exact ⟨0, none, 0, [], rfl, rfl, Nat.zero_le _, rfl, rfl, rfl, Own.nil _ _ _, Below.refl _ _⟩
  case round =>
    obtain ⟨k, a, c, l, HX, HL, hk, rfl, rfl, rfl, hown, hb⟩ := hrel
    have hs := hb.size
    have hl9 : l.length ≤ 1000000000 := by rw [HL.out]; omega
    by_cases hlt : k < n
    · go_wp2_with (at_builtin; refine wp_append_box bt (.tmp 14) (.tmp 18) rfl rfl hown hl9 hs rfl rfl ?_; intro a' c' w' hown' hgr)
      go_roundw
      case rel => exact ⟨k + 1, a', c', l ++ [bOfQ (qMod (dv k x) (qI 256))], by rw [Hid, HX.out, bOfQ_mod, rowB, List.reverse_cons], by rw [Hid, List.length_append, HL.out]; rfl, by omega, by go_num, rfl, by simp, hown', hb.grown hgr hs (fun j hj => (hown.blk_ge hj).1)⟩
      case measure => simp [intOf]; omega
    · have hk2 : k = n := by omega
      subst hk2
      have hlk : l.length ≤ 8 := by rw [HL.out]; omega
      go_wp2
      go_loopw [7, 8] (fun t i wx => ∃ (j : Nat) (a2 : Option Addr) (c2 : Nat) (m : List UInt8), Hid (m = (rowB x k).take j) ∧ Hid (m.length = j) ∧ j ≤ l.length ∧ i = .int .i64 ((l.length : Int) - 1 - j) ∧ t = .slice a2 m.length c2 ∧ Own 5 wr.heap.size wx a2 m c2 ∧ Below wr.heap.size wr wx) (fun _ i _ => (intOf i + 1).toNat)
      case atStart => exact ⟨0, none, 0, [], rfl, rfl, Nat.zero_le _, by go_num, rfl, Own.nil _ _ _, Below.refl _ _⟩
      case round =>
        obtain ⟨j, a2, c2, m, HM, HN, hj, rfl, rfl, hown2, hb2⟩ := hrel
        have hs2 := hb2.size
        have r1 := hown.isRow.stay hb2
        have hm9 : m.length ≤ 1000000000 := by rw [HN.out]; omega
        by_cases hlt2 : j < l.length
        · have hi : l.length - 1 - j < l.length := by omega
          have i0 := r1.index bt.slice bt.sz (l.length - 1 - j) hi
          have e0 := r1.cell (l.length - 1 - j) hi
          have ei : ((l.length : Int) - 1 - j) = ((l.length - 1 - j : Nat) : Int) := by omega
          rw [← ei] at i0
          clear ei
          obtain ⟨b, hbb⟩ : ∃ b, l[l.length - 1 - j] = b := ⟨_, rfl⟩
          rw [hbb] at e0
          have HB : Hid ((rowB x k).take j ++ [b] = (rowB x k).take (j + 1)) := by
            have hjr : j < (rowB x k).length := by rw [rowB_length]; have := HL.out; omega
            rw [Hid, ← take_snoc _ j hjr, ← hbb]
            congr 2
            have := HX.out
            subst this
            rw [List.getElem_reverse]
            congr 1
            simp at hlt2 ⊢
            omega
          clear hbb
          go_wp2_with (at_builtin; refine wp_append_box bt (.tmp 29) (.tmp 34) rfl rfl hown2 hm9 hs2 rfl rfl ?_; intro a' c' w' hown' hgr)
          go_roundw
          case rel => exact ⟨j + 1, a', c', m ++ [b], by rw [Hid, HM.out]; exact HB.out, by rw [Hid, List.length_append, HN.out]; rfl, by omega, by go_num, by simp, hown', hb2.grown hgr hs2 (fun j hj => (hown2.blk_ge hj).1)⟩
          case measure => simp [intOf]; omega
        · have hj2 : j = l.length := by omega
          have HM2 : Hid (m = rowB x k) := by rw [Hid, HM.out, hj2, HL.out]; exact List.take_of_length_le (by rw [rowB_length]; exact Nat.le_refl _)
          have HN2 : Hid (m.length = k) := by rw [Hid, HN.out, hj2, HL.out]
          clear HM HN hj2
          go_wp2
          go_ret
          refine ⟨a2, c2, by rw [← HN2.out]; rfl, ?_, hb.trans (hb2.mono hs)⟩
          rw [← HM2.out]; exact hown2.low hs
end Go.Proofs.Ytiemafgnpmoblaa
