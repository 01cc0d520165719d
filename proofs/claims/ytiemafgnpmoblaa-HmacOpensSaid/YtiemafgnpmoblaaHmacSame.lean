/- hmac.Same: walked. -/
import Derived.Test.YtiemafgnpmoblaaRefHmac
import Derived.BigQuiet
import Derived.Deep.QuietTactic
namespace Go.Proofs.Ytiemafgnpmoblaa
open Go Go.RowKit Go.Cit

theorem or_zero (v x y : UInt8) : bOr v (bXor x y) = 0 ↔ v = 0 ∧ x = y := by
  unfold bOr bXor
  rw [UInt8.or_eq_zero_iff, UInt8.xor_eq_zero_iff]

set_option maxRecDepth 100000 in
set_option maxHeartbeats 2000000 in
theorem hsame_calls (w : World) (l m : List UInt8) (hl : l.length = 32) (hm : m.length = 32) :
    Calls Try.prog 44 #[.agg (l.map vb).toArray, .agg (m.map vb).toArray] w fun e w' => e = .returned (.bool (decide (l = m))) ∧ Below w.heap.size w w' := by
  have HLL := Lib.hid hl
  have HML := Lib.hid hm
  have b0 : ArrB 36 ((w.alloc (.cells (l.map vb).toArray 36)).alloc (.cells (m.map vb).toArray 36)) w.heap.size l := (Below.heap_alloc _ _ _ (by simp)).trans (heap_alloc_new w _)
  have b1 : ArrB 36 ((w.alloc (.cells (l.map vb).toArray 36)).alloc (.cells (m.map vb).toArray 36)) (w.heap.size + 1) m := by
    have := heap_alloc_new (w.alloc (.cells (l.map vb).toArray 36)) (.cells (m.map vb).toArray 36)
    rwa [World.size_alloc] at this
  have B0 : Below w.heap.size w ((w.alloc (.cells (l.map vb).toArray 36)).alloc (.cells (m.map vb).toArray 36)) := ((Below.refl _ w).alloc (Nat.le_refl _) _).alloc (by simp) _
  have HB := Lib.hid (And.intro b0 (And.intro b1 B0))
  obtain ⟨C, hC⟩ : ∃ C, Hid (C = (l.map vb).toArray) := ⟨_, rfl⟩
  obtain ⟨D, hD⟩ : ∃ C, Hid (C = (m.map vb).toArray) := ⟨_, rfl⟩
  rw [← hC.out, ← hD.out] at HB ⊢
  clear b0 b1 B0 hl hm
  go_enter Try.func44, Try.ntmps44
  go_wp2_with (first
    | ((with_reducible refine wpList_boxB (o := ⟨some 2, .box _ (.tmp 0), _, _, _, _⟩) (.tmp 0) (by with_unfolding_all rfl) (by with_unfolding_all rfl) (by with_unfolding_all rfl) ?_))
    | ((with_reducible refine wpList_boxB (o := ⟨some 3, .box _ (.tmp 1), _, _, _, _⟩) (.tmp 1) (by with_unfolding_all rfl) (by with_unfolding_all rfl) (by with_unfolding_all rfl) ?_)))
  obtain ⟨b0, b1, B0⟩ := HB.out
  go_loopw [5, 7] (fun v i wr => ∃ (k : Nat) (x : UInt8), k ≤ 32 ∧ i = .int .i64 k ∧ v = vb x ∧ Hid (x = 0 ↔ l.take k = m.take k) ∧ ArrB 36 wr w.heap.size l ∧ ArrB 36 wr (w.heap.size + 1) m ∧ Below w.heap.size w wr) (fun _ i _ => 32 - (intOf i).toNat)
  case atStart => exact ⟨0, 0, by omega, rfl, rfl, by simp [Hid], b0, b1, B0⟩
  case round =>
    clear b0 b1 B0
    obtain ⟨k, v, hk, rfl, rfl, HV, A0, A1, B⟩ := hrel
    by_cases hlt : k < 32
    · have d1 : decide ((k : Int) < 32) = true := by simp; omega
      have hkl : k < l.length := by rw [HLL.out]; exact hlt
      have hkm : k < m.length := by rw [HML.out]; exact hlt
      have i0 := fun W => arrB_index (T := 36) (n := 32) Try.underlying36 w.heap.size k hlt W
      have i1 := fun W => arrB_index (T := 36) (n := 32) Try.underlying36 (w.heap.size + 1) k hlt W
      have e0 : ∀ n, ({ wr with drawn := n } : World).cell? ⟨w.heap.size, k, none⟩ = some (vb l[k]) := fun _ => A0.cell k hkl
      have e1 : ∀ n, ({ wr with drawn := n } : World).cell? ⟨w.heap.size + 1, k, none⟩ = some (vb m[k]) := fun _ => A1.cell k hkm
      have HS : Hid (bOr v (bXor l[k] m[k]) = 0 ↔ l.take (k + 1) = m.take (k + 1)) := by
        rw [Hid, or_zero, HV.out, List.take_succ_eq_append_getElem hkl, List.take_succ_eq_append_getElem hkm]
        constructor
        · rintro ⟨h1, h2⟩; rw [h1, h2]
        · intro h
          have := List.append_inj h (by rw [List.length_take, List.length_take, HLL.out, HML.out])
          exact ⟨this.1, by simpa using this.2⟩
      generalize l[k] = x at e0 HS
      generalize m[k] = y at e1 HS
      have A0d : ∀ n, ArrB 36 (wr.drewN n) w.heap.size l := fun _ => A0
      have A1d : ∀ n, ArrB 36 (wr.drewN n) (w.heap.size + 1) m := fun _ => A1
      have HA := Lib.hid (And.intro A0d A1d)
      clear hkl hkm A0d A1d
      go_wp2_with fail
      go_quiet (fail)
      go_wp2_with fail
      go_roundw
      case rel => exact ⟨k + 1, bOr v (bXor x y), by omega, by go_num, rfl, HS, HA.out.1 _, HA.out.2 _, B.trans (below_drewN _ _ _)⟩
      case measure => simp [intOf]; omega
    · have hk2 : k = 32 := by omega
      have d1 : decide ((k : Int) < 32) = false := by simp; omega
      have HV2 : Hid (v = 0 ↔ l = m) := by
        have := HV.out
        rwa [hk2, List.take_of_length_le (by rw [HLL.out]; omega), List.take_of_length_le (by rw [HML.out]; omega)] at this
      clear hk2
      by_cases hlm : l = m
      · have q : ((v.toNat : Int) == 0) = true := by rw [HV2.out.2 hlm]; rfl
        have HR : Hid (decide (l = m) = true) := by rw [Hid]; simpa using hlm
        clear hlm
        go_wp2_with fail
        go_ret
        exact ⟨by rw [HR.out]; rfl, B⟩
      · have q : ((v.toNat : Int) == 0) = false := by
          rw [beq_eq_false_iff_ne]; intro h
          exact hlm (HV2.out.1 (UInt8.toNat_inj.1 (by show v.toNat = 0; omega)))
        have HR : Hid (decide (l = m) = false) := by rw [Hid]; simpa using hlm
        clear hlm
        go_wp2_with fail
        go_ret
        exact ⟨by rw [HR.out]; rfl, B⟩
end Go.Proofs.Ytiemafgnpmoblaa
