/- The reference's Hex: walked. -/
import Derived.Test.YtiemafgnpmoblaaHex
namespace Go.Proofs.Ytiemafgnpmoblaa
open Go Go.RowKit Go.Cit

theorem dig_lo (y : UInt8) (h : y.toNat < 10) : IntKind.u8.wrap (48 + (y.toNat : Int)) = ((digH y.toNat).toNat : Int) := by
  unfold digH
  rw [if_pos h, UInt8.toNat_ofNat_of_lt' (by show _ < 256; omega), wrap_u8_eq]; omega
theorem dig_hi1 (y : UInt8) (h : ¬ y.toNat < 10) (h16 : y.toNat < 16) : IntKind.u8.wrap (97 + (y.toNat : Int)) = (((digH y.toNat).toNat + 10 : Nat) : Int) := by
  unfold digH
  rw [if_neg h, UInt8.toNat_ofNat_of_lt' (by show _ < 256; omega), wrap_u8_eq]; omega
theorem dig_hi2 (y : UInt8) (h : ¬ y.toNat < 10) (h16 : y.toNat < 16) : IntKind.u8.wrap ((((digH y.toNat).toNat + 10 : Nat) : Int) - 10) = ((digH y.toNat).toNat : Int) := by
  have := b_lt (digH y.toNat)
  rw [wrap_u8_eq]; omega

theorem str_snoc (R : List UInt8) (z : UInt8) : (⟨R.toArray⟩ : ByteArray) ++ ⟨#[z]⟩ = ⟨(R ++ [z]).toArray⟩ := by
  show ByteArray.append _ _ = _
  apply ByteArray.ext
  simp
theorem one_str (w : World) (z : UInt8) : (convert 25 9 (.slice (some ⟨w.heap.size, 0, none⟩) 1 1)).run Try.prog (w.alloc (.cells #[.int .u8 (z.toNat : Int)] 5)) = .ok (.string ⟨#[z]⟩) (w.alloc (.cells #[.int .u8 (z.toNat : Int)] 5)) := by
  have := row_string (row_new w #[vb z] 5 (0, 0) [z] rfl (by simp))
  exact this
set_option maxRecDepth 100000 in
set_option maxHeartbeats 2000000 in
theorem refhex_calls (w : World) (l : List UInt8) (hl : l.length = 32) :
    Calls Try.prog 26 #[.agg (l.map vb).toArray] w fun e w' => e = .returned (.string ⟨(hexB l).toArray⟩) ∧ Below w.heap.size w w' := by
  have HLL := Lib.hid hl
  clear hl
  have b0 : ArrB 36 (w.alloc (.cells (l.map vb).toArray 36)) w.heap.size l := heap_alloc_new w _
  have B0 : Below w.heap.size w (w.alloc (.cells (l.map vb).toArray 36)) := (Below.refl _ w).alloc (Nat.le_refl _) _
  have HB := Lib.hid (And.intro b0 B0)
  obtain ⟨C, hC⟩ : ∃ C, Hid (C = (l.map vb).toArray) := ⟨_, rfl⟩
  rw [← hC.out] at HB ⊢
  clear b0 B0
  go_enter Try.func26, Try.ntmps26
  go_wp2_with (first
    | ((with_reducible refine wpList_boxB (o := ⟨some 1, .box _ (.tmp 0), _, _, _, _⟩) (.tmp 0) (by with_unfolding_all rfl) (by with_unfolding_all rfl) (by with_unfolding_all rfl) ?_)))
  obtain ⟨b0, B0⟩ := HB.out
  go_loopw [3, 4] (fun v i wr => ∃ (k : Nat) (S : List UInt8), k ≤ 32 ∧ i = .int .i64 k ∧ v = .string ⟨S.toArray⟩ ∧ Hid (S = hexB (l.take k)) ∧ ArrB 36 wr w.heap.size l ∧ Below w.heap.size w wr) (fun _ i _ => 32 - (intOf i).toNat)
  case atStart => exact ⟨0, [], by omega, rfl, rfl, rfl, b0, B0⟩
  case round =>
    clear b0 B0
    obtain ⟨k, S, hk, rfl, rfl, HL, A1, B⟩ := hrel
    by_cases hlt : k < 32
    · have d1 : decide ((k : Int) < 32) = true := by simp; omega
      have hkl : k < l.length := by rw [HLL.out]; exact hlt
      have ik := fun W => arrB_index (T := 36) (n := 32) Try.underlying36 w.heap.size k hlt W
      have HLS : Hid (S ++ [digH (l[k].toNat / 16), digH (l[k].toNat % 16)] = hexB (l.take (k + 1))) := by rw [Hid, HL.out, List.take_succ_eq_append_getElem hkl, hexB_snoc]
      have HEK : Hid (∀ wx, ArrB 36 wx w.heap.size l → wx.cell? ⟨w.heap.size, k, none⟩ = some (vb l[k])) := fun wx h => h.cell k hkl
      generalize l[k] = x at HLS HEK
      have hx := b_lt x
      go_wp2_with fail
      go_loopw [3, 5] (fun v j wq => ∃ (m : Nat) (R : List UInt8), m ≤ 2 ∧ j = .int .i64 m ∧ v = .string ⟨R.toArray⟩ ∧ Hid (R = S ++ [digH (x.toNat / 16), digH (x.toNat % 16)].take m) ∧ ArrB 36 wq w.heap.size l ∧ Below w.heap.size w wq) (fun _ j _ => 2 - (intOf j).toNat)
      case atStart => exact ⟨0, S, by omega, rfl, rfl, by simp [Hid], A1, B⟩
      case round =>
        clear A1 B
        obtain ⟨m, R, hm, rfl, rfl, HR, A1, B⟩ := hrel
        by_cases hm2 : m < 2
        · have d2 : decide ((m : Int) < 2) = true := by simp; omega
          have ek := HEK.out _ A1
          have hR9 : R.length ≤ 1000 := by
            rw [HR.out, HL.out, List.length_append, List.length_take, hexB_len, List.length_take]; simp; omega
          have hm3 : m = 0 ∨ m = 1 := by omega
          rcases hm3 with rfl | rfl
          · by_cases h10 : (bDiv x (bI 16)).toNat < 10
            · have HZ : Hid (R ++ [digH (bDiv x (bI 16)).toNat] = S ++ [digH (x.toNat / 16), digH (x.toNat % 16)].take 1) := by rw [Hid, HR.out, bDiv_16]; simp
              have f1 := dig_lo _ h10
              have d3 : decide (((bDiv x (bI 16)).toNat : Int) < 10) = true := by simp; omega
              have cv := one_str wr (digH (bDiv x (bI 16)).toNat)
              have HA1 := Lib.hid (A1.stay ((Below.refl _ wr).alloc (Nat.le_refl _) (.cells #[.int .u8 ((digH (bDiv x (bI 16)).toNat).toNat : Int)] 5)))
              have HB1 := Lib.hid (B.trans ((Below.refl _ wr).alloc B.size (.cells #[.int .u8 ((digH (bDiv x (bI 16)).toNat).toNat : Int)] 5)))
              go_wp2_with fail
              go_roundw
              case rel => exact ⟨1, _, by omega, rfl, by rw [str_snoc], HZ, HA1.out, HB1.out⟩
              case measure => simp [intOf]
            · have HZ : Hid (R ++ [digH (bDiv x (bI 16)).toNat] = S ++ [digH (x.toNat / 16), digH (x.toNat % 16)].take 1) := by rw [Hid, HR.out, bDiv_16]; simp
              have h16 : (bDiv x (bI 16)).toNat < 16 := by rw [bDiv_16]; omega
              have f1 := dig_hi1 _ h10 h16
              have f2 := dig_hi2 _ h10 h16
              have d3 : decide (((bDiv x (bI 16)).toNat : Int) < 10) = false := by simp; omega
              clear h16
              have cv := one_str wr (digH (bDiv x (bI 16)).toNat)
              have HA1 := Lib.hid (A1.stay ((Below.refl _ wr).alloc (Nat.le_refl _) (.cells #[.int .u8 ((digH (bDiv x (bI 16)).toNat).toNat : Int)] 5)))
              have HB1 := Lib.hid (B.trans ((Below.refl _ wr).alloc B.size (.cells #[.int .u8 ((digH (bDiv x (bI 16)).toNat).toNat : Int)] 5)))
              go_wp2_with fail
              go_roundw
              case rel => exact ⟨1, _, by omega, rfl, by rw [str_snoc], HZ, HA1.out, HB1.out⟩
              case measure => simp [intOf]
          · by_cases h10 : (bMod x (bI 16)).toNat < 10
            · have HZ : Hid (R ++ [digH (bMod x (bI 16)).toNat] = S ++ [digH (x.toNat / 16), digH (x.toNat % 16)].take 2) := by rw [Hid, HR.out, bMod_16]; simp
              have f1 := dig_lo _ h10
              have d3 : decide (((bMod x (bI 16)).toNat : Int) < 10) = true := by simp; omega
              have cv := one_str wr (digH (bMod x (bI 16)).toNat)
              have HA1 := Lib.hid (A1.stay ((Below.refl _ wr).alloc (Nat.le_refl _) (.cells #[.int .u8 ((digH (bMod x (bI 16)).toNat).toNat : Int)] 5)))
              have HB1 := Lib.hid (B.trans ((Below.refl _ wr).alloc B.size (.cells #[.int .u8 ((digH (bMod x (bI 16)).toNat).toNat : Int)] 5)))
              go_wp2_with fail
              go_roundw
              case rel => exact ⟨2, _, by omega, rfl, by rw [str_snoc], HZ, HA1.out, HB1.out⟩
              case measure => simp [intOf]
            · have HZ : Hid (R ++ [digH (bMod x (bI 16)).toNat] = S ++ [digH (x.toNat / 16), digH (x.toNat % 16)].take 2) := by rw [Hid, HR.out, bMod_16]; simp
              have h16 : (bMod x (bI 16)).toNat < 16 := by rw [bMod_16]; omega
              have f1 := dig_hi1 _ h10 h16
              have f2 := dig_hi2 _ h10 h16
              have d3 : decide (((bMod x (bI 16)).toNat : Int) < 10) = false := by simp; omega
              clear h16
              have cv := one_str wr (digH (bMod x (bI 16)).toNat)
              have HA1 := Lib.hid (A1.stay ((Below.refl _ wr).alloc (Nat.le_refl _) (.cells #[.int .u8 ((digH (bMod x (bI 16)).toNat).toNat : Int)] 5)))
              have HB1 := Lib.hid (B.trans ((Below.refl _ wr).alloc B.size (.cells #[.int .u8 ((digH (bMod x (bI 16)).toNat).toNat : Int)] 5)))
              go_wp2_with fail
              go_roundw
              case rel => exact ⟨2, _, by omega, rfl, by rw [str_snoc], HZ, HA1.out, HB1.out⟩
              case measure => simp [intOf]
        · obtain rfl : m = 2 := by omega
          have d2 : decide (((2 : Nat) : Int) < 2) = false := by decide
          have HRT : Hid (R = hexB (l.take (k + 1))) := by rw [Hid, HR.out, ← HLS.out]; rfl
          go_wp2_with fail
          go_roundw
          case rel => exact ⟨k + 1, R, by omega, by go_num, rfl, HRT, A1, B⟩
          case measure => simp [intOf]; omega
    · have hk2 : k = 32 := by omega
      have d1 : decide ((k : Int) < 32) = false := by simp; omega
      have HS2 : Hid (S = hexB l) := by rw [Hid, HL.out, hk2, List.take_of_length_le (by rw [HLL.out]; omega)]
      clear hk2
      go_wp2_with fail
      go_ret
      exact ⟨by rw [← HS2.out]; rfl, B⟩
end Go.Proofs.Ytiemafgnpmoblaa
