/- sha.Hex, the reference's Hex: walked. -/
import Derived.Test.YtiemafgnpmoblaaVec
import Derived.Test.YtiemafgnpmoblaaSame
import Derived.Test.YtiemafgnpmoblaaArrB
import Derived.Test.YtiemafgnpmoblaaRefShaP
import Derived.Deep.RegionLaw
import Derived.BigRegion
namespace Go.Proofs.Ytiemafgnpmoblaa
open Go Go.RowKit Go.Cit

def digH (d : Nat) : UInt8 := if d < 10 then UInt8.ofNat (48 + d) else UInt8.ofNat (87 + d)
def hexB (l : List UInt8) : List UInt8 := l.flatMap fun x => [digH (x.toNat / 16), digH (x.toNat % 16)]
theorem hexB_snoc (l : List UInt8) (x : UInt8) : hexB (l ++ [x]) = hexB l ++ [digH (x.toNat / 16), digH (x.toNat % 16)] := by simp [hexB]
theorem hexB_len (l : List UInt8) : (hexB l).length = 2 * l.length := by
  unfold hexB
  rw [flatLen (n := 2) (fun _ => rfl)]; omega
theorem hex_0 (w : World) : (Instr.index 9 (.string ⟨#[48, 49, 50, 51, 52, 53, 54, 55, 56, 57, 97, 98, 99, 100, 101, 102]⟩) (.int .u8 0)).run Try.prog w = .ok (vb (digH 0)) w := by kernel_rfl
theorem hex_1 (w : World) : (Instr.index 9 (.string ⟨#[48, 49, 50, 51, 52, 53, 54, 55, 56, 57, 97, 98, 99, 100, 101, 102]⟩) (.int .u8 1)).run Try.prog w = .ok (vb (digH 1)) w := by kernel_rfl
theorem hex_2 (w : World) : (Instr.index 9 (.string ⟨#[48, 49, 50, 51, 52, 53, 54, 55, 56, 57, 97, 98, 99, 100, 101, 102]⟩) (.int .u8 2)).run Try.prog w = .ok (vb (digH 2)) w := by kernel_rfl
theorem hex_3 (w : World) : (Instr.index 9 (.string ⟨#[48, 49, 50, 51, 52, 53, 54, 55, 56, 57, 97, 98, 99, 100, 101, 102]⟩) (.int .u8 3)).run Try.prog w = .ok (vb (digH 3)) w := by kernel_rfl
theorem hex_4 (w : World) : (Instr.index 9 (.string ⟨#[48, 49, 50, 51, 52, 53, 54, 55, 56, 57, 97, 98, 99, 100, 101, 102]⟩) (.int .u8 4)).run Try.prog w = .ok (vb (digH 4)) w := by kernel_rfl
theorem hex_5 (w : World) : (Instr.index 9 (.string ⟨#[48, 49, 50, 51, 52, 53, 54, 55, 56, 57, 97, 98, 99, 100, 101, 102]⟩) (.int .u8 5)).run Try.prog w = .ok (vb (digH 5)) w := by kernel_rfl
theorem hex_6 (w : World) : (Instr.index 9 (.string ⟨#[48, 49, 50, 51, 52, 53, 54, 55, 56, 57, 97, 98, 99, 100, 101, 102]⟩) (.int .u8 6)).run Try.prog w = .ok (vb (digH 6)) w := by kernel_rfl
theorem hex_7 (w : World) : (Instr.index 9 (.string ⟨#[48, 49, 50, 51, 52, 53, 54, 55, 56, 57, 97, 98, 99, 100, 101, 102]⟩) (.int .u8 7)).run Try.prog w = .ok (vb (digH 7)) w := by kernel_rfl
theorem hex_8 (w : World) : (Instr.index 9 (.string ⟨#[48, 49, 50, 51, 52, 53, 54, 55, 56, 57, 97, 98, 99, 100, 101, 102]⟩) (.int .u8 8)).run Try.prog w = .ok (vb (digH 8)) w := by kernel_rfl
theorem hex_9 (w : World) : (Instr.index 9 (.string ⟨#[48, 49, 50, 51, 52, 53, 54, 55, 56, 57, 97, 98, 99, 100, 101, 102]⟩) (.int .u8 9)).run Try.prog w = .ok (vb (digH 9)) w := by kernel_rfl
theorem hex_10 (w : World) : (Instr.index 9 (.string ⟨#[48, 49, 50, 51, 52, 53, 54, 55, 56, 57, 97, 98, 99, 100, 101, 102]⟩) (.int .u8 10)).run Try.prog w = .ok (vb (digH 10)) w := by kernel_rfl
theorem hex_11 (w : World) : (Instr.index 9 (.string ⟨#[48, 49, 50, 51, 52, 53, 54, 55, 56, 57, 97, 98, 99, 100, 101, 102]⟩) (.int .u8 11)).run Try.prog w = .ok (vb (digH 11)) w := by kernel_rfl
theorem hex_12 (w : World) : (Instr.index 9 (.string ⟨#[48, 49, 50, 51, 52, 53, 54, 55, 56, 57, 97, 98, 99, 100, 101, 102]⟩) (.int .u8 12)).run Try.prog w = .ok (vb (digH 12)) w := by kernel_rfl
theorem hex_13 (w : World) : (Instr.index 9 (.string ⟨#[48, 49, 50, 51, 52, 53, 54, 55, 56, 57, 97, 98, 99, 100, 101, 102]⟩) (.int .u8 13)).run Try.prog w = .ok (vb (digH 13)) w := by kernel_rfl
theorem hex_14 (w : World) : (Instr.index 9 (.string ⟨#[48, 49, 50, 51, 52, 53, 54, 55, 56, 57, 97, 98, 99, 100, 101, 102]⟩) (.int .u8 14)).run Try.prog w = .ok (vb (digH 14)) w := by kernel_rfl
theorem hex_15 (w : World) : (Instr.index 9 (.string ⟨#[48, 49, 50, 51, 52, 53, 54, 55, 56, 57, 97, 98, 99, 100, 101, 102]⟩) (.int .u8 15)).run Try.prog w = .ok (vb (digH 15)) w := by kernel_rfl
theorem hex_index (d : Nat) (hd : d < 16) (w : World) : (Instr.index 9 (.string ⟨#[48, 49, 50, 51, 52, 53, 54, 55, 56, 57, 97, 98, 99, 100, 101, 102]⟩) (.int .u8 (d : Int))).run Try.prog w = .ok (vb (digH d)) w := by
  have h : d = 0 ∨ d = 1 ∨ d = 2 ∨ d = 3 ∨ d = 4 ∨ d = 5 ∨ d = 6 ∨ d = 7 ∨ d = 8 ∨ d = 9 ∨ d = 10 ∨ d = 11 ∨ d = 12 ∨ d = 13 ∨ d = 14 ∨ d = 15 := by omega
  rcases h with rfl | rfl | rfl | rfl | rfl | rfl | rfl | rfl | rfl | rfl | rfl | rfl | rfl | rfl | rfl | rfl
  · exact hex_0 w
  · exact hex_1 w
  · exact hex_2 w
  · exact hex_3 w
  · exact hex_4 w
  · exact hex_5 w
  · exact hex_6 w
  · exact hex_7 w
  · exact hex_8 w
  · exact hex_9 w
  · exact hex_10 w
  · exact hex_11 w
  · exact hex_12 w
  · exact hex_13 w
  · exact hex_14 w
  · exact hex_15 w
theorem bDiv_16 (x : UInt8) : (bDiv x (bI 16)).toNat = x.toNat / 16 := by unfold bDiv bI; rw [UInt8.toNat_div]; rfl
theorem bMod_16 (x : UInt8) : (bMod x (bI 16)).toNat = x.toNat % 16 := by unfold bMod bI; rw [UInt8.toNat_mod]; rfl
theorem bAnd_15 (x : UInt8) : (bAnd x (bI 15)).toNat = x.toNat % 16 := by
  unfold bAnd bI
  rw [UInt8.toNat_and]
  exact Nat.and_two_pow_sub_one_eq_mod x.toNat 4

set_option maxRecDepth 100000 in
set_option maxHeartbeats 2000000 in
theorem hex_calls (w : World) (l : List UInt8) (hl : l.length = 32) :
    Calls Try.prog 25 #[.agg (l.map vb).toArray] w fun e w' => e = .returned (.string ⟨(hexB l).toArray⟩) ∧ Below w.heap.size w w' := by
  obtain ⟨C, hC⟩ : ∃ C, Hid (C = (l.map vb).toArray) := ⟨_, rfl⟩
  have HC : Hid (C.size = 32) := by rw [Hid, hC.out]; simpa using hl
  rw [← hC.out]
  have HLL := Lib.hid hl
  clear hl
  have b0 : (w.alloc (.cells C 36)).heap[w.heap.size]? = some (.cells C 36 (0, 0)) := heap_alloc_new w _
  have B0 : Below w.heap.size w (w.alloc (.cells C 36)) := (Below.refl _ w).alloc (Nat.le_refl _) _
  have HB := Lib.hid (And.intro b0 B0)
  clear b0 B0
  go_enter Try.func25, Try.ntmps25
  go_wp2_with (first
    | ((with_reducible refine wpList_boxB (o := ⟨some 1, .box _ (.tmp 0), _, _, _, _⟩) (.tmp 0) (by with_unfolding_all rfl) (by with_unfolding_all rfl) (by with_unfolding_all rfl) ?_))
    | ((with_reducible refine wpList_loadB (o := ⟨some 6, .load _ _, _, _, _, _⟩) row_tag (.tmp 1) (by with_unfolding_all rfl) (by with_unfolding_all rfl) (by with_unfolding_all rfl) HB.out.1 HC.out ?_)))
  have B0 := HB.out.2
  go_loopw [3, 7] (fun v i wr => ∃ (k : Nat) (S : List UInt8) (a' : Option Addr) (c' : Nat), k ≤ 32 ∧ i = .int .i64 k ∧ v = .slice a' S.length c' ∧ Hid (S = hexB (l.take k)) ∧ VOwn cb 1 5 w.heap.size wr a' S c' ∧ Below w.heap.size w wr) (fun _ i _ => 32 - (intOf i).toNat)
  case atStart => exact ⟨0, [], none, 0, by omega, rfl, rfl, rfl, VOwn.nil_ _ _ _ _ _, B0⟩
  case round =>
    clear B0
    obtain ⟨k, S, a', c', hk, rfl, rfl, HL, hO, B⟩ := hrel
    have HSL : Hid (S.length = 2 * k) := by rw [Hid, HL.out, hexB_len, List.length_take, HLL.out]; omega
    by_cases hlt : k < 32
    · have d1 : decide ((k : Int) < 32) = true := by simp; omega
      have hkl : k < l.length := by rw [HLL.out]; exact hlt
      have ix : ∀ w, (Instr.index 36 (.agg C) (.int .i64 (k : Int))).run Try.prog w = .ok (vb l[k]) w := fun w => by
        have := run_index_agg (P := Try.prog) (n := 32) (k := k) (C := C) w Try.underlying36 (szB w) (aggB w) HC.out hlt
        rw [this]
        congr 1
        simp [hC.out]
      have HLS : Hid (S ++ [digH (l[k].toNat / 16), digH (l[k].toNat % 16)] = hexB (l.take (k + 1))) := by rw [Hid, HL.out, List.take_succ_eq_append_getElem hkl, hexB_snoc]
      generalize l[k] = x at ix HLS
      have hx := b_lt x
      have j1 := hex_index (bDiv x (bI 16)).toNat (by rw [bDiv_16]; omega)
      have j2 := hex_index (bAnd x (bI 15)).toNat (by rw [bAnd_15]; omega)
      have HY1 : Hid (digH (bDiv x (bI 16)).toNat = digH (x.toNat / 16)) := by rw [Hid, bDiv_16]
      have HY2 : Hid (digH (bAnd x (bI 15)).toNat = digH (x.toNat % 16)) := by rw [Hid, bAnd_15]
      rw [HY1.out] at j1
      rw [HY2.out] at j2
      have h9 : S.length + 2 ≤ 1000000000 := by rw [HSL.out]; omega
      go_wp2_with fail
      go_region_law (refine step_vappm (.ofBytes bt) cb_len cb_one (.tmp 10) (.tmp 17) rfl rfl [digH (x.toNat / 16), digH (x.toNat % 16)] hO rfl rfl (by simp) h9 B.size rfl rfl ?_; intro a2 c2 w2 hO2 hg2 hn2)
      all_goals
        simp only [Act.put, List.setIfInBounds_toArray, List.set_cons_succ]
        have HO2 := Lib.hid hO2
        have HB2 := Lib.hid (B.trans (hO.grown hg2 B.size))
        clear hO2 hg2 hn2
        go_wp2_with fail
        go_roundw
        case rel => exact ⟨k + 1, _, _, _, by omega, by go_num, by simp, HLS, HO2.out, HB2.out⟩
        case measure => simp [intOf]; omega
    · have hk2 : k = 32 := by omega
      have d1 : decide ((k : Int) < 32) = false := by simp; omega
      have HS2 : Hid (S = hexB l) := by rw [Hid, HL.out, hk2, List.take_of_length_le (by rw [HLL.out]; omega)]
      have hc := row_string (hO.own.isRow)
      clear hk2
      go_wp2_with fail
      go_ret
      exact ⟨by rw [← HS2.out]; rfl, B⟩
end Go.Proofs.Ytiemafgnpmoblaa
