/- The reference's Form: a label, a zero, the numbers. Walked. -/
import Derived.Test.YtiemafgnpmoblaaSpare
namespace Go.Cit
open Go Go.RowKit
theorem Spare.stay {B : Nat} {w w' : World} {a : Option Addr} {l : List UInt8} {cap : Nat} (h : Spare B w a l cap) (hb : Below w.heap.size w w') : Spare B w' a l cap := by
  obtain ⟨g, rfl, hg, hth⟩ := h.spot
  refine ⟨h.row.stay hb, g, rfl, hg, fun j hj => ?_⟩
  obtain ⟨h1, h2⟩ := hth j hj
  obtain ⟨v, hv⟩ := Option.isSome_iff_exists.1 h1
  have hk := World.block_lt_of_cell? w _ hv
  exact ⟨by rw [hb.cell hk]; exact h1, by rw [hb.frozen hk]; exact h2⟩
theorem Spare.mono {B B' : Nat} {w : World} {a : Option Addr} {l : List UInt8} {cap : Nat} (h : Spare B w a l cap) (hB : B' ≤ B) : Spare B' w a l cap := by
  obtain ⟨g, rfl, hg, hth⟩ := h.spot
  exact ⟨h.row, g, rfl, Nat.le_trans hB hg, hth⟩

end Go.Cit
namespace Go.Proofs.Ytiemafgnpmoblaa
open Go Go.RowKit Go.Cit

/-- A number as the code turns it to 64 bits. -/
def qOf (z : Int) : UInt64 := UInt64.ofNat (z % 18446744073709551616).toNat
theorem conv_q (z : Int) : IntKind.u64.wrap z = ((qOf z).toNat : Int) := by
  unfold qOf
  have h1 : IntKind.u64.wrap z = z % 18446744073709551616 := by simp [IntKind.wrap, IntKind.signed, IntKind.bits]
  rw [h1]
  have h2 : (z % 18446744073709551616).toNat < 18446744073709551616 := by omega
  have h3 : (UInt64.ofNat (z % 18446744073709551616).toNat).toNat = (z % 18446744073709551616).toNat := by simp; omega
  rw [h3]
  omega
def formB (s : List UInt8) (zs : List Int) : List UInt8 := s ++ [0] ++ (zs.map fun z => rowB (qOf z) 8).flatten
theorem formB_succ (s : List UInt8) (zs : List Int) (k : Nat) (h : k < zs.length) : formB s (zs.take (k + 1)) = formB s (zs.take k) ++ rowB (qOf zs[k]) 8 := by
  unfold formB
  rw [← take_snoc zs k h, List.map_append, List.flatten_append]
  simp

theorem string_spare (w : World) (l : List UInt8) (hl : l.length ≤ 1000000000) : ∃ c w', (convert 9 25 (.string ⟨l.toArray⟩)).run Try.prog w = .ok (.slice (some ⟨w.heap.size, 0, none⟩) l.length c) w' ∧ Spare w.heap.size w' (some ⟨w.heap.size, 0, none⟩) l c ∧ Below w.heap.size w w' := by
  have hr := Lib.run_convert_string_bytes (P := Try.prog) w 9 25 5 ⟨l.toArray⟩ Try.underlying9 Try.underlying25 Try.underlying5
  obtain ⟨c2, w2, hr2, hrow, hb⟩ := string_bytes w l hl
  have hz : (⟨l.toArray⟩ : ByteArray).size = l.length := by simp [ByteArray.size]
  have he := hr.symm.trans hr2
  simp only [Result.ok.injEq, Value.slice.injEq] at he
  obtain ⟨⟨-, -, rfl⟩, rfl⟩ := he
  refine ⟨_, _, hr2, ⟨hrow, _, rfl, Nat.le_refl _, fun j hj => ?_⟩, hb⟩
  have hge : l.length ≤ grownCap w l.length 0 5 := grownCap_ge _ _ _ _
  have hsz : (Lib.bytesCells w 5 ⟨l.toArray⟩).size = grownCap w (⟨l.toArray⟩ : ByteArray).size 0 5 := by
    unfold Lib.bytesCells
    simp [ByteArray.size] at hge ⊢
    omega
  rw [Nat.zero_add, World.cell?, World.frozen?, Lib.bytesWorld_at_new]
  refine ⟨?_, ?_⟩
  · simp only [Option.isSome_iff_exists]
    exact ⟨_, Array.getElem?_eq_getElem (by rw [hsz]; exact hj)⟩
  · simp only [hsz, decide_eq_false_iff_not, Bool.and_eq_false_iff]
    left; omega

set_option maxRecDepth 100000 in
set_option maxHeartbeats 4000000 in
theorem refform_calls (w : World) (s : List UInt8) (hs9 : s.length ≤ 1000) (a : Option Addr) (zs : List Int) (c : Nat) (h : Ints w a zs c) (hz9 : zs.length ≤ 1000) :
    Calls Try.prog 68 #[.string ⟨s.toArray⟩, .slice a zs.length c] w fun e w' => ∃ a' c', e = .returned (.slice a' (formB s zs).length c') ∧ Row w' a' (formB s zs) c' ∧ Below w.heap.size w w' := by
  have HSP := Lib.hid (string_spare w s (by omega))
  have HZ := Lib.hid h
  obtain ⟨n, hn⟩ : ∃ n, Hid (n = zs.length) := ⟨_, rfl⟩
  rw [← hn.out]
  have hn9 : n ≤ 1000 := by rw [hn.out]; exact hz9
  clear h
  obtain ⟨c1, w1, hr1, hS1, hb1⟩ := HSP.out
  have HS1 := Lib.hid hS1
  have HB1 := Lib.hid hb1
  clear hS1 hb1 HSP
  go_enter Try.func68, Try.ntmps68
  have hl9 : s.length ≤ 1000 := hs9
  have HLT : Hid (Row (w1.alloc (.cells #[.int .u8 0] 5)) (some ⟨w1.heap.size, 0, none⟩) [0] 1) := Lib.hid (own_lit w1 #[.int .u8 0] 5 [0] (by rfl) (by simp)).isRow
  have HBL : Hid (Below w1.heap.size w1 (w1.alloc (.cells #[.int .u8 0] 5))) := (Below.refl _ _).alloc (Nat.le_refl _) _
  have HSL := Lib.hid (HS1.out.stay HBL.out)
  have HSZ := Lib.hid (HB1.out.size)
  obtain ⟨l0, hl0⟩ : ∃ l0, Hid (l0 = s ++ [0]) := ⟨s ++ [0], rfl⟩
  go_wp2_with (first
    | ((with_reducible refine wpList_sapp bt (o := ⟨some 10, .call _, _, _, _, _⟩) (.tmp 8) (.tmp 9) (by with_unfolding_all rfl) (by with_unfolding_all rfl) HSL.out HLT.out (by simp) (by simp; omega) (Nat.le_trans HSZ.out HBL.out.size) (by with_unfolding_all rfl) (by with_unfolding_all rfl) ?_); intro a2 c2 w2 hO2 hb2; rw [← hl0.out] at hO2 ⊢; have HO2 := Lib.hid hO2; have HB2 := Lib.hid (HB1.out.trans ((HBL.out.mono HSZ.out).trans hb2)); clear hO2 hb2))
  have HLA : Hid (l0.length = s.length + 1 + 8 * 0) := by rw [Hid, hl0.out]; simp
  go_loopw [5, 6] (fun t i wr => ∃ (k : Nat) (a' : Option Addr) (c' : Nat) (l : List UInt8), Hid (l = formB s (zs.take k)) ∧ Hid (l.length = s.length + 1 + 8 * k) ∧ k ≤ n ∧ i = .int .i64 k ∧ t = .slice a' l.length c' ∧ Hid (Spare w.heap.size wr a' l c') ∧ Hid (Below w.heap.size w wr)) (fun _ i _ => n - (intOf i).toNat)
  case atStart => exact ⟨0, a2, c2, l0, by rw [Hid, hl0.out]; simp [formB], HLA, Nat.zero_le _, rfl, rfl, HO2, HB2⟩
  case round =>
    obtain ⟨k, a', c', l, HX, HL, hk, rfl, rfl, HO, HB⟩ := hrel
    by_cases hlt : k < n
    · have hkz : k < zs.length := by rw [← hn.out]; exact hlt
      have hZ := HZ.out.stay HB.out
      have i0 := hZ.index k hkz
      have e0 := hZ.cell k hkz
      rw [← hn.out] at i0
      obtain ⟨z, hz⟩ : ∃ z, Hid (z = zs[k]) := ⟨zs[k], rfl⟩
      rw [← hz.out] at e0
      clear hZ
      go_wp2_with fail
      have hc := refput_calls wr (qOf z) 8 (by decide)
      rw [conv_q z]
      refine Calls.mono hc ?_
      rintro e w4 ⟨a4, c4, rfl, hO4, hb4⟩
      have hbs := HB.out.size
      have HO4 : Hid (Row w4 a4 (rowB (qOf z) 8) c4) := hO4.isRow
      have HOs := Lib.hid (HO.out.stay hb4)
      have HB4 := Lib.hid (HB.out.trans (hb4.mono hbs))
      have HR8 := Lib.hid (rowB_length (qOf z) 8)
      have HNX : Hid (l ++ rowB (qOf z) 8 = formB s (zs.take (k + 1))) := by rw [Hid, formB_succ s zs k hkz, HX.out, hz.out]
      have hl9' : l.length ≤ 100000 := by rw [HL.out]; omega
      have HL8 : Hid ((l ++ rowB (qOf z) 8).length = s.length + 1 + 8 * (k + 1)) := by rw [Hid, List.length_append, HR8.out, HL.out]; omega
      clear hO4 hb4 hbs hc
      generalize rowB (qOf z) 8 = R at HO4 HR8 HNX HL8
      have hR0 : R ≠ [] := by intro h0; have := HR8.out; rw [h0] at this; simp at this
      obtain ⟨l2, hl2⟩ : ∃ l2, Hid (l2 = l ++ R) := ⟨l ++ R, rfl⟩
      rw [← hl2.out] at HNX HL8
      go_wp2_with (first
        | ((with_reducible refine wpList_sapp bt (o := ⟨some 24, .call _, _, _, _, _⟩) (.tmp 17) (.tmp 23) (by with_unfolding_all rfl) (by with_unfolding_all rfl) HOs.out HO4.out hR0 (by rw [HR8.out]; omega) HB4.out.size (by with_unfolding_all rfl) (by rw [HR8.out]; with_unfolding_all rfl) ?_); intro a5 c5 w5 hO5 hb5; rw [← hl2.out] at hO5 ⊢; have HO5 := Lib.hid hO5; have HB5 := Lib.hid (HB4.out.trans hb5); clear hO5 hb5))
      go_roundw
      case rel => exact ⟨k + 1, a5, c5, l2, HNX, HL8, by omega, by go_num, rfl, HO5, HB5⟩
      case measure => simp [intOf]; omega
    · have hk2 : k = n := by omega
      subst hk2
      have HF : Hid (l = formB s zs) := by rw [Hid, HX.out, hn.out, List.take_length]
      go_wp2
      go_ret
      obtain rfl := HF.out
      exact ⟨a', c', rfl, HO.out.row, HB.out⟩
end Go.Proofs.Ytiemafgnpmoblaa
