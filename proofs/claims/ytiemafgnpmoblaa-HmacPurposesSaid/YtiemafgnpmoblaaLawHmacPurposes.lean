/- HmacPurposes: the walk of the law. -/
import Derived.Test.YtiemafgnpmoblaaDerive
namespace Go.Proofs.Ytiemafgnpmoblaa
open Go Go.RowKit Go.Cit

theorem purposes_far (w : World) (a0 : Option Addr) (k : List UInt8) (c0 : Nat) (s : List UInt8) (a2 : Option Addr) (zs : List Int) (c2 : Nat) (hk : k.length ≤ 9223372036854775807) (hz : zs.length ≤ 9223372036854775807) (h : 600 < k.length ∨ 100 < s.length ∨ 30 < zs.length) :
    Calls Try.prog 9 #[.slice a0 k.length c0, .string ⟨s.toArray⟩, .slice a2 zs.length c2] w fun e w' => e = .returned (.bool true) ∧ Below w.heap.size w w' := by
  by_cases h1 : 600 < k.length
  · have d1 : decide ((600 : Int) < (k.length : Int)) = true := by simp; omega
    have d1' : decide (600 < k.length) = true := by simpa using h1
    go_enter Try.func9, Try.ntmps9
    go_wp2_with fail
    go_ret
    exact ⟨rfl, Below.refl _ _⟩
  · have d1 : decide ((600 : Int) < (k.length : Int)) = false := by simp; omega
    have d1' : decide (600 < k.length) = false := by simpa using h1
    by_cases h2 : 100 < s.length
    · have d2 : decide ((100 : Int) < (s.length : Int)) = true := by simp; omega
      have d2' : decide (100 < s.length) = true := by simpa using h2
      go_enter Try.func9, Try.ntmps9
      go_wp2_with fail
      go_ret
      exact ⟨rfl, Below.refl _ _⟩
    · have d2 : decide ((100 : Int) < (s.length : Int)) = false := by simp; omega
      have d2' : decide (100 < s.length) = false := by simpa using h2
      have h3 : 30 < zs.length := by omega
      have d3 : decide ((30 : Int) < (zs.length : Int)) = true := by simp; omega
      have d3' : decide (30 < zs.length) = true := by simpa using h3
      go_enter Try.func9, Try.ntmps9
      go_wp2_with fail
      go_ret
      exact ⟨rfl, Below.refl _ _⟩

set_option maxRecDepth 100000 in
set_option maxHeartbeats 4000000 in
theorem purposes_near (w : World) (a0 : Option Addr) (k : List UInt8) (c0 : Nat) (h0 : Row w a0 k c0) (s : List UInt8) (a2 : Option Addr) (zs : List Int) (c2 : Nat) (h2 : Ints w a2 zs c2) (hk6 : k.length ≤ 600) (hs6 : s.length ≤ 100) (hz6 : zs.length ≤ 30) :
    Calls Try.prog 9 #[.slice a0 k.length c0, .string ⟨s.toArray⟩, .slice a2 zs.length c2] w fun e w' => e = .returned (.bool true) ∧ Below w.heap.size w w' := by
  have d1 : decide ((600 : Int) < (k.length : Int)) = false := by simp; omega
  have d1' : decide (600 < k.length) = false := by simp; omega
  have d2 : decide ((100 : Int) < (s.length : Int)) = false := by simp; omega
  have d2' : decide (100 < s.length) = false := by simp; omega
  have d3 : decide ((30 : Int) < (zs.length : Int)) = false := by simp; omega
  have d3' : decide (30 < zs.length) = false := by simp; omega
  have HH0 := Lib.hid h0
  have HH2 := Lib.hid h2
  clear h0 h2
  go_enter Try.func9, Try.ntmps9
  go_wp2_with fail
  go_loopw [7] (fun i wr => ∃ (j : Nat), j ≤ 2 ∧ i = .int .i64 j ∧ Hid (Below w.heap.size w wr)) (fun i _ => 2 - (intOf i).toNat)
  case atStart => exact ⟨0, by decide, rfl, Below.refl _ _⟩
  case round =>
    obtain ⟨j, hj, rfl, HB⟩ := hrel
    by_cases hlt : j < 2
    · have HD := Lib.hid (derive_calls wr a0 k c0 (HH0.out.stay HB.out) (by omega) s (by omega) a2 zs c2 (HH2.out.stay HB.out) (by omega))
      go_wp2_with fail
      refine HD.out.mono ?_
      rintro e w1 ⟨g, rfl, hg, hA, hb1⟩
      have HB1 := Lib.hid (HB.out.trans (hb1.mono HB.out.size))
      have HG := Lib.hid (Nat.le_trans HB.out.size hg)
      have HE := Lib.hid (refderive_calls w1 a0 k c0 (HH0.out.stay HB1.out) (by omega) s (by omega) a2 zs c2 (HH2.out.stay HB1.out) (by omega))
      obtain ⟨T, hT⟩ : ∃ T, Hid (T = deriveB k s zs) := ⟨_, rfl⟩
      have HTL : Hid (T.length = 32) := by rw [Hid, hT.out]; exact hmacB_len _ _
      rw [← hT.out] at hA HE
      have HAr := Lib.hid hA
      clear hA hb1 hg HD
      go_wp2_with fail
      refine HE.out.mono ?_
      rintro e w2 ⟨a3, c3, rfl, hr3, hb2⟩
      have HB2 := Lib.hid (HB1.out.trans (hb2.mono HB1.out.size))
      have HA2 := Lib.hid (HAr.out.stay hb2)
      have hrow := HA2.out.row (by rw [HTL.out]; decide)
      have hsm := same_calls w2 (some ⟨g, 0, none⟩) a3 T T T.length c3 hrow hr3
      rw [HTL.out, ordB_self] at hsm
      have HSM := Lib.hid hsm
      clear hsm hrow hr3 hb2 HE
      go_wp2_with fail
      refine HSM.out.mono ?_
      rintro e w3 ⟨rfl, hd⟩
      have HB3 := Lib.hid (HB2.out.trans ((hd.below _).mono (Nat.le_refl _)))
      have HA3 := Lib.hid (HA2.out.stay (hd.below _))
      clear hd HSM
      go_wp2_with fail
      obtain ⟨L0, hL0⟩ : ∃ L0 : List UInt8, Hid (L0 = T) := ⟨_, rfl⟩
      go_loopw [9] (fun i wq => ∃ (q : Nat) (m : List UInt8), q ≤ 32 ∧ i = .int .i64 q ∧ Hid (m.length = 32) ∧ Hid (ArrB 36 wq g m) ∧ Hid (Below w.heap.size w wq)) (fun i _ => 32 - (intOf i).toNat)
      case atStart => exact ⟨0, T, by decide, rfl, HTL, HA3, HB3⟩
      case round =>
        obtain ⟨q, m, hq, rfl, HML, HAm, HBm⟩ := hrel
        by_cases hlq : q < 32
        · have hqm : q < m.length := by rw [HML.out]; exact hlq
          have hrm := HAm.out.row (by rw [HML.out]; decide)
          have ij := hrm.index bt.slice bt.sz q hqm
          have ej := hrm.cell q hqm
          have fj : wr.frozen? (ad (some ⟨g, 0, none⟩) q) = false := by simpa [ad] using HAm.out.free q
          rw [HML.out] at ij
          have hst := HAm.out.set q (bAdd m[q] (bI 1))
          have hbs : Below w.heap.size w (wr.setCell ⟨g, q, none⟩ (vb (bAdd m[q] (bI 1)))) := HBm.out.trans ⟨rfl, rfl, rfl, by rw [World.setCell]; simp, fun x hx => by
            have hgx : g ≠ x := by have := HG.out; omega
            simp [World.setCell, Array.getElem?_modify, hgx]⟩
          have had : ad (some ⟨g, 0, none⟩) q = ⟨g, q, none⟩ := by simp [ad]
          rw [← had] at hst hbs
          have HST := Lib.hid hst
          have HBS := Lib.hid hbs
          obtain ⟨y, hy⟩ : ∃ y, m[q] = y := ⟨_, rfl⟩
          rw [hy] at ej HST HBS
          have HLS : Hid ((m.set q (bAdd y (bI 1))).length = 32) := by rw [Hid, List.length_set]; exact HML.out
          clear hst hbs had hy hrm hqm
          go_wp2_with fail
          go_roundw
          case rel => exact ⟨q + 1, _, by omega, by go_num, HLS, HST, HBS⟩
          case measure => simp [intOf]; omega
        · have hq2 : q = 32 := by omega
          subst hq2
          go_wp2_with fail
          go_roundw
          case rel => exact ⟨j + 1, by omega, by go_num, HBm⟩
          case measure => simp [intOf]; omega
    · have hj2 : j = 2 := by omega
      subst hj2
      go_wp2_with fail
      go_ret
      exact ⟨rfl, HB.out⟩

theorem hmacPurposes_law (w : World) (a0 : Option Addr) (k : List UInt8) (c0 : Nat) (h0 : Row w a0 k c0) (s : List UInt8) (a2 : Option Addr) (zs : List Int) (c2 : Nat) (h2 : Ints w a2 zs c2) :
    Calls Try.prog 9 #[.slice a0 k.length c0, .string ⟨s.toArray⟩, .slice a2 zs.length c2] w fun e w' => e = .returned (.bool true) ∧ Below w.heap.size w w' := by
  by_cases h : 600 < k.length ∨ 100 < s.length ∨ 30 < zs.length
  · exact purposes_far w a0 k c0 s a2 zs c2 h0.len_le h2.len_le h
  · exact purposes_near w a0 k c0 h0 s a2 zs c2 h2 (by omega) (by omega) (by omega)
theorem hmacPurposes_all (w : World) (a0 : Option Addr) (k : List UInt8) (c0 : Nat) (d : ByteArray) (a2 : Option Addr) (zs : List Int) (c2 : Nat) (h0 : Row w a0 k c0) {p : Prop} (_ : p) (h2 : Ints w a2 zs c2) :
    Calls Try.prog 9 #[.slice a0 k.length c0, .string d, .slice a2 zs.length c2] w fun e w' => e = .returned (.bool true) ∧ Below w.heap.size w w' := by
  have h := hmacPurposes_law w a0 k c0 h0 d.data.toList a2 zs c2 h2
  have e : (⟨d.data.toList.toArray⟩ : ByteArray) = d := by cases d; simp
  rw [e] at h
  exact h
end Go.Proofs.Ytiemafgnpmoblaa
