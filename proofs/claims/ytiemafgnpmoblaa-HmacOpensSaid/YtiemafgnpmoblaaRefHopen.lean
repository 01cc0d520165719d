/- The reference's Open: walked. -/
import Derived.Test.YtiemafgnpmoblaaHmacSeal
namespace Go.Proofs.Ytiemafgnpmoblaa
open Go Go.RowKit Go.Cit

/-- A message is opened. -/
def okO (k s : List UInt8) : Bool := decide (32 ≤ s.length ∧ s = sealB k (s.take (s.length - 32)))
def openO (k s : List UInt8) : List UInt8 := if okO k s then s.take (s.length - 32) else []

set_option maxRecDepth 100000 in
set_option maxHeartbeats 2000000 in
theorem refhopen_calls (w : World) (a : Option Addr) (k : List UInt8) (c : Nat) (h : Row w a k c) (hl : k.length ≤ 1000000) (a2 : Option Addr) (s : List UInt8) (c2 : Nat) (h2 : Row w a2 s c2) (hl2 : s.length ≤ 1000000) :
    Calls Try.prog 42 #[.slice a k.length c, .slice a2 s.length c2] w fun e w' => ∃ a' c', e = .returned (.tuple #[.slice a' (openO k s).length c', .bool (okO k s)]) ∧ Row w' a' (openO k s) c' ∧ Below w.heap.size w w' := by
  by_cases h32 : s.length < 32
  · have d1 : decide ((s.length : Int) - 32 < 0) = true := by simp; omega
    have hk : okO k s = false := by unfold okO; simp; omega
    have HK := Lib.hid hk
    have HO : Hid (openO k s = []) := by rw [Hid, openO, hk]; rfl
    rw [HO.out, HK.out]
    clear hk h h2
    go_enter Try.func42, Try.ntmps42
    go_wp2_with fail
    go_ret2
    exact ⟨none, 0, rfl, Row.nil_ _, Below.refl _ _⟩
  · have d1 : decide ((s.length : Int) - 32 < 0) = false := by simp; omega
    obtain ⟨n, hn⟩ : ∃ n, s.length = n + 32 := ⟨s.length - 32, by omega⟩
    have hni : (s.length : Int) - 32 = (n : Int) := by omega
    obtain ⟨a3, m, c3, hm, hrun, r3⟩ := h2.upto bt.slice bt.sz n (by omega)
    have hml : m.length = n := by rw [hm, List.length_take]; omega
    have hms : m = s.take (s.length - 32) := by rw [hm]; congr 1; omega
    have hrun' : ∀ w, (Instr.sliceAt 25 (.slice a2 s.length c2) none (some (.int .i64 ((s.length : Int) - 32))) none).run Try.prog w = .ok (.slice a3 m.length c3) w := by
      intro w; rw [hni]; exact hrun w
    have HSL := Lib.hid (refseal_calls w a k c h hl a3 m c3 r3 (by omega))
    have HH2 := Lib.hid h2
    have HR3 := Lib.hid r3
    have hokd : okO k s = decide (sealB k m = s) := by
      unfold okO
      rw [← hms, Bool.eq_iff_iff, decide_eq_true_iff, decide_eq_true_iff]
      exact ⟨fun h => h.2.symm, fun h => ⟨by omega, h.symm⟩⟩
    have HOK := Lib.hid hokd
    have HMS := Lib.hid hms
    have hs9 : s.length ≤ 1000000 := hl2
    clear h h2 r3 hm hn hni hml hrun hokd hms
    by_cases hq : sealB k m = s
    · have q0 : (ordB (sealB k m) s == 0) = true := by rw [ordB_beq, decide_eq_true hq]
      have HK : Hid (okO k s = true) := by rw [Hid, HOK.out, decide_eq_true hq]
      have HO : Hid (openO k s = m) := by rw [Hid, openO, HK.out, HMS.out]; rfl
      rw [HK.out, HO.out]
      have Q1 := Lib.hid q0
      clear q0 hq
      go_enter Try.func42, Try.ntmps42
      go_wp2_with fail
      refine HSL.out.mono ?_
      rintro e w2 ⟨a4, c4, rfl, r4, hb2⟩
      have HSM := Lib.hid (same_calls w2 a4 a2 (sealB k m) s c4 c2 r4 (HH2.out.stay hb2))
      have HB2 := Lib.hid hb2
      clear r4 hb2 HSL
      go_wp2_with fail
      refine HSM.out.mono ?_
      rintro e w3 ⟨rfl, hd⟩
      have B3 := HB2.out.trans (hd.below w.heap.size)
      clear hd HSM
      have HCP := Lib.hid (copy_calls w3 a3 m c3 (HR3.out.stay B3) (by have := HR3.out.len_le; have := congrArg List.length HMS.out; rw [List.length_take] at this; omega))
      rw [Q1.out]
      go_wp2_with fail
      refine HCP.out.mono ?_
      rintro e w4 ⟨a5, c5, rfl, hO5, hb4⟩
      have HR5 := Lib.hid hO5.isRow
      have HB4 := Lib.hid (B3.trans (hb4.mono B3.size))
      clear hO5 hb4
      go_wp2_with fail
      go_ret2
      exact ⟨a5, c5, rfl, HR5.out, HB4.out⟩
    · have q0 : (ordB (sealB k m) s == 0) = false := by rw [ordB_beq, decide_eq_false hq]
      have HK : Hid (okO k s = false) := by rw [Hid, HOK.out, decide_eq_false hq]
      have HO : Hid (openO k s = []) := by rw [Hid, openO, HK.out]; rfl
      rw [HK.out, HO.out]
      have Q1 := Lib.hid q0
      clear q0 hq
      go_enter Try.func42, Try.ntmps42
      go_wp2_with fail
      refine HSL.out.mono ?_
      rintro e w2 ⟨a4, c4, rfl, r4, hb2⟩
      have HSM := Lib.hid (same_calls w2 a4 a2 (sealB k m) s c4 c2 r4 (HH2.out.stay hb2))
      have HB2 := Lib.hid hb2
      clear r4 hb2 HSL
      go_wp2_with fail
      refine HSM.out.mono ?_
      rintro e w3 ⟨rfl, hd⟩
      have B3 := HB2.out.trans (hd.below w.heap.size)
      clear hd HSM
      rw [Q1.out]
      go_wp2_with fail
      go_ret2
      exact ⟨none, 0, rfl, Row.nil_ _, B3⟩
end Go.Proofs.Ytiemafgnpmoblaa
