/- The reference's numbers of a block: walked. -/
import Derived.Test.YtiemafgnpmoblaaRefSha
import Derived.Test.YtiemafgnpmoblaaWordsLoad
import Derived.StillTailTactics
import Derived.Deep.RegionLaw
import Derived.BigRegion
namespace Go.Proofs.Ytiemafgnpmoblaa
open Go Go.RowKit Go.Cit

theorem wDiv_8 (x : UInt32) : wDiv x (wI 8) = shrN 3 x := by
  unfold wDiv wI
  apply UInt32.toNat_inj.1
  rw [UInt32.toNat_div, shrN_toNat]; rfl
theorem wDiv_1024 (x : UInt32) : wDiv x (wI 1024) = shrN 10 x := by
  unfold wDiv wI
  apply UInt32.toNat_inj.1
  rw [UInt32.toNat_div, shrN_toNat]; rfl
theorem load4 (b : List UInt8) (hb : b.length = 64) (k : Nat) (hk : k < 16) : loadB b ((4 * k : Nat) : Int) 4 = (numB ((b.drop (4 * k)).take 4), true) := by
  unfold loadB
  rw [if_pos (by omega), Int.toNat_natCast]
theorem getD_cell {w : World} {B : Nat} {a : Option Addr} {S : List UInt32} {c : Nat} (h : VOwn cw 1 22 B w a S c) (i : Nat) (hi : i < S.length) : ∀ n, ({ w with drawn := n } : World).cell? (ad a i) = some (vw (S.getD i 0)) := by
  intro n
  have h1 : w.cell? (ad a i) = some (vw S[i]) := (h.vec cw_len).cell1 i hi
  have h2 : S.getD i 0 = S[i] := by simp [hi]
  rw [h2]
  exact h1

set_option maxRecDepth 100000 in
set_option maxHeartbeats 2000000 in
theorem numbers_calls (w : World) (a : Option Addr) (b : List UInt8) (c : Nat) (hr : Row w a b c) (hb : b.length = 64) :
    Calls Try.prog 55 #[.slice a 64 c] w fun e w' => ∃ a' c', e = .returned (.slice a' 64 c') ∧ VOwn cw 1 22 w.heap.size w' a' (sched b 64) c' ∧ Below w.heap.size w w' := by
  have HBL := Lib.hid hb
  clear hb
  go_enter Try.func55, Try.ntmps55
  go_wp2_with fail
  go_loopw [3, 4] (fun v i wr => ∃ (k : Nat) (S : List UInt32) (a' : Option Addr) (c' : Nat), k ≤ 64 ∧ i = .int .i64 k ∧ v = .slice a' S.length c' ∧ Hid (S = sched b k) ∧ VOwn cw 1 22 w.heap.size wr a' S c' ∧ Below w.heap.size w wr) (fun _ i _ => 64 - (intOf i).toNat)
  case atStart => exact ⟨0, [], none, 0, by omega, rfl, rfl, rfl, VOwn.nil_ _ _ _ _ _, Below.refl _ _⟩
  case round =>
    obtain ⟨k, S, a', c', hk, rfl, rfl, HL, hO, B⟩ := hrel
    have HSL : Hid (S.length = k) := by rw [Hid, HL.out, sched_length]
    have hrr := hr.stay B
    by_cases hlt : k < 64
    · have d1 : decide ((k : Int) < 64) = true := by simp; omega
      by_cases h16 : k < 16
      · have d2 : decide ((k : Int) < 16) = true := by simp; omega
        have e4 : IntKind.i64.wrap (4 * (k : Int)) = ((4 * k : Nat) : Int) := by rw [show (4 : Int) * k = ((4 * k : Nat) : Int) by omega]; exact IntWalk.i64_in _ (by omega)
        have hld := refload_calls wr a b c ((4 * k : Nat) : Int) 4 4 rfl (by decide) (by decide) (by omega) hrr
        rw [HBL.out, load4 b HBL.out k h16] at hld
        dsimp only at hld
        obtain ⟨y, hy⟩ : ∃ y, numB ((b.drop (4 * k)).take 4) = y := ⟨_, rfl⟩
        rw [hy] at hld
        have HLS : Hid (S ++ [wOfQ y] = sched b (k + 1)) := by rw [Hid, sched, if_pos h16, hy, ← HL.out]
        have HLD := Lib.hid hld
        have h9 : S.length + 1 ≤ 1000000000 := by rw [HSL.out]; omega
        clear hy hld
        go_wp2_with fail
        refine HLD.out.mono ?_
        rintro e w' ⟨rfl, rfl⟩
        go_wp2_with (first
          | ((with_reducible refine wpList_vapp1 (o := ⟨some 26, .call _, _, _, _, _⟩) wordsT cw_len cw_one (y := wOfQ y) (.tmp 22) (.tmp 25) (by with_unfolding_all rfl) (by with_unfolding_all rfl) hO (by with_unfolding_all rfl) h9 B.size (by with_unfolding_all rfl) (by with_unfolding_all rfl) ?_); intro a2 c2 w2 hO2 hg2 hn2; have HO2 := Lib.hid hO2; have HB2 := Lib.hid (B.trans (hO.grown hg2 B.size)); clear hO2 hg2 hn2))
        go_roundw
        case rel => exact ⟨k + 1, _, _, _, by omega, by go_num, by simp, HLS, HO2.out, HB2.out⟩
        case measure => simp [intOf]; omega
      · have d2 : decide ((k : Int) < 16) = false := by simp; omega
        obtain ⟨m16, hm16⟩ : ∃ m, k = m + 16 := ⟨k - 16, by omega⟩
        have w16 : IntKind.i64.wrap ((k : Int) - 16) = ((m16 : Nat) : Int) := by rw [show (k : Int) - 16 = ((m16 : Nat) : Int) by omega]; exact IntWalk.i64_in _ (by omega)
        obtain ⟨m7, hm7⟩ : ∃ m, m = m16 + 9 := ⟨_, rfl⟩
        obtain ⟨m15, hm15⟩ : ∃ m, m = m16 + 1 := ⟨_, rfl⟩
        obtain ⟨m2, hm2⟩ : ∃ m, m = m16 + 14 := ⟨_, rfl⟩
        have w7 : IntKind.i64.wrap ((k : Int) - 7) = (m7 : Int) := by rw [show (k : Int) - 7 = (m7 : Int) by omega]; exact IntWalk.i64_in _ (by omega)
        have w15 : IntKind.i64.wrap ((k : Int) - 15) = (m15 : Int) := by rw [show (k : Int) - 15 = (m15 : Int) by omega]; exact IntWalk.i64_in _ (by omega)
        have w2' : IntKind.i64.wrap ((k : Int) - 2) = (m2 : Int) := by rw [show (k : Int) - 2 = (m2 : Int) by omega]; exact IntWalk.i64_in _ (by omega)
        have HKS := HSL.out
        have ix := fun (i : Nat) (hi : i < S.length) (W : World) => (hO.vec cw_len).index1 wordsT i hi W
        have i16 := ix m16 (by omega)
        have i7 := ix m7 (by omega)
        have i15 := ix m15 (by omega)
        have i2 := ix m2 (by omega)
        have c16 := getD_cell hO m16 (by omega)
        have c7 := getD_cell hO m7 (by omega)
        have c15 := getD_cell hO m15 (by omega)
        have c2 := getD_cell hO m2 (by omega)
        obtain ⟨x, hx⟩ : ∃ x, x = wAdd (wAdd (wAdd (S.getD m16 0) (S.getD m7 0)) (movedW 7 18 3 (S.getD m15 0))) (movedW 17 19 10 (S.getD m2 0)) := ⟨_, rfl⟩
        have HLS : Hid (S ++ [x] = sched b (k + 1)) := by
          rw [Hid, sched, if_neg (by omega), ← HL.out, hx, show k - 16 = m16 by omega, show k - 7 = m7 by omega, show k - 15 = m15 by omega, show k - 2 = m2 by omega]
        obtain ⟨y16, hy16⟩ : ∃ y, S.getD m16 0 = y := ⟨_, rfl⟩
        obtain ⟨y7, hy7⟩ : ∃ y, S.getD m7 0 = y := ⟨_, rfl⟩
        obtain ⟨y15, hy15⟩ : ∃ y, S.getD m15 0 = y := ⟨_, rfl⟩
        obtain ⟨y2, hy2⟩ : ∃ y, S.getD m2 0 = y := ⟨_, rfl⟩
        rw [hy16, hy7, hy15, hy2] at hx
        rw [hy16] at c16
        rw [hy7] at c7
        rw [hy15] at c15
        rw [hy2] at c2
        unfold movedW threeW at hx
        rw [← wDiv_8, ← wDiv_1024] at hx
        have h9 : S.length + 1 ≤ 1000000000 := by rw [HSL.out]; omega
        have HX := Lib.hid hx
        have HM := Lib.hid (And.intro hm16 hm7)
        have HY := Lib.hid (And.intro hy16 hy7)
        clear hm16 hm7 hm15 hm2 hy16 hy7 hy15 hy2 hx HKS ix
        go_wp2_with fail
        go_quiet (fail)
        go_wp2_with fail
        refine (turn_calls _ y15 7 (by decide) (by decide)).mono ?_
        rintro e w1 ⟨rfl, rfl⟩
        go_wp2_with fail
        refine (turn_calls _ y15 18 (by decide) (by decide)).mono ?_
        rintro e w1 ⟨rfl, rfl⟩
        go_wp2_with fail
        refine (turn_calls _ y2 17 (by decide) (by decide)).mono ?_
        rintro e w1 ⟨rfl, rfl⟩
        go_wp2_with fail
        refine (turn_calls _ y2 19 (by decide) (by decide)).mono ?_
        rintro e w1 ⟨rfl, rfl⟩
        go_wp2_with fail
        have hOd : VOwn cw 1 22 w.heap.size (wr.drewN nq) a' S c' := hO.save (Save.drewN (S := fun _ => True) _ _) (fun _ _ => trivial)
        have Bd : Below w.heap.size w (wr.drewN nq) := B.trans (below_drewN _ _ _)
        have hwa : ∀ x y : UInt32, IntKind.u32.wrap ((x.toNat : Int) + y.toNat) = ((wAdd x y).toNat : Int) := wrap_w_add
        clear c16 c7 c15 c2
        generalize wr.drewN nq = W at hOd Bd ⊢
        have c16 := getD_cell hOd m16 (by have := HSL.out; have := HM.out; omega)
        have c7 := getD_cell hOd m7 (by have := HSL.out; have := HM.out; omega)
        rw [HY.out.1] at c16
        rw [HY.out.2] at c7
        go_region_law (refine step_vapp1 wordsT cw_len cw_one (y := x) (.tmp 53) (.tmp 69) rfl rfl hOd (by rw [HX.out]) h9 Bd.size rfl rfl ?_; intro a2 c2 w2 hO2 hg2 hn2)
        all_goals
          simp only [Act.put]
          have HO2 := Lib.hid hO2
          have HB2 := Lib.hid (Bd.trans (hOd.grown hg2 Bd.size))
          clear hO2 hg2 hn2
          go_wp2_with fail
          go_roundw
          case rel => exact ⟨k + 1, _, _, _, by omega, by go_num, by simp, HLS, HO2.out, HB2.out⟩
          case measure => simp [intOf]; omega
    · have hk2 : k = 64 := by omega
      have d1 : decide ((k : Int) < 64) = false := by simp; omega
      have HS2 : Hid (S = sched b 64) := by rw [Hid, HL.out, hk2]
      have HSL2 : Hid (S.length = 64) := by rw [Hid, HSL.out, hk2]
      clear hk2
      go_wp2_with fail
      go_ret
      refine ⟨a', c', ?_, ?_, B⟩
      · show Ending.returned (.slice a' S.length c') = _
        rw [HSL2.out]
      · rw [← HS2.out]; exact hO
end Go.Proofs.Ytiemafgnpmoblaa
