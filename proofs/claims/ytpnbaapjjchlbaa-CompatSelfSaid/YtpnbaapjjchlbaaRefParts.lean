/- citadelref13.Parts: walked. -/
import Derived.Test.YtpnbaapjjchlbaaRefSurv
import Derived.Test.YtpnbaapjjchlbaaPlain13
namespace Go.Proofs.Ytpnbaapjjchlbaa
open Go Go.RowKit Go.Cit

set_option maxRecDepth 100000 in
set_option maxHeartbeats 4000000 in
theorem refparts_calls (w : World) (V W : CfgV) (h : V.At w) (k : W.At w) (hs : SmallV V) (ks : SmallV W) (b : Bool) : Calls Try.prog 40 #[.agg #[.slice V.wa V.ws.length V.wc, .slice V.pa V.ps.length V.pc, .slice V.ca V.cs.length V.cc], .agg #[.slice W.wa W.ws.length W.wc, .slice W.pa W.ps.length W.pc, .slice W.ca W.cs.length W.cc], .bool b] w fun e w' => ∃ a' c', e = .returned (.slice a' (rpartsK V W b).length c') ∧ VOwn cZ 1 3 w.heap.size w' a' (rpartsK V W b) c' ∧ Below w.heap.size w w' := by
  obtain ⟨w0, hw0⟩ : ∃ w0, w0 = (w.alloc (.cells #[.slice V.wa V.ws.length V.wc, .slice V.pa V.ps.length V.pc, .slice V.ca V.cs.length V.cc] 26)).alloc (.cells #[.slice W.wa W.ws.length W.wc, .slice W.pa W.ps.length W.pc, .slice W.ca W.cs.length W.cc] 26) := ⟨_, rfl⟩
  have B0 : Below w.heap.size w w0 := by rw [hw0]; exact ((Below.refl _ w).alloc (Nat.le_refl _) _).alloc (by simp) _
  have hI := two_box w V W
  rw [← hw0] at hI
  have HI := Lib.hid hI
  have HV := Lib.hid (h.stay B0)
  have HK := Lib.hid (k.stay B0)
  have HSV := Lib.hid (And.intro hs ks)
  have HB0 := Lib.hid B0
  obtain ⟨f2, hf2⟩ : ∃ f, Hid (f = mayK V W) := ⟨_, rfl⟩
  obtain ⟨R, hR⟩ : ∃ R, Hid (R = rpartsK V W b) := ⟨_, rfl⟩
  have HR : Hid (R = if f2 then pickR 6 (rpartK V W b) else []) := by rw [Hid, hR.out, hf2.out]; rfl
  rw [← hR.out]
  clear h k hs ks B0 hI
  go_enter Try.func40, Try.ntmps40
  go_wp2_with fail
  rw [← hw0]
  clear hw0
  go_loopw [7, 8] (fun s i wr => ∃ (j : Nat) (a' : Option Addr) (L : List Int) (c' : Nat), s = .slice a' L.length c' ∧ i = .int .i64 (j + 1 : Nat) ∧ j ≤ 6 ∧ Hid (f2 = false → j = 0) ∧ Hid (L = pickR j (rpartK V W b)) ∧ VOwn cZ 1 3 w0.heap.size wr a' L c' ∧ Below w0.heap.size w0 wr) (fun _ i _ => 7 - (intOf i).toNat)
  case atStart => exact ⟨0, none, [], 0, rfl, rfl, Nat.zero_le _, fun _ => rfl, rfl, VOwn.nil_ _ _ _ _ _, Below.refl _ _⟩
  case round =>
    obtain ⟨j, a2, L, c3, rfl, rfl, hj, H0, HL, hO, B⟩ := hrel
    have HBw := Lib.hid B
    have HOw := Lib.hid hO
    by_cases hlt : j < 6
    · obtain ⟨c0, c1, c2⟩ := HI.out.1.keep B
      obtain ⟨d0, d1, d2⟩ := HI.out.2.keep B
      have hm := refmay_calls wr V W (HV.out.stay B) (HK.out.stay B) HSV.out.1 HSV.out.2
      rw [← hf2.out] at hm
      have HM := Lib.hid hm
      have HL9 : Hid (L.length ≤ 100) := by rw [Hid, HL.out]; have := pickR_len j (rpartK V W b); omega
      have HS := Lib.hid (pickR_succ j (rpartK V W b))
      obtain ⟨t, ht⟩ : ∃ t, Hid (t = survK V W ((j + 1 : Nat) : Int)) := ⟨_, rfl⟩
      obtain ⟨v, hv⟩ : ∃ v, Hid (v = hasP V.ps ((j + 1 : Nat) : Int)) := ⟨_, rfl⟩
      have HP : Hid (rpartK V W b ((j + 1 : Nat) : Int) = (v && (t != b))) := by rw [Hid, ht.out, hv.out]; rfl
      rw [HP.out] at HS
      clear hm B hO
      go_wp2_with fail
      refine (HM.out).mono ?_
      rintro e w1 ⟨rfl, hb1⟩
      have HB1 := Lib.hid (HBw.out.trans (hb1.mono HBw.out.size))
      have HO1 := Lib.hid (HOw.out.stay hb1)
      clear hb1 c0 c1 c2 d0 d1 d2
      cases f2 with
      | false =>
        have HRT : Hid (R = L) := by rw [Hid, HR.out, HL.out, H0.out rfl]; rfl
        clear hlt hj
        go_wp2_with fail
        go_ret
        exact ⟨a2, c3, by rw [HRT.out]; rfl, by rw [HRT.out]; exact HO1.out.low HB0.out.size, HB0.out.trans (HB1.out.mono HB0.out.size)⟩
      | true =>
        obtain ⟨c0, c1, c2⟩ := HI.out.1.keep HB1.out
        obtain ⟨d0, d1, d2⟩ := HI.out.2.keep HB1.out
        have hp := refpart_calls w1 V (HV.out.stay HB1.out) ((j + 1 : Nat) : Int)
        obtain ⟨i1, hi1⟩ : ∃ i, Hid (i = findI (fun x : PtV => decide (x.id.1 = ((j + 1 : Nat) : Int))) V.ps) := ⟨_, rfl⟩
        rw [← hi1.out] at hp
        have HP1 := Lib.hid hp
        have hge : decide (0 ≤ i1) = v := by rw [hi1.out, hv.out, findI_any]; rfl
        have HGE := Lib.hid hge
        clear hp hge
        go_wp2_with fail
        refine (HP1.out).mono ?_
        rintro e w2 ⟨rfl, hb2⟩
        have HB2 := Lib.hid (HB1.out.trans (hb2.mono HB1.out.size))
        have HO2 := Lib.hid (HO1.out.stay hb2)
        clear hb2 c0 c1 c2 d0 d1 d2
        obtain ⟨c0, c1, c2⟩ := HI.out.1.keep HB2.out
        obtain ⟨d0, d1, d2⟩ := HI.out.2.keep HB2.out
        have hsv := refsurv_calls w2 V W (HV.out.stay HB2.out) (HK.out.stay HB2.out) HSV.out.1 HSV.out.2 ((j + 1 : Nat) : Int)
        rw [← ht.out] at hsv
        have HSU := Lib.hid hsv
        clear hsv
        cases v with
        | false =>
          have hi : ¬ 0 ≤ i1 := of_decide_eq_false HGE.out
          have HN : Hid (L = pickR (j + 1) (rpartK V W b)) := by rw [Hid, HS.out, ← HL.out]; simp
          go_wp2_with fail
          go_roundw
          case rel => exact ⟨j + 1, a2, L, c3, rfl, by go_num, by omega, (fun h => nomatch h), HN.out, HO2.out, HB2.out⟩
          case measure => simp [intOf]; omega
        | true =>
          have hi : 0 ≤ i1 := of_decide_eq_true HGE.out
          go_wp2_with fail
          refine (HSU.out).mono ?_
          rintro e w3 ⟨rfl, hb3⟩
          have HB3 := Lib.hid (HB2.out.trans (hb3.mono HB2.out.size))
          have HO3 := Lib.hid (HO2.out.stay hb3)
          clear hb3 c0 c1 c2 d0 d1 d2
          have HQ : Hid (pickR (j + 1) (rpartK V W b) = L ++ (if (t != b) then [((j + 1 : Nat) : Int)] else [])) := by rw [Hid, HS.out, ← HL.out]; rfl
          by_cases hq : (t != b) = true
          · have HN : Hid (L ++ [((j + 1 : Nat) : Int)] = pickR (j + 1) (rpartK V W b)) := by rw [Hid, HQ.out, hq]; rfl
            have hq2 : (!(t == b)) = true := hq
            go_wp2_with ((with_reducible refine wpList_vapp1 (o := ⟨some 33, .call _, _, _, _, _⟩) etI cZ_len cZ_one (y := ((j + 1 : Nat) : Int)) (.tmp 30) (.tmp 32) (by with_unfolding_all rfl) (by with_unfolding_all rfl) HO3.out (by with_unfolding_all rfl) (by have := HL9.out; omega) HB3.out.size (by with_unfolding_all rfl) (by with_unfolding_all rfl) ?_); intro a4 k4 w6 hO4 hg4 hn4; have HO4 := Lib.hid (And.intro hO4 (HB3.out.trans (HO3.out.grown hg4 HB3.out.size))); clear hO4 hg4 hn4)
            go_roundw
            case rel => exact ⟨j + 1, a4, L ++ [((j + 1 : Nat) : Int)], k4, by simp, by go_num, by omega, (fun h => nomatch h), HN.out, HO4.out.1, HO4.out.2⟩
            case measure => simp [intOf]; omega
          · have hq : (t != b) = false := by simpa using hq
            have HN : Hid (L = pickR (j + 1) (rpartK V W b)) := by rw [Hid, HQ.out, hq]; simp
            have hq2 : (!(t == b)) = false := hq
            go_wp2_with fail
            go_roundw
            case rel => exact ⟨j + 1, a2, L, c3, rfl, by go_num, by omega, (fun h => nomatch h), HN.out, HO3.out, HB3.out⟩
            case measure => simp [intOf]; omega
    · have hk2 : j = 6 := by omega
      have HRT : Hid (f2 = true → R = L) := fun hf => by rw [HR.out, HL.out, hk2, hf]; rfl
      have HFF : Hid (f2 = true) := by cases f2 with
        | true => rfl
        | false => have := H0.out rfl; omega
      have HRT : Hid (R = L) := HRT.out HFF.out
      subst hk2
      clear B hO
      go_wp2_with fail
      go_ret
      exact ⟨a2, c3, by rw [HRT.out]; rfl, by rw [HRT.out]; exact HOw.out.low HB0.out.size, HB0.out.trans (HBw.out.mono HB0.out.size)⟩
end Go.Proofs.Ytpnbaapjjchlbaa
