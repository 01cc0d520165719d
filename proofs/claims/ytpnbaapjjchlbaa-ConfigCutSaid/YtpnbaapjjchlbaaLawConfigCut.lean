/- ConfigCut: the walk of the law. -/
import Derived.Test.YtpnbaapjjchlbaaGt
namespace Go.Proofs.Ytpnbaapjjchlbaa
open Go Go.RowKit Go.Cit

theorem form_ge (K : Cfg) : 24 ≤ (formK K).length := by
  unfold formK
  simp only [List.length_append, int8_len]
  omega
set_option maxRecDepth 100000 in
set_option maxHeartbeats 4000000 in
theorem configCut_law (w : World) (V : CfgV) (cut : Int) (x : UInt8) (h : V.At w) (hb : ∀ x ∈ V.ps, x.img.length ≤ 140737488351232) : Calls Try.prog 17 #[.agg #[.slice V.wa V.ws.length V.wc, .slice V.pa V.ps.length V.pc, .slice V.ca V.cs.length V.cc], .int .i64 cut, vb x] w fun e w' => e = .returned (.bool true) ∧ Below w.heap.size w w' := by
  obtain ⟨w0, hw0⟩ : ∃ w0, w0 = w.alloc (.cells #[.slice V.wa V.ws.length V.wc, .slice V.pa V.ps.length V.pc, .slice V.ca V.cs.length V.cc] 26) := ⟨_, rfl⟩
  have B0 : Below w.heap.size w w0 := by rw [hw0]; exact (Below.refl _ w).alloc (Nat.le_refl _) _
  have hI : InBox w0 w.heap.size V := by rw [hw0]; exact inBox_new w V _
  have HI := Lib.hid hI
  have HV := Lib.hid (h.stay B0)
  have HB0 := Lib.hid B0
  obtain ⟨g1, hg1⟩ : ∃ g, Hid (g = greatV V) := ⟨_, rfl⟩
  obtain ⟨n1, hn1⟩ : ∃ g, Hid (g = canV V) := ⟨_, rfl⟩
  have hc := cgreat_calls w0 V HV.out hb
  rw [← hg1.out] at hc
  have HC := Lib.hid hc
  clear h B0 hI hb hc
  obtain ⟨c0, c1, c2⟩ := HI.out
  go_enter Try.func17, Try.ntmps17
  go_wp2_with fail
  rw [← hw0]
  clear hw0
  refine (HC.out).mono ?_
  rintro e w1 ⟨rfl, hb1⟩
  have HB1 := Lib.hid hb1
  clear c0 c1 c2 HC hb1
  cases g1 with
  | true =>
    go_wp2_with fail
    refine (awake11_calls w1).mono ?_
    rintro e wq ⟨rfl, hbq⟩
    go_wp2_with fail
    go_ret
    exact ⟨rfl, HB0.out.trans ((HB1.out.trans (hbq.mono HB1.out.size)).mono HB0.out.size)⟩
  | false =>
    obtain ⟨c0, c1, c2⟩ := HI.out.keep HB1.out
    have hc := can_calls w1 V (HV.out.stay HB1.out)
    rw [← hn1.out] at hc
    have HC := Lib.hid hc
    clear hc
    go_wp2_with fail
    refine (HC.out).mono ?_
    rintro e w2 ⟨rfl, hb2⟩
    have HB2 := Lib.hid (HB1.out.trans (hb2.mono HB1.out.size))
    clear c0 c1 c2 hb2 HC HB1
    cases n1 with
    | false =>
      go_wp2_with fail
      refine (awake11_calls w2).mono ?_
      rintro e wq ⟨rfl, hbq⟩
      go_wp2_with fail
      go_ret
      exact ⟨rfl, HB0.out.trans ((HB2.out.trans (hbq.mono HB2.out.size)).mono HB0.out.size)⟩
    | true =>
      have hcan : canC V.cfg = true := by rw [← canV_cfg]; exact hn1.out.symm
      obtain ⟨F, hF⟩ : ∃ F, Hid (F = formK V.cfg) := ⟨_, rfl⟩
      obtain ⟨n, hn⟩ : ∃ n, Hid (n = F.length) := ⟨_, rfl⟩
      have hn24 : 24 ≤ n := by rw [hn.out, hF.out]; exact form_ge _
      have hn4 : n ≤ 4000 := by rw [hn.out, hF.out]; exact form_len hcan
      have hp := print_yes (V := V) hn1.out.symm
      have HP := Lib.hid (print_is w2 V (HV.out.stay HB2.out) (small_of hg1.out.symm) F n 0 (by rw [hp.1, hF.out]) hn.out.symm hp.2)
      have HCN := Lib.hid hcan
      obtain ⟨c0, c1, c2⟩ := HI.out.keep HB2.out
      clear hp hcan
      go_wp2_with fail
      refine (HP.out).mono ?_
      rintro e w3 ⟨a3, k3, rfl, r3, hb3⟩
      have HB3 := Lib.hid (HB2.out.trans (hb3.mono HB2.out.size))
      have HR3 := Lib.hid r3
      have hle3 := r3.le
      have htop3 := r3.top
      rw [← hn.out] at hle3
      clear c0 c1 c2 hb3 HP r3
      have t24 : decide ((n : Int) < 24) = false := by rw [decide_eq_false_iff_not]; omega
      go_upto_region 7 with fail
      obtain ⟨k, hk, ek⟩ := pick_of cut n (by omega) (by omega)
      rw [ek]
      have HK := Lib.hid hk
      obtain ⟨a70, m, k70, hm, hrun70, r70⟩ := HR3.out.upto bt.slice bt.sz k (by rw [← hn.out]; omega)
      rw [← hn.out] at hrun70
      obtain ⟨y, hy⟩ : ∃ y, Hid (y = m.length) := ⟨_, rfl⟩
      rw [← hy.out] at hrun70
      have hk70 := par_no (par_cut HCN.out (n := k) (by rw [← hF.out, ← hn.out]; exact hk))
      rw [← hF.out, ← hm] at hk70
      have HK70 := Lib.hid (And.intro r70 hk70)
      clear ek t24 hm hk70 r70
      go_wp2_with fail
      refine (parse_is w3 HK70.out.1 y hy.out.symm ⟨[], [], []⟩ 110 HK70.out.2.1 HK70.out.2.2).mono ?_
      rintro e wb ⟨C7, rfl, _, _, hbb⟩
      obtain ⟨w5, hw5⟩ : ∃ w5, w5 = wb.alloc (.cells #[.slice C7.wa C7.ws.length C7.wc, .slice C7.pa C7.ps.length C7.pc, .slice C7.ca C7.cs.length C7.cc] 26) := ⟨_, rfl⟩
      obtain ⟨p5, hp5⟩ : ∃ p5, p5 = wb.heap.size := ⟨_, rfl⟩
      have hbn : Below w3.heap.size w3 w5 := hbb.trans (show Below w3.heap.size wb w5 by rw [hw5]; exact (Below.refl _ _).alloc hbb.size _)
      have HR5 := Lib.hid (HR3.out.stay hbn)
      have HB5 := Lib.hid (HB3.out.trans (hbn.mono HB3.out.size))
      clear hbb hbn HR3 HB3 HK70 hrun70
      go_upto_region 8 with fail
      rw [← hw5, ← hp5]
      clear hw5 hp5
      obtain ⟨w6, hw6⟩ : ∃ w6, w6 = w5.alloc (.cells #[] 5) := ⟨_, rfl⟩
      have hb6 : Below w5.heap.size w5 w6 := by rw [hw6]; exact (Below.refl _ _).alloc (Nat.le_refl _) _
      have o6 : Cit.Own 5 w5.heap.size (w5.alloc (.cells #[] 5)) (some ⟨w5.heap.size, 0, none⟩) [] 0 := own_lit w5 #[] 5 [] rfl (by decide)
      have r6 : Row (w5.alloc (.cells #[] 5)) a3 F k3 := HR5.out.stay (hw6 ▸ hb6)
      have hs6 : w5.heap.size ≤ (w5.alloc (.cells #[] 5)).heap.size := by simp
      have HO6 := Lib.hid (And.intro o6 (And.intro r6 hs6))
      have hFne : F ≠ [] := fun h0 => by have := hn.out; rw [h0] at this; simp at this; omega
      have HFN := Lib.hid hFne
      clear o6 r6 hs6 hFne
      have hk35 := par_no (par_more HCN.out (r := [x]) (by simp) (by rw [← hF.out, List.length_append, ← hn.out, List.length_singleton]; omega))
      rw [← hF.out] at hk35
      have HK35 := Lib.hid hk35
      have hl72 : (F ++ [x]).length = n + 1 := by rw [List.length_append, ← hn.out]; rfl
      have HL72 := Lib.hid hl72
      have HL33 : Hid (([] : List UInt8).length + F.length ≤ 1000000000) := by rw [Hid, ← hn.out, List.length_nil]; omega
      have HL35 : Hid (F.length + ([x] : List UInt8).length ≤ 1000000000) := by rw [Hid, ← hn.out, List.length_singleton]; omega
      clear hk35 hl72
      go_wp2_with (first
        | ((with_reducible refine wp_append_at (o := ⟨some 51, .call _, _, _, _, _⟩) bt (.tmp 49) (.tmp 50) (by with_unfolding_all rfl) (by with_unfolding_all rfl) HO6.out.1 HO6.out.2.1 (fun h => absurd h HFN.out) HL33.out HO6.out.2.2 (by with_unfolding_all rfl) (by rw [← hn.out]; with_unfolding_all rfl) ?_); intro a7 c7 w7 hO7 hg7 hn7; rw [List.nil_append]; rw [List.nil_append] at hO7; have HO7 := Lib.hid (And.intro hO7 hg7); have HR35 := Lib.hid (row_new w7 #[vb x] 5 (0, 0) [x] rfl (by simp)); have HO35 := Lib.hid (hO7.alloc (.cells #[vb x] 5)); have HN35 : Hid (([x] : List UInt8) = [] → (some ⟨w7.heap.size, 0, none⟩ : Option Addr) = none) := fun h => nomatch h; have HS35 : Hid (w5.heap.size ≤ (w7.alloc (.cells #[vb x] 5)).heap.size) := (by have h := hg7.size; rw [World.size_alloc] at h; rw [Hid, World.size_alloc]; omega); clear hO7 hg7 hn7)
        | ((with_reducible refine wpList_value (o := ⟨some 53, .buildSlice _ _ _, _, _, _, _⟩) (by with_unfolding_all rfl) (build1c etU (.tmp 52) (vb x) #[vb x] rfl (by with_unfolding_all rfl) (by with_unfolding_all rfl) (by with_unfolding_all rfl) (by decide) _) ?_))
        | ((with_reducible refine wp_append_at (o := ⟨some 54, .call _, _, _, _, _⟩) bt (.tmp 51) (.tmp 53) (by with_unfolding_all rfl) (by with_unfolding_all rfl) HO35.out HR35.out HN35.out HL35.out HS35.out (by with_unfolding_all rfl) (by with_unfolding_all rfl) ?_); intro a8 c8 w8 hO8 hg8 hn8; rw [HL72.out]; have HO8 := Lib.hid (And.intro hO8 hg8); clear hO8 hg8 hn8))
      have hb78 : Below w5.heap.size w5 w8 := by
        have h0 := hb6.size
        rw [hw6] at h0
        have h1 := ((Below.refl _ w5).alloc (Nat.le_refl _) (.cells #[] 5)).grown HO7.out.2 h0 (fun g hg => (HO6.out.1.blk_ge hg).1)
        have h2 := h1.alloc h1.size (.cells #[vb x] 5)
        exact h2.grown HO8.out.2 h2.size (fun g hg => (HO35.out.blk_ge hg).1)
      have hr8 := HO8.out.1.isRow
      refine (parse_is w8 hr8 (n + 1) HL72.out ⟨[], [], []⟩ 110 HK35.out.1 HK35.out.2).mono ?_
      rintro e w9 ⟨C9, rfl, _, _, hb9⟩
      have hb59 := hb78.trans (hb9.mono hb78.size)
      obtain ⟨wa, hwa⟩ : ∃ wa, wa = w9.alloc (.cells #[.slice C9.wa C9.ws.length C9.wc, .slice C9.pa C9.ps.length C9.pc, .slice C9.ca C9.cs.length C9.cc] 26) := ⟨_, rfl⟩
      have hb9a : Below w9.heap.size w9 wa := by rw [hwa]; exact (Below.refl _ _).alloc (Nat.le_refl _) _
      have hb5a := hb59.trans (hb9a.mono hb59.size)
      have HBa := Lib.hid (HB5.out.trans (hb5a.mono HB5.out.size))
      clear hb9a hb5a hb59 hb78 hb9 hr8 HO8 HO35 HR35 HN35 HL35 HS35 HO7 HO6 HK35 hb6 hw6 HR5 HB5 HL33
      go_upto_region 9 with fail
      rw [← hwa]
      clear hwa
      go_wp2_with fail
      refine (awake11_calls wa).mono ?_
      rintro e wq ⟨rfl, hbq⟩
      go_wp2_with fail
      go_ret
      exact ⟨rfl, HB0.out.trans ((HBa.out.trans (hbq.mono HBa.out.size)).mono HB0.out.size)⟩
theorem configCut_all (w : World) (V : CfgV) (cut : Int) (x : UInt8) (h : V.At w) (hb : ∀ x ∈ V.ps, x.img.length ≤ 140737488351232) (_ : -9223372036854775808 ≤ cut ∧ cut ≤ 9223372036854775807) : Calls Try.prog 17 #[.agg (cCfg V).toArray, .int .i64 cut, vb x] w fun e w' => e = .returned (.bool true) ∧ Below w.heap.size w w' :=
  configCut_law w V cut x h hb
end Go.Proofs.Ytpnbaapjjchlbaa
