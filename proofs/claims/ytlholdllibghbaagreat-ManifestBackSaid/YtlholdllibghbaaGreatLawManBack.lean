/- ManifestBack: the walk of the law. -/
import Derived.Test.YtlholdllibghbaaGreatAwk14
import Derived.Test.YtlholdllibghbaaGreatG38
import Derived.Test.YtlholdllibghbaaGreatG13
namespace Go.Proofs.YtlholdllibghbaaGreat
open Go Go.RowKit Go.Cit

def mb1 (B : Nat) (M : ManV) (ab ak : Option Addr) (nL nK kb ck : Nat) (g b9 b2 : Bool) : Nat → Value
  | 15 => (.pointer (some ⟨B, 34, none⟩))
  | 16 => (.agg #[.slice M.cfg.wa M.cfg.ws.length M.cfg.wc, .slice M.cfg.pa M.cfg.ps.length M.cfg.pc, .slice M.cfg.ca M.cfg.cs.length M.cfg.cc])
  | 17 => (.bool g)
  | 18 => (.bool g)
  | 19 => (bif (!g) then (.slice ab nL kb) else undef)
  | 20 => (bif (!g) then (.int .i64 (nL : Int)) else undef)
  | 21 => (bif (!g) then (.bool b9) else undef)
  | 22 => (.bool (g || b9))
  | 23 => (.bool (g || b9))
  | 24 => (bif (!(g || b9)) then (.slice ak nK ck) else undef)
  | 25 => (bif (!(g || b9)) then (.int .i64 (nK : Int)) else undef)
  | 26 => (bif (!(g || b9)) then (.bool b2) else undef)
  | 27 => (.bool ((g || b9) || b2))
  | _ => undef
def mb1o (B : Nat) (_ : ManV) (ab ak : Option Addr) (nL nK kb ck : Nat) (_ _ _ : Bool) : Nat → Value
  | 1 => (.slice ab nL kb)
  | 2 => (.slice ak nK ck)
  | 3 => (.pointer (some ⟨B, 0, none⟩))
  | _ => undef
set_option maxRecDepth 100000 in
set_option maxHeartbeats 8000000 in
theorem manifestBack_law (w : World) (M : ManV) (ab : Option Addr) (L : List UInt8) (kb : Nat) (ak : Option Addr) (K : List UInt8) (ck : Nat) (h : M.At w) (hb : ∀ x ∈ M.cfg.ps, x.img.length ≤ 140737488351232) (hr : Row w ab L kb) (hr2 : Row w ak K ck) : Calls Tryz.prog 7 #[.agg (cM M), .slice ab L.length kb, .slice ak K.length ck] w fun e w' => e = .returned (.bool true) ∧ Below w.heap.size w w' := by
  have HAM := Lib.hid (fun ρ d ty ps af w => alloc_man ρ d ty ps (af := af) w)
  obtain ⟨Z, hZ⟩ : ∃ Z, Hid (Z = cM zM) := ⟨_, rfl⟩
  rw [← hZ.out] at HAM
  have HZS : Hid (Z.size = 69 ∧ Z.all (·.oneCell') = true) := by rw [hZ.out]; exact ⟨cM_size rfl rfl, cM_one _⟩
  obtain ⟨C, hC⟩ : ∃ C, Hid (C = cM M) := ⟨_, rfl⟩
  obtain ⟨w0, hw0⟩ : ∃ w0, w0 = w.alloc (.cells C 55) := ⟨_, rfl⟩
  have B0 : Below w.heap.size w w0 := by rw [hw0]; exact (Below.refl _ w).alloc (Nat.le_refl _) _
  have hI : InM w0 w.heap.size M := by rw [hw0, hC.out]; exact InM.new w h
  have HI0 := Lib.hid hI
  have HB0 := Lib.hid B0
  have HM := Lib.hid (h.stay B0)
  have HI := HI0
  have HR := Lib.hid (hr.stay B0)
  have HK := Lib.hid (hr2.stay B0)
  obtain ⟨nL, hnL⟩ : ∃ n, Hid (n = L.length) := ⟨_, rfl⟩
  obtain ⟨nK, hnK⟩ : ∃ n, Hid (n = K.length) := ⟨_, rfl⟩
  obtain ⟨g, hg⟩ : ∃ b, Hid (b = greatV M.cfg) := ⟨_, rfl⟩
  obtain ⟨b9, hb9⟩ : ∃ b, Hid (b = decide ((nL : Int) > 9000)) := ⟨_, rfl⟩
  obtain ⟨b2, hb2⟩ : ∃ b, Hid (b = decide ((nK : Int) > 200)) := ⟨_, rfl⟩
  obtain ⟨R1, hR1⟩ : ∃ b, Hid (b = ((g || b9) || b2)) := ⟨_, rfl⟩
  have HR1 := hR1
  have H9 : Hid (decide ((9000 : Int) < nL) = b9) := by rw [Hid, hb9.out]
  have H2 : Hid (decide ((200 : Int) < nK) = b2) := by rw [Hid, hb2.out]
  have HG : Hid (∀ q : After w0, Calls Tryz.prog 8 #[.agg #[.slice M.cfg.wa M.cfg.ws.length M.cfg.wc, .slice M.cfg.pa M.cfg.ps.length M.cfg.pc, .slice M.cfg.ca M.cfg.cs.length M.cfg.cc]] q.to fun e w' => e = .returned (.bool g) ∧ Below q.to.heap.size q.to w') := fun q => by rw [hg.out]; exact cgreat_calls q.to M.cfg ((h.stay B0).stay q.bel).cfg hb
  rw [← hC.out, ← hnL.out, ← hnK.out]
  clear hI h B0 hr hr2
  go_enter Tryz.func7, Tryz.ntmps7
  go_upto_region 1 with fail
  rw [← hw0]
  clear hw0
  refine wp_region_vals0 (mb1 w.heap.size M ab ak nL nK kb ck g b9 b2) (mb1o w.heap.size M ab ak nL nK kb ck g b9 b2) [1, 2, 3] (by kernel_rfl) ⟨rfl, rfl, rfl, trivial⟩ ?_ ?_
  · refine opsAll_cons ?_ (opsAll_cons ?_ (opsAll_cons ?_ (opsAll_cons ?_ (opsAll_cons ?_ (opsAll_cons ?_ (opsAll_cons ?_ (opsAll_cons ?_ (opsAll_cons ?_ (opsAll_cons ?_ (opsAll_cons ?_ (opsAll_cons ?_ (opsAll_cons ?_ opsAll_nil))))))))))))
    all_goals intro a hk
    · -- slot 15
      exact .inl ⟨wanted_free rfl, q_field (.tmp 3) rfl (show a.eval (.tmp 3) = (.pointer (some ⟨w.heap.size, 0, none⟩)) from hk.old 3 (by kernel_rfl) (by kernel_rfl)) (v := (.pointer (some ⟨w.heap.size, 34, none⟩))) (fun w => by kernel_rfl) rfl⟩
    · -- slot 16
      exact .inl ⟨wanted_free rfl, q_load (.tmp 15) rfl (show a.eval (.tmp 15) = (.pointer (some ⟨w.heap.size, 34, none⟩)) from hk.slot 15 (by kernel_rfl)) (v := (.agg #[.slice M.cfg.wa M.cfg.ws.length M.cfg.wc, .slice M.cfg.pa M.cfg.ps.length M.cfg.pc, .slice M.cfg.ca M.cfg.cs.length M.cfg.cc])) (fun q => (HI.out.keep q.bel).in34) rfl⟩
    · -- slot 17
      exact .inl ⟨wanted_free rfl, q_call rfl rfl #[(.agg #[.slice M.cfg.wa M.cfg.ws.length M.cfg.wc, .slice M.cfg.pa M.cfg.ps.length M.cfg.pc, .slice M.cfg.ca M.cfg.cs.length M.cfg.cc])] (fun w => by kernel_rfl) (by simp only [List.map_toArray, List.map_cons, List.map_nil, (show a.eval (.tmp 16) = (.agg #[.slice M.cfg.wa M.cfg.ws.length M.cfg.wc, .slice M.cfg.pa M.cfg.ps.length M.cfg.pc, .slice M.cfg.ca M.cfg.cs.length M.cfg.cc]) from hk.slot 16 (by kernel_rfl))]) (v := (.bool g)) (fun q => HG.out q) rfl⟩
    · -- slot 18
      exact .inl ⟨wanted_free rfl, q_move (.tmp 17) rfl (show a.eval (.tmp 17) = (.bool g) from hk.slot 17 (by kernel_rfl))⟩
    · -- slot 19
      cases g with
      | true =>
        exact .inr ⟨unwanted_by 18 false (by kernel_rfl) (show a.eval (.tmp 18) = (.bool true) from hk.slot 18 (by kernel_rfl)), rfl⟩
      | false =>
        exact .inl ⟨wanted_by 18 false (by kernel_rfl) (show a.eval (.tmp 18) = (.bool false) from hk.slot 18 (by kernel_rfl)), q_move (.tmp 1) rfl (show a.eval (.tmp 1) = (.slice ab nL kb) from hk.old 1 (by kernel_rfl) (by kernel_rfl))⟩
    · -- slot 20
      cases g with
      | true =>
        exact .inr ⟨unwanted_by 18 false (by kernel_rfl) (show a.eval (.tmp 18) = (.bool true) from hk.slot 18 (by kernel_rfl)), rfl⟩
      | false =>
        exact .inl ⟨wanted_by 18 false (by kernel_rfl) (show a.eval (.tmp 18) = (.bool false) from hk.slot 18 (by kernel_rfl)), q_len rfl (by kernel_rfl) (show a.eval (.tmp 19) = (.slice ab nL kb) from hk.slot 19 (by kernel_rfl)) rfl⟩
    · -- slot 21
      cases g with
      | true =>
        exact .inr ⟨unwanted_by 18 false (by kernel_rfl) (show a.eval (.tmp 18) = (.bool true) from hk.slot 18 (by kernel_rfl)), rfl⟩
      | false =>
        exact .inl ⟨wanted_by 18 false (by kernel_rfl) (show a.eval (.tmp 18) = (.bool false) from hk.slot 18 (by kernel_rfl)), q_bin rfl (show a.eval (.tmp 20) = (.int .i64 (nL : Int)) from hk.slot 20 (by kernel_rfl)) rfl (v := .bool (decide ((9000 : Int) < (nL : Int)))) (fun w => by kernel_rfl) (congrArg Value.bool (H9.out))⟩
    · -- slot 22
      cases g with
      | true =>
        exact .inl ⟨wanted_free rfl, q_pick rfl true (show a.eval (.tmp 18) = (.bool true) from hk.slot 18 (by kernel_rfl)) rfl⟩
      | false =>
        exact .inl ⟨wanted_free rfl, q_pick rfl false (show a.eval (.tmp 18) = (.bool false) from hk.slot 18 (by kernel_rfl)) (show a.eval (.tmp 21) = (.bool b9) from hk.slot 21 (by kernel_rfl))⟩
    · -- slot 23
      exact .inl ⟨wanted_free rfl, q_move (.tmp 22) rfl (show a.eval (.tmp 22) = (.bool (g || b9)) from hk.slot 22 (by kernel_rfl))⟩
    · -- slot 24
      cases g with
      | true =>
        exact .inr ⟨unwanted_by 23 false (by kernel_rfl) (show a.eval (.tmp 23) = (.bool (true || b9)) from hk.slot 23 (by kernel_rfl)), rfl⟩
      | false =>
        cases b9 with
        | true =>
          exact .inr ⟨unwanted_by 23 false (by kernel_rfl) (show a.eval (.tmp 23) = (.bool (false || true)) from hk.slot 23 (by kernel_rfl)), rfl⟩
        | false =>
          exact .inl ⟨wanted_by 23 false (by kernel_rfl) (show a.eval (.tmp 23) = (.bool (false || false)) from hk.slot 23 (by kernel_rfl)), q_move (.tmp 2) rfl (show a.eval (.tmp 2) = (.slice ak nK ck) from hk.old 2 (by kernel_rfl) (by kernel_rfl))⟩
    · -- slot 25
      cases g with
      | true =>
        exact .inr ⟨unwanted_by 23 false (by kernel_rfl) (show a.eval (.tmp 23) = (.bool (true || b9)) from hk.slot 23 (by kernel_rfl)), rfl⟩
      | false =>
        cases b9 with
        | true =>
          exact .inr ⟨unwanted_by 23 false (by kernel_rfl) (show a.eval (.tmp 23) = (.bool (false || true)) from hk.slot 23 (by kernel_rfl)), rfl⟩
        | false =>
          exact .inl ⟨wanted_by 23 false (by kernel_rfl) (show a.eval (.tmp 23) = (.bool (false || false)) from hk.slot 23 (by kernel_rfl)), q_len rfl (by kernel_rfl) (show a.eval (.tmp 24) = (.slice ak nK ck) from hk.slot 24 (by kernel_rfl)) rfl⟩
    · -- slot 26
      cases g with
      | true =>
        exact .inr ⟨unwanted_by 23 false (by kernel_rfl) (show a.eval (.tmp 23) = (.bool (true || b9)) from hk.slot 23 (by kernel_rfl)), rfl⟩
      | false =>
        cases b9 with
        | true =>
          exact .inr ⟨unwanted_by 23 false (by kernel_rfl) (show a.eval (.tmp 23) = (.bool (false || true)) from hk.slot 23 (by kernel_rfl)), rfl⟩
        | false =>
          exact .inl ⟨wanted_by 23 false (by kernel_rfl) (show a.eval (.tmp 23) = (.bool (false || false)) from hk.slot 23 (by kernel_rfl)), q_bin rfl (show a.eval (.tmp 25) = (.int .i64 (nK : Int)) from hk.slot 25 (by kernel_rfl)) rfl (v := .bool (decide ((200 : Int) < (nK : Int)))) (fun w => by kernel_rfl) (congrArg Value.bool (H2.out))⟩
    · -- slot 27
      cases g with
      | true =>
        exact .inl ⟨wanted_free rfl, q_pick rfl true (show a.eval (.tmp 23) = (.bool (true || b9)) from hk.slot 23 (by kernel_rfl)) rfl⟩
      | false =>
        cases b9 with
        | true =>
          exact .inl ⟨wanted_free rfl, q_pick rfl true (show a.eval (.tmp 23) = (.bool (false || true)) from hk.slot 23 (by kernel_rfl)) rfl⟩
        | false =>
          exact .inl ⟨wanted_free rfl, q_pick rfl false (show a.eval (.tmp 23) = (.bool (false || false)) from hk.slot 23 (by kernel_rfl)) (show a.eval (.tmp 26) = (.bool b2) from hk.slot 26 (by kernel_rfl))⟩
  intro a ⟨w1, hb1⟩ hsame hall
  have he := act_same hsame [15, 16, 17, 18, 19, 20, 21, 22, 23, 24, 25, 26, 27] (by kernel_rfl)
  simp only [List.foldl_cons, List.foldl_nil] at he
  rw [show a.eval (.tmp 27) = (.bool R1) from (hall 27 (by kernel_rfl)).trans (congrArg Value.bool HR1.out.symm)] at he
  generalize a.eval (.tmp 15) = x15 at he
  generalize a.eval (.tmp 16) = x16 at he
  generalize a.eval (.tmp 17) = x17 at he
  generalize a.eval (.tmp 18) = x18 at he
  generalize a.eval (.tmp 19) = x19 at he
  generalize a.eval (.tmp 20) = x20 at he
  generalize a.eval (.tmp 21) = x21 at he
  generalize a.eval (.tmp 22) = x22 at he
  generalize a.eval (.tmp 23) = x23 at he
  generalize a.eval (.tmp 24) = x24 at he
  generalize a.eval (.tmp 25) = x25 at he
  generalize a.eval (.tmp 26) = x26 at he
  simp only [put_lit] at he
  dsimp only [List.set_cons_zero, List.set_cons_succ] at he
  subst he
  clear hsame hall
  cases R1 with
  | true =>
    go_wp2_with fail
    refine (awake14_calls w1).mono ?_
    rintro e wq ⟨rfl, hbq⟩
    go_wp2_with fail
    go_ret
    exact ⟨rfl, HB0.out.trans ((hb1.trans (hbq.mono hb1.size)).mono HB0.out.size)⟩
  | false =>
    dsimp only
    have hf := hR1.out
    have HGF : Hid (g = false ∧ b9 = false ∧ b2 = false) := by cases g <;> cases b9 <;> cases b2 <;> first | exact ⟨rfl, rfl, rfl⟩ | exact absurd hf (by decide)
    clear hf
    have HSS : Hid (SmallV M.cfg) := small_of (hg.out.symm.trans HGF.out.1)
    have HNK : Hid (K.length ≤ 100000) := by
      have h1 := hb2.out
      rw [HGF.out.2.2] at h1
      have := of_decide_eq_false h1.symm
      have := hnK.out
      rw [Hid]; omega
    have HM1 := Lib.hid (HM.out.stay hb1)
    have HI1 := Lib.hid (HI.out.keep hb1)
    have HR1' := Lib.hid (HR.out.stay hb1)
    have HK1 := Lib.hid (HK.out.stay hb1)
    have HB1 := Lib.hid (HB0.out.trans (hb1.mono HB0.out.size))
    clear hb1 HG HI HR HK HM HB0 HI0
    have hw := HI1.out.whole
    rw [← hC.out] at hw
    have HL1 := Lib.hid hw
    obtain ⟨k, hk⟩ : ∃ k, Hid (k = canM M) := ⟨_, rfl⟩
    obtain ⟨Fp, hFp⟩ : ∃ F, Hid (F = mprintB M) := ⟨_, rfl⟩
    clear hw
    cases k with
    | false =>
      have hpn := printB_no hk.out.symm
      have hp := mprint_calls w1 M HM1.out
      rw [← hC.out, hpn.1, hpn.2] at hp
      have HP := Lib.hid hp
      clear hpn hp
      go_upto_region 4 with (first | (with_reducible refine wpList_load_op (o := ⟨some 30, .load 55 (.tmp 3), _, _, _, _⟩) (by with_unfolding_all rfl) (by with_unfolding_all rfl) (by with_unfolding_all rfl) HL1.out ?_))
      go_wp2_with fail
      refine (HP.out).mono ?_
      rintro e w2 ⟨a2, c2, rfl, _, hb2⟩
      have HI2 := HI1.out.keep hb2
      have hw := HI2.whole
      rw [← hC.out] at hw
      have HL2 := Lib.hid hw
      have hcn := mcan_calls w2 M (HM1.out.stay hb2)
      rw [← hk.out, ← hC.out] at hcn
      have HCN := Lib.hid hcn
      have HR2 := Lib.hid (HR1'.out.stay hb2)
      have HB2 := Lib.hid (HB1.out.trans (hb2.mono HB1.out.size))
      clear hw hcn HI2 hb2 HP HL1
      go_wp2_with ((with_reducible refine wpList_load_op (o := ⟨some 36, .load 55 (.tmp 3), _, _, _, _⟩) (by with_unfolding_all rfl) (by with_unfolding_all rfl) (by with_unfolding_all rfl) HL2.out ?_))
      refine (HCN.out).mono ?_
      rintro e w3 ⟨rfl, hb3⟩
      have HR3 := Lib.hid (HR2.out.stay hb3)
      have HB3 := Lib.hid (HB2.out.trans (hb3.mono HB2.out.size))
      clear hb3 HCN HL2 HR2
      go_upto_region 10 with fail
      have hq := mparse_calls w3 HR3.out
      rw [← hnL.out] at hq
      obtain ⟨E, hE⟩ : ∃ E, Hid (E = mparE L) := ⟨_, rfl⟩
      rw [← hE.out] at hq
      have HQ := Lib.hid hq
      clear hq
      go_wp2_with fail
      refine (HQ.out).mono ?_
      rintro e w4 ⟨U, rfl, hUm, hUF, hb4⟩
      obtain ⟨CU, hCU⟩ : ∃ C, Hid (C = cM U) := ⟨_, rfl⟩
      have HCU : Hid (CU.size = 69 ∧ CU.all (·.oneCell') = true) := by rw [hCU.out]; exact ⟨cM_size hUF.p32 hUF.t32, cM_one _⟩
      rw [← hCU.out]
      obtain ⟨pu, hpu⟩ : ∃ p, p = w4.heap.size := ⟨_, rfl⟩
      have HNW := Lib.hid (heap_alloc_new w4 (.cells Z 55))
      have HR4 := Lib.hid (HR3.out.stay hb4)
      have HB4 := Lib.hid (HB3.out.trans (hb4.mono HB3.out.size))
      have HUM := Lib.hid hUm
      have HUF := Lib.hid hUF
      clear hUm hUF hb4 HQ HR3 HB3
      go_upto_region 11 with (first | ((with_reducible refine wpList_value (o := ⟨some 11, .alloc _, _, _, _, _⟩) (by with_unfolding_all rfl) (HAM.out _ _ _ _ _ _) ?_)) | ((with_reducible refine wpList_storeB (o := ⟨none, .store _ (.tmp 11) (.tmp 65), _, _, _, _⟩) rowM (.tmp 11) (.tmp 65) (by with_unfolding_all rfl) (by with_unfolding_all rfl) (by with_unfolding_all rfl) (by with_unfolding_all rfl) (by with_unfolding_all rfl) HNW.out HZS.out.1 HCU.out.1 HCU.out.2 ?_); intro w5 hbw5 hSw5; have HBw5 := Lib.hid hbw5; have HSw5 := Lib.hid hSw5; clear hbw5 hSw5))
      have HBS : Hid (Below w4.heap.size w4 w5) := by
        have h1 : Below w4.heap.size w4 (w4.alloc (.cells Z 55)) := (Below.refl _ _).alloc (Nat.le_refl _) _
        exact h1.trans (HSw5.out.below (by simp) (fun k hk => by omega))
      have HI5 : Hid (InM w5 pu U) := by rw [Hid, hpu]; exact ⟨by rw [← hCU.out]; exact HBw5.out, HUF.out.p32, HUF.out.t32⟩
      have HR5 := Lib.hid (HR4.out.stay HBS.out)
      have HU5 : Hid (U.At w5) := HUF.out.at.stay HBS.out
      have HB5 := Lib.hid (HB4.out.trans (HBS.out.mono HB4.out.size))
      rw [← hpu]
      clear HBw5 HSw5 HNW HBS HR4 HB4 HUF hpu
      obtain ⟨ok, hok⟩ : ∃ b, Hid (b = mparOk L) := ⟨_, rfl⟩
      cases ok with
      | false =>
        have e1 : E = 140 := by rw [hE.out, mparE, ← hok.out]; rfl
        subst e1
        go_wp2_with fail
        refine (awake14_calls w5).mono ?_
        rintro e wq ⟨rfl, hbq⟩
        go_wp2_with fail
        go_ret
        exact ⟨rfl, HB5.out.trans (hbq.mono HB5.out.size)⟩
      | true =>
        have e1 : E = 0 := by rw [hE.out, mparE, ← hok.out]; rfl
        subst e1
        have hum : U.man = readM L := by rw [HUM.out, mparK, ← hok.out]; rfl
        have hcu : canM U = true := by
          rw [canM_man, hum]
          have := hok.out.symm
          unfold mparOk at this
          simp only [Bool.and_eq_true] at this
          exact this.2
        have hpb : mprintB U = L := by rw [mprintB_man, hum]; exact man_back hok.out.symm
        have hp := mprint_calls w5 U HU5.out
        rw [hpb, ← hCU.out, (printB_of hcu).2, ← hnL.out] at hp
        have HP5 := Lib.hid hp
        have hw := HI5.out.whole
        rw [← hCU.out] at hw
        have HL5 := Lib.hid hw
        clear hum hcu hpb hp hw
        go_wp2_with ((with_reducible refine wpList_load_op (o := ⟨some 71, .load 55 (.tmp 11), _, _, _, _⟩) (by with_unfolding_all rfl) (by with_unfolding_all rfl) (by with_unfolding_all rfl) HL5.out ?_))
        refine (HP5.out).mono ?_
        rintro e w6 ⟨a6, c6, rfl, hr6, hb6⟩
        have HR6 := Lib.hid (HR5.out.stay hb6)
        have HP6 := Lib.hid hr6.row
        have HB6 := Lib.hid (HB5.out.trans (hb6.mono HB5.out.size))
        clear hr6 hb6 HP5 HL5 HI5 HR5 HU5
        go_wp2_with (first | ((with_reducible refine wpList_value_gs (o := ⟨some 79, .convert _ _ _, _, _, _, _⟩) (by with_unfolding_all rfl) (exec_conv (x := .tmp 78) (by with_unfolding_all rfl) (by with_unfolding_all rfl) hnL.out.symm HP6.out) ?_)) | ((with_reducible refine wpList_value_gs (o := ⟨some 81, .convert _ _ _, _, _, _, _⟩) (by with_unfolding_all rfl) (exec_conv (x := .tmp 80) (by with_unfolding_all rfl) (by with_unfolding_all rfl) hnL.out.symm HR6.out) ?_)))
        refine (awake14_calls w6).mono ?_
        rintro e wq ⟨rfl, hbq⟩
        go_wp2_with fail
        go_ret
        exact ⟨rfl, HB6.out.trans (hbq.mono HB6.out.size)⟩
    | true =>
      have hpn := printB_of hk.out.symm
      have hcK : canK M.man = true := by rw [← canM_man]; exact hk.out.symm
      have hfr := man_front hcK HI1.out.p32 HI1.out.t32
      rw [← mprintB_man, ← hFp.out] at hfr
      have HFR : Hid (mparE Fp = 0 ∧ mparK Fp = M.man) := ⟨mparE_ok.2 hfr.2, by rw [mparK, hfr.2, if_pos rfl]; exact hfr.1⟩
      have HCK := Lib.hid hcK
      have hp := mprint_calls w1 M HM1.out
      rw [← hC.out, ← hFp.out, hpn.2] at hp
      have HP := Lib.hid hp
      clear hpn hcK hfr hp
      go_upto_region 4 with (first | (with_reducible refine wpList_load_op (o := ⟨some 30, .load 55 (.tmp 3), _, _, _, _⟩) (by with_unfolding_all rfl) (by with_unfolding_all rfl) (by with_unfolding_all rfl) HL1.out ?_))
      go_wp2_with fail
      refine (HP.out).mono ?_
      rintro e w2 ⟨a2, c2, rfl, hr2, hb2⟩
      have HI2 := Lib.hid (HI1.out.keep hb2)
      have hw := HI2.out.whole
      rw [← hC.out] at hw
      have HL2 := Lib.hid hw
      have hcn := mcan_calls w2 M (HM1.out.stay hb2)
      rw [← hk.out, ← hC.out] at hcn
      have HCN := Lib.hid hcn
      have HR2 := Lib.hid (HR1'.out.stay hb2)
      have HP2 := Lib.hid hr2.row
      have HM2 := Lib.hid (HM1.out.stay hb2)
      have HB2 := Lib.hid (HB1.out.trans (hb2.mono HB1.out.size))
      have HK2 := Lib.hid (HK1.out.stay hb2)
      clear hw hcn hb2 hr2 HP HL1
      go_wp2_with ((with_reducible refine wpList_load_op (o := ⟨some 36, .load 55 (.tmp 3), _, _, _, _⟩) (by with_unfolding_all rfl) (by with_unfolding_all rfl) (by with_unfolding_all rfl) HL2.out ?_))
      refine (HCN.out).mono ?_
      rintro e wa ⟨rfl, hba⟩
      have HIa := Lib.hid (HI2.out.keep hba)
      have HMa := Lib.hid (HM2.out.stay hba)
      have HRa := Lib.hid (HR2.out.stay hba)
      have HKa := Lib.hid (HK2.out.stay hba)
      have HBa := Lib.hid (HB2.out.trans (hba.mono HB2.out.size))
      have hq := mparse_calls wa (HP2.out.stay hba)
      rw [HFR.out.1] at hq
      have HQ := Lib.hid hq
      clear hba hq HCN HL2 HI2 HR2 HP2 HM2 HB2 HK2
      go_upto_region 7 with fail
      go_wp2_with fail
      refine (HQ.out).mono ?_
      rintro e wb ⟨S, rfl, hSm, hSF, hbb⟩
      rw [HFR.out.2] at hSm
      obtain ⟨CS, hCS⟩ : ∃ C, Hid (C = cM S) := ⟨_, rfl⟩
      have HCS : Hid (CS.size = 69 ∧ CS.all (·.oneCell') = true) := by rw [hCS.out]; exact ⟨cM_size hSF.p32 hSF.t32, cM_one _⟩
      rw [← hCS.out]
      obtain ⟨ps, hps⟩ : ∃ p, p = wb.heap.size := ⟨_, rfl⟩
      have HNW := Lib.hid (heap_alloc_new wb (.cells Z 55))
      have HIb := Lib.hid (HIa.out.keep hbb)
      have HMb := Lib.hid (HMa.out.stay hbb)
      have HRb := Lib.hid (HRa.out.stay hbb)
      have HKb := Lib.hid (HKa.out.stay hbb)
      have HBb := Lib.hid (HBa.out.trans (hbb.mono HBa.out.size))
      have HSM := Lib.hid hSm
      have HSF := Lib.hid hSF
      clear hSm hSF hbb HQ HIa HMa HRa HKa HBa
      go_upto_region 8 with (first | ((with_reducible refine wpList_value (o := ⟨some 9, .alloc _, _, _, _, _⟩) (by with_unfolding_all rfl) (HAM.out _ _ _ _ _ _) ?_)) | ((with_reducible refine wpList_storeB (o := ⟨none, .store _ (.tmp 9) (.tmp 44), _, _, _, _⟩) rowM (.tmp 9) (.tmp 44) (by with_unfolding_all rfl) (by with_unfolding_all rfl) (by with_unfolding_all rfl) (by with_unfolding_all rfl) (by with_unfolding_all rfl) HNW.out HZS.out.1 HCS.out.1 HCS.out.2 ?_); intro wc hbwc hSwc; have HBwc := Lib.hid hbwc; have HSwc := Lib.hid hSwc; clear hbwc hSwc))
      have HBS : Hid (Below wb.heap.size wb wc) := by
        have h1 : Below wb.heap.size wb (wb.alloc (.cells Z 55)) := (Below.refl _ _).alloc (Nat.le_refl _) _
        exact h1.trans (HSwc.out.below (by simp) (fun k hk => by omega))
      have HIS : Hid (InM wc ps S) := by rw [Hid, hps]; exact ⟨by rw [← hCS.out]; exact HBwc.out, HSF.out.p32, HSF.out.t32⟩
      have HIc := Lib.hid (HIb.out.keep HBS.out)
      have HMc := Lib.hid (HMb.out.stay HBS.out)
      have HRc := Lib.hid (HRb.out.stay HBS.out)
      have HKc := Lib.hid (HKb.out.stay HBS.out)
      have HBc := Lib.hid (HBb.out.trans (HBS.out.mono HBb.out.size))
      have HSc : Hid (S.At wc) := HSF.out.at.stay HBS.out
      rw [← hps]
      clear HBwc HSwc HNW HBS HIb HMb HRb HKb HBb HSF hps
      have hsm := msame_calls wc M S HMc.out HSc.out
      rw [decide_eq_true (show M.man = S.man from HSM.out.symm), ← hC.out, ← hCS.out] at hsm
      have HSS2 := Lib.hid hsm
      have hw1 := HIc.out.whole
      rw [← hC.out] at hw1
      have HLA := Lib.hid hw1
      have hw2 := HIS.out.whole
      rw [← hCS.out] at hw2
      have HLB := Lib.hid hw2
      clear hsm hw1 hw2
      go_wp2_with (first | ((with_reducible refine wpList_value_gs (o := ⟨some 49, .load _ _, _, _, _, _⟩) (by with_unfolding_all rfl) (exec_loadv (x := .tmp 3) (by with_unfolding_all rfl) (by with_unfolding_all rfl) HLA.out) ?_)) | ((with_reducible refine wpList_value_gs (o := ⟨some 50, .load _ _, _, _, _, _⟩) (by with_unfolding_all rfl) (exec_loadv (x := .tmp 9) (by with_unfolding_all rfl) (by with_unfolding_all rfl) HLB.out) ?_)))
      refine (HSS2.out).mono ?_
      rintro e wd ⟨rfl, hbd⟩
      have HId := Lib.hid (HIc.out.keep hbd)
      have HRd := Lib.hid (HRc.out.stay hbd)
      have HKd := Lib.hid (HKc.out.stay hbd)
      have HBd := Lib.hid (HBc.out.trans (hbd.mono HBc.out.size))
      have hsl := mseal_calls wd ak K ck HKd.out HNK.out M (HMc.out.stay hbd) HSS.out
      rw [← hC.out, ← hnK.out] at hsl
      have HSL := Lib.hid hsl
      have hw1 := HId.out.whole
      rw [← hC.out] at hw1
      have HLC := Lib.hid hw1
      clear hsl hw1 hbd HSS2 HLA HLB HIc HMc HRc HKc HBc HSc HIS
      go_wp2_with (((with_reducible refine wpList_value_gs (o := ⟨some 57, .load _ _, _, _, _, _⟩) (by with_unfolding_all rfl) (exec_loadv (x := .tmp 3) (by with_unfolding_all rfl) (by with_unfolding_all rfl) HLC.out) ?_)))
      refine (HSL.out).mono ?_
      rintro e we ⟨Q, rfl, hQm, hQp, hQt, hQf, hbe⟩
      have hrt := mright_calls we ak K ck (HKd.out.stay hbe) HNK.out Q ⟨hQp, hQt, hQf.at⟩
      rw [hQm, seal_right HCK.out, ← hnK.out] at hrt
      have HRT := Lib.hid hrt
      have HRe := Lib.hid (HRd.out.stay hbe)
      have HBe := Lib.hid (HBd.out.trans (hbe.mono HBd.out.size))
      clear hrt hQm hQp hQt hQf hbe HSL HLC HId HRd HKd HBd
      go_wp2_with fail
      refine (HRT.out).mono ?_
      rintro e w3 ⟨rfl, hb3⟩
      have HR3 := Lib.hid (HRe.out.stay hb3)
      have HB3 := Lib.hid (HBe.out.trans (hb3.mono HBe.out.size))
      clear hb3 HRT HRe HBe
      go_upto_region 10 with fail
      have hq := mparse_calls w3 HR3.out
      rw [← hnL.out] at hq
      obtain ⟨E, hE⟩ : ∃ E, Hid (E = mparE L) := ⟨_, rfl⟩
      rw [← hE.out] at hq
      have HQ := Lib.hid hq
      clear hq
      go_wp2_with fail
      refine (HQ.out).mono ?_
      rintro e w4 ⟨U, rfl, hUm, hUF, hb4⟩
      obtain ⟨CU, hCU⟩ : ∃ C, Hid (C = cM U) := ⟨_, rfl⟩
      have HCU : Hid (CU.size = 69 ∧ CU.all (·.oneCell') = true) := by rw [hCU.out]; exact ⟨cM_size hUF.p32 hUF.t32, cM_one _⟩
      rw [← hCU.out]
      obtain ⟨pu, hpu⟩ : ∃ p, p = w4.heap.size := ⟨_, rfl⟩
      have HNW := Lib.hid (heap_alloc_new w4 (.cells Z 55))
      have HR4 := Lib.hid (HR3.out.stay hb4)
      have HB4 := Lib.hid (HB3.out.trans (hb4.mono HB3.out.size))
      have HUM := Lib.hid hUm
      have HUF := Lib.hid hUF
      clear hUm hUF hb4 HQ HR3 HB3
      go_upto_region 11 with (first | ((with_reducible refine wpList_value (o := ⟨some 11, .alloc _, _, _, _, _⟩) (by with_unfolding_all rfl) (HAM.out _ _ _ _ _ _) ?_)) | ((with_reducible refine wpList_storeB (o := ⟨none, .store _ (.tmp 11) (.tmp 65), _, _, _, _⟩) rowM (.tmp 11) (.tmp 65) (by with_unfolding_all rfl) (by with_unfolding_all rfl) (by with_unfolding_all rfl) (by with_unfolding_all rfl) (by with_unfolding_all rfl) HNW.out HZS.out.1 HCU.out.1 HCU.out.2 ?_); intro w5 hbw5 hSw5; have HBw5 := Lib.hid hbw5; have HSw5 := Lib.hid hSw5; clear hbw5 hSw5))
      have HBS : Hid (Below w4.heap.size w4 w5) := by
        have h1 : Below w4.heap.size w4 (w4.alloc (.cells Z 55)) := (Below.refl _ _).alloc (Nat.le_refl _) _
        exact h1.trans (HSw5.out.below (by simp) (fun k hk => by omega))
      have HI5 : Hid (InM w5 pu U) := by rw [Hid, hpu]; exact ⟨by rw [← hCU.out]; exact HBw5.out, HUF.out.p32, HUF.out.t32⟩
      have HR5 := Lib.hid (HR4.out.stay HBS.out)
      have HU5 : Hid (U.At w5) := HUF.out.at.stay HBS.out
      have HB5 := Lib.hid (HB4.out.trans (HBS.out.mono HB4.out.size))
      rw [← hpu]
      clear HBw5 HSw5 HNW HBS HR4 HB4 HUF hpu
      obtain ⟨ok, hok⟩ : ∃ b, Hid (b = mparOk L) := ⟨_, rfl⟩
      cases ok with
      | false =>
        have e1 : E = 140 := by rw [hE.out, mparE, ← hok.out]; rfl
        subst e1
        go_wp2_with fail
        refine (awake14_calls w5).mono ?_
        rintro e wq ⟨rfl, hbq⟩
        go_wp2_with fail
        go_ret
        exact ⟨rfl, HB5.out.trans (hbq.mono HB5.out.size)⟩
      | true =>
        have e1 : E = 0 := by rw [hE.out, mparE, ← hok.out]; rfl
        subst e1
        have hum : U.man = readM L := by rw [HUM.out, mparK, ← hok.out]; rfl
        have hcu : canM U = true := by
          rw [canM_man, hum]
          have := hok.out.symm
          unfold mparOk at this
          simp only [Bool.and_eq_true] at this
          exact this.2
        have hpb : mprintB U = L := by rw [mprintB_man, hum]; exact man_back hok.out.symm
        have hp := mprint_calls w5 U HU5.out
        rw [hpb, ← hCU.out, (printB_of hcu).2, ← hnL.out] at hp
        have HP5 := Lib.hid hp
        have hw := HI5.out.whole
        rw [← hCU.out] at hw
        have HL5 := Lib.hid hw
        clear hum hcu hpb hp hw
        go_wp2_with ((with_reducible refine wpList_load_op (o := ⟨some 71, .load 55 (.tmp 11), _, _, _, _⟩) (by with_unfolding_all rfl) (by with_unfolding_all rfl) (by with_unfolding_all rfl) HL5.out ?_))
        refine (HP5.out).mono ?_
        rintro e w6 ⟨a6, c6, rfl, hr6, hb6⟩
        have HR6 := Lib.hid (HR5.out.stay hb6)
        have HP6 := Lib.hid hr6.row
        have HB6 := Lib.hid (HB5.out.trans (hb6.mono HB5.out.size))
        clear hr6 hb6 HP5 HL5 HI5 HR5 HU5
        go_wp2_with (first | ((with_reducible refine wpList_value_gs (o := ⟨some 79, .convert _ _ _, _, _, _, _⟩) (by with_unfolding_all rfl) (exec_conv (x := .tmp 78) (by with_unfolding_all rfl) (by with_unfolding_all rfl) hnL.out.symm HP6.out) ?_)) | ((with_reducible refine wpList_value_gs (o := ⟨some 81, .convert _ _ _, _, _, _, _⟩) (by with_unfolding_all rfl) (exec_conv (x := .tmp 80) (by with_unfolding_all rfl) (by with_unfolding_all rfl) hnL.out.symm HR6.out) ?_)))
        refine (awake14_calls w6).mono ?_
        rintro e wq ⟨rfl, hbq⟩
        go_wp2_with fail
        go_ret
        exact ⟨rfl, HB6.out.trans (hbq.mono HB6.out.size)⟩
end Go.Proofs.YtlholdllibghbaaGreat
