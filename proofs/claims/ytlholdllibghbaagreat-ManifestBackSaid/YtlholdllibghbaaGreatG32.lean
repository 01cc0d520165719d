/- Texts of the proof, one behind the other: Kept, Surv, OddR, ErrsCfg. No condition but those that each names. -/
import Derived.Test.YtlholdllibghbaaGreatG14
import Derived.Test.YtlholdllibghbaaGreatG13
import Derived.Test.YtlholdllibghbaaGreatG15
import Derived.Test.YtlholdllibghbaaGreatG10
import Derived.Deep.CutBlock
import Derived.Deep.DeepCutAuto
import Derived.Test.YtlholdllibghbaaGreatG30
/- compat.may, compat.kept, compat.Survives: walked. -/
namespace Go.Proofs.YtlholdllibghbaaGreat
open Go Go.RowKit Go.Cit

def kp3 (p1 p2 : Nat) (h1 h2 k1 k2 : Bool) : Nat → Value
  | 24 => (.bool h1)
  | 25 => (.bool h1)
  | 26 => (bif h1 then (.bool h2) else undef)
  | 27 => (.bool (h1 && h2))
  | 28 => (.bool (h1 && h2))
  | 29 => (bif (h1 && h2) then (.pointer (some ⟨p1, 3, none⟩)) else undef)
  | 30 => (bif (h1 && h2) then (.bool k1) else undef)
  | 31 => (.bool ((h1 && h2) && k1))
  | 32 => (.bool ((h1 && h2) && k1))
  | 33 => (bif ((h1 && h2) && k1) then (.pointer (some ⟨p2, 3, none⟩)) else undef)
  | 34 => (bif ((h1 && h2) && k1) then (.bool k2) else undef)
  | 35 => (.bool (((h1 && h2) && k1) && k2))
  | 6 => (.bool (((h1 && h2) && k1) && k2))
  | _ => undef
def kp3o (p1 p2 : Nat) (h1 h2 _ _ : Bool) : Nat → Value
  | 8 => (.pointer (some ⟨p1, 0, none⟩))
  | 9 => (.bool h1)
  | 10 => (.pointer (some ⟨p2, 0, none⟩))
  | 11 => (.bool h2)
  | _ => undef
def kp4 (p1 p2 : Nat) (s1 s2 : Int) (b g : Bool) : Nat → Value
  | 36 => (.bool b)
  | 37 => (.bool b)
  | 38 => (.bool b)
  | 39 => (bif b then (.pointer (some ⟨p1, 1, none⟩)) else undef)
  | 40 => (bif b then (.pointer (some ⟨p1, 2, none⟩)) else undef)
  | 41 => (bif b then (.int .i64 s1) else undef)
  | 42 => (bif b then (.pointer (some ⟨p2, 1, none⟩)) else undef)
  | 43 => (bif b then (.pointer (some ⟨p2, 2, none⟩)) else undef)
  | 44 => (bif b then (.int .i64 s2) else undef)
  | 45 => (bif b then (.bool g) else undef)
  | 46 => (.bool (b && g))
  | 6 => (.bool b)
  | 7 => (.bool (b && g))
  | _ => undef
def kp4o (p1 p2 : Nat) (_ _ : Int) (b _ : Bool) : Nat → Value
  | 6 => (.bool b)
  | 8 => (.pointer (some ⟨p1, 0, none⟩))
  | 10 => (.pointer (some ⟨p2, 0, none⟩))
  | _ => undef

def bothK (ps qs : List PtV) (id : Int) : Bool := ((hasP ps id && hasP qs id) && (getP ps id).keep) && (getP qs id).keep
def sameK (ps qs : List PtV) (id : Int) : Bool := bothK ps qs id && decide ((getP ps id).reg.size.1 = (getP qs id).reg.size.1)
def mayK (V W : CfgV) : Bool := fitsV V && fitsV W
theorem two_boxK (w : World) (V W : CfgV) : InBox ((w.alloc (.cells #[.slice V.wa V.ws.length V.wc, .slice V.pa V.ps.length V.pc, .slice V.ca V.cs.length V.cc] 26)).alloc (.cells #[.slice W.wa W.ws.length W.wc, .slice W.pa W.ps.length W.pc, .slice W.ca W.cs.length W.cc] 26)) w.heap.size V ∧ InBox ((w.alloc (.cells #[.slice V.wa V.ws.length V.wc, .slice V.pa V.ps.length V.pc, .slice V.ca V.cs.length V.cc] 26)).alloc (.cells #[.slice W.wa W.ws.length W.wc, .slice W.pa W.ps.length W.pc, .slice W.ca W.cs.length W.cc] 26)) (w.heap.size + 1) W := by
  refine ⟨(inBox_new w V _).keep ((Below.refl _ _).alloc (Nat.le_refl _) _), ?_⟩
  have := inBox_new (w.alloc (.cells #[.slice V.wa V.ws.length V.wc, .slice V.pa V.ps.length V.pc, .slice V.ca V.cs.length V.cc] 26)) W 26
  simpa using this
set_option maxRecDepth 100000 in
set_option maxHeartbeats 2000000 in
theorem cmay_calls (w : World) (V W : CfgV) (h : V.At w) (k : W.At w) (hs : SmallV V) (ks : SmallV W) : Calls Tryz.prog 155 #[.agg #[.slice V.wa V.ws.length V.wc, .slice V.pa V.ps.length V.pc, .slice V.ca V.cs.length V.cc], .agg #[.slice W.wa W.ws.length W.wc, .slice W.pa W.ps.length W.pc, .slice W.ca W.cs.length W.cc]] w fun e w' => e = .returned (.bool (mayK V W)) ∧ Below w.heap.size w w' := by
  obtain ⟨w0, hw0⟩ : ∃ w0, w0 = (w.alloc (.cells #[.slice V.wa V.ws.length V.wc, .slice V.pa V.ps.length V.pc, .slice V.ca V.cs.length V.cc] 26)).alloc (.cells #[.slice W.wa W.ws.length W.wc, .slice W.pa W.ps.length W.pc, .slice W.ca W.cs.length W.cc] 26) := ⟨_, rfl⟩
  have B0 : Below w.heap.size w w0 := by rw [hw0]; exact ((Below.refl _ w).alloc (Nat.le_refl _) _).alloc (by simp) _
  have hI := two_boxK w V W
  rw [← hw0] at hI
  have HI := Lib.hid hI
  have HK := Lib.hid (k.stay B0)
  have hf := fits_calls w0 V (h.stay B0) hs
  obtain ⟨f, hf0⟩ : ∃ f, Hid (f = fitsV V) := ⟨_, rfl⟩
  obtain ⟨f2, hf2⟩ : ∃ f, Hid (f = fitsV W) := ⟨_, rfl⟩
  have HR : Hid (mayK V W = (f && f2)) := by rw [Hid, hf0.out, hf2.out]; rfl
  rw [← hf0.out] at hf
  have HF := Lib.hid hf
  have HB0 := Lib.hid B0
  obtain ⟨R, hR⟩ : ∃ R, Hid (R = mayK V W) := ⟨_, rfl⟩
  rw [← hR.out] at HR ⊢
  clear h k B0 hI hf
  obtain ⟨⟨c0, c1, c2⟩, ⟨d0, d1, d2⟩⟩ := HI.out
  cases f with
  | false =>
    have HRF : Hid (R = false) := HR.out
    go_enter Tryz.func155, Tryz.ntmps155
    go_wp2_with fail
    rw [← hw0]
    clear hw0
    refine (HF.out).mono ?_
    rintro e w1 ⟨rfl, hb1⟩
    have HB1 := Lib.hid (HB0.out.trans (hb1.mono HB0.out.size))
    clear hb1 c0 c1 c2 d0 d1 d2
    go_wp2_with fail
    go_ret
    exact ⟨ret_bool HRF.out.symm, HB1.out⟩
  | true =>
    have HRF : Hid (R = f2) := HR.out
    go_enter Tryz.func155, Tryz.ntmps155
    go_wp2_with fail
    rw [← hw0]
    clear hw0
    refine (HF.out).mono ?_
    rintro e w1 ⟨rfl, hb1⟩
    have hf := fits_calls w1 W (HK.out.stay hb1) ks
    rw [← hf2.out] at hf
    have HF2 := Lib.hid hf
    have HB1 := Lib.hid (HB0.out.trans (hb1.mono HB0.out.size))
    clear c0 c1 c2 d0 d1 d2
    obtain ⟨d0, d1, d2⟩ := HI.out.2.keep hb1
    clear hb1 hf
    go_wp2_with fail
    refine (HF2.out).mono ?_
    rintro e w2 ⟨rfl, hb2⟩
    have HB2 := Lib.hid (HB1.out.trans (hb2.mono HB1.out.size))
    clear hb2 d0 d1 d2
    go_wp2_with fail
    go_ret
    exact ⟨ret_bool HRF.out.symm, HB2.out⟩

set_option maxRecDepth 100000 in
set_option maxHeartbeats 4000000 in
theorem kept_calls (w : World) (V W : CfgV) (h : V.At w) (k : W.At w) (hs : SmallV V) (ks : SmallV W) (id : Int) : Calls Tryz.prog 156 #[.agg #[.slice V.wa V.ws.length V.wc, .slice V.pa V.ps.length V.pc, .slice V.ca V.cs.length V.cc], .agg #[.slice W.wa W.ws.length W.wc, .slice W.pa W.ps.length W.pc, .slice W.ca W.cs.length W.cc], .int .i64 id] w fun e w' => e = .returned (.tuple #[.bool (bothK V.ps W.ps id), .bool (sameK V.ps W.ps id)]) ∧ Below w.heap.size w w' := by
  obtain ⟨w0, hw0⟩ : ∃ w0, w0 = (w.alloc (.cells #[.slice V.wa V.ws.length V.wc, .slice V.pa V.ps.length V.pc, .slice V.ca V.cs.length V.cc] 26)).alloc (.cells #[.slice W.wa W.ws.length W.wc, .slice W.pa W.ps.length W.pc, .slice W.ca W.cs.length W.cc] 26) := ⟨_, rfl⟩
  have B0 : Below w.heap.size w w0 := by rw [hw0]; exact ((Below.refl _ w).alloc (Nat.le_refl _) _).alloc (by simp) _
  have hI := two_boxK w V W
  rw [← hw0] at hI
  have HI := Lib.hid hI
  have HK := Lib.hid (k.stay B0)
  have HB0 := Lib.hid B0
  have HP := Lib.hid (part_get w0 V (h.stay B0) hs id)
  obtain ⟨h1, hh1⟩ : ∃ b, Hid (b = hasP V.ps id) := ⟨_, rfl⟩
  obtain ⟨h2, hh2⟩ : ∃ b, Hid (b = hasP W.ps id) := ⟨_, rfl⟩
  rw [← hh1.out] at HP
  obtain ⟨RB, hRB⟩ : ∃ b, Hid (b = bothK V.ps W.ps id) := ⟨_, rfl⟩
  obtain ⟨RC, hRC⟩ : ∃ b, Hid (b = sameK V.ps W.ps id) := ⟨_, rfl⟩
  rw [← hRB.out, ← hRC.out]
  clear h k B0 hI
  obtain ⟨⟨c0, c1, c2⟩, ⟨d0, d1, d2⟩⟩ := HI.out
  go_enter Tryz.func156, Tryz.ntmps156
  go_wp2_with fail
  rw [← hw0]
  clear hw0
  refine (HP.out).mono ?_
  rintro e w1 ⟨x, rfl, hx, hO, hb1⟩
  obtain ⟨wa, hwa⟩ : ∃ wa, wa = w1.alloc (.cells (cA x) 46) := ⟨_, rfl⟩
  obtain ⟨p1, hp1⟩ : ∃ p, p = w1.heap.size := ⟨_, rfl⟩
  have hba : Below w1.heap.size w1 wa := by rw [hwa]; exact (Below.refl _ w1).alloc (Nat.le_refl _) _
  have hX : wa.heap[p1]? = some (.cells (cA x) 46 (0, 0)) := by rw [hwa, hp1]; exact heap_alloc_new _ _
  have hb01 := hb1.trans (hba.mono hb1.size)
  have HX := Lib.hid (And.intro hX hx)
  have hpg := part_get wa W (HK.out.stay hb01) ks id
  rw [← hh2.out] at hpg
  have HP2 := Lib.hid hpg
  have HB1 := Lib.hid (HB0.out.trans (hb01.mono HB0.out.size))
  clear c0 c1 c2 d0 d1 d2
  have hI2 := HI.out.2.keep hb01
  rw [hwa] at hI2
  obtain ⟨d0, d1, d2⟩ := hI2
  clear hx hO hb1 hba hX hb01 hpg HP
  go_wp2_with fail
  rw [← hwa, ← hp1]
  clear hwa hp1 d0 d1 d2
  refine (HP2.out).mono ?_
  rintro e w2 ⟨y, rfl, hy, hO, hb2⟩
  obtain ⟨wb, hwb⟩ : ∃ wb, wb = w2.alloc (.cells (cA y) 46) := ⟨_, rfl⟩
  obtain ⟨p2, hp2⟩ : ∃ p, p = w2.heap.size := ⟨_, rfl⟩
  have hbb : Below w2.heap.size w2 wb := by rw [hwb]; exact (Below.refl _ w2).alloc (Nat.le_refl _) _
  have hY : wb.heap[p2]? = some (.cells (cA y) 46 (0, 0)) := by rw [hwb, hp2]; exact heap_alloc_new _ _
  have hb12 := hb2.trans (hbb.mono hb2.size)
  have hX2 := blk_stay HX.out.1 hb12
  have HXY := Lib.hid (And.intro hX2 hY)
  have HB2 := Lib.hid (HB1.out.trans (hb12.mono HB1.out.size))
  obtain ⟨k1, hk1⟩ : ∃ b, Hid (b = x.keep) := ⟨_, rfl⟩
  obtain ⟨k2, hk2⟩ : ∃ b, Hid (b = y.keep) := ⟨_, rfl⟩
  obtain ⟨s1, hs1⟩ : ∃ b, Hid (b = x.reg.size.1) := ⟨_, rfl⟩
  obtain ⟨s2, hs2⟩ : ∃ b, Hid (b = y.reg.size.1) := ⟨_, rfl⟩
  obtain ⟨b, hbb0⟩ : ∃ b, Hid (b = (((h1 && h2) && k1) && k2)) := ⟨_, rfl⟩
  have hbb := hbb0
  obtain ⟨g, hgg⟩ : ∃ g, Hid (((s1 : Int) == s2) = g) := ⟨_, rfl⟩
  obtain ⟨c, hcc⟩ : ∃ c, Hid (c = (b && g)) := ⟨_, rfl⟩
  have e1 : (getP V.ps id).keep = k1 ∧ (getP V.ps id).reg.size.1 = s1 := by rw [← HX.out.2, hk1.out, hs1.out]; exact ⟨rfl, rfl⟩
  have e2 : (getP W.ps id).keep = k2 ∧ (getP W.ps id).reg.size.1 = s2 := by rw [← hy, hk2.out, hs2.out]; exact ⟨rfl, rfl⟩
  have HRB : Hid (bothK V.ps W.ps id = b) := by rw [Hid, hbb0.out, bothK, e1.1, e2.1, hh1.out, hh2.out]
  have HRC : Hid (sameK V.ps W.ps id = c) := by rw [Hid, hcc.out, sameK, HRB.out, e1.2, e2.2, ← hgg.out]; congr 1
  have d1 : ∀ q : After wb, q.to.cell? ⟨p1, 3, none⟩ = some (.bool k1) := fun q => After.cell (by rw [World.cell?, hX2, hk1.out]; rfl) q
  have d2 : ∀ q : After wb, q.to.cell? ⟨p2, 3, none⟩ = some (.bool k2) := fun q => After.cell (by rw [World.cell?, hY, hk2.out]; rfl) q
  clear hy hO hb2 hX2 hY hb12 e1 e2
  go_upto_region 3 with fail
  rw [← hwb, ← hp2]
  clear hwb hp2
  refine wp_region_vals0 (kp3 p1 p2 h1 h2 k1 k2) (kp3o p1 p2 h1 h2 k1 k2) [8, 9, 10, 11] (by kernel_rfl) ⟨rfl, rfl, rfl, rfl, trivial⟩ ?_ ?_
  · refine opsAll_cons ?_ (opsAll_cons ?_ (opsAll_cons ?_ (opsAll_cons ?_ (opsAll_cons ?_ (opsAll_cons ?_ (opsAll_cons ?_ (opsAll_cons ?_ (opsAll_cons ?_ (opsAll_cons ?_ (opsAll_cons ?_ (opsAll_cons ?_ (opsAll_cons ?_ opsAll_nil))))))))))))
    all_goals intro a hk
    · -- slot 24
      exact .inl ⟨wanted_free rfl, q_move (.tmp 9) rfl (show a.eval (.tmp 9) = (.bool h1) from hk.old 9 (by kernel_rfl) (by kernel_rfl))⟩
    · -- slot 25
      exact .inl ⟨wanted_free rfl, q_move (.tmp 24) rfl (show a.eval (.tmp 24) = (.bool h1) from hk.slot 24 (by kernel_rfl))⟩
    · -- slot 26
      cases h1 with
      | true =>
        exact .inl ⟨wanted_by 25 true (by kernel_rfl) (show a.eval (.tmp 25) = (.bool true) from hk.slot 25 (by kernel_rfl)), q_move (.tmp 11) rfl (show a.eval (.tmp 11) = (.bool h2) from hk.old 11 (by kernel_rfl) (by kernel_rfl))⟩
      | false =>
        exact .inr ⟨unwanted_by 25 true (by kernel_rfl) (show a.eval (.tmp 25) = (.bool false) from hk.slot 25 (by kernel_rfl)), rfl⟩
    · -- slot 27
      cases h1 with
      | true =>
        exact .inl ⟨wanted_free rfl, q_pick rfl true (show a.eval (.tmp 25) = (.bool true) from hk.slot 25 (by kernel_rfl)) (show a.eval (.tmp 26) = (.bool h2) from hk.slot 26 (by kernel_rfl))⟩
      | false =>
        exact .inl ⟨wanted_free rfl, q_pick rfl false (show a.eval (.tmp 25) = (.bool false) from hk.slot 25 (by kernel_rfl)) rfl⟩
    · -- slot 28
      exact .inl ⟨wanted_free rfl, q_move (.tmp 27) rfl (show a.eval (.tmp 27) = (.bool (h1 && h2)) from hk.slot 27 (by kernel_rfl))⟩
    · -- slot 29
      cases h1 with
      | true =>
        cases h2 with
        | true =>
          exact .inl ⟨wanted_by 28 true (by kernel_rfl) (show a.eval (.tmp 28) = (.bool (true && true)) from hk.slot 28 (by kernel_rfl)), q_field (.tmp 8) rfl (show a.eval (.tmp 8) = (.pointer (some ⟨p1, 0, none⟩)) from hk.old 8 (by kernel_rfl) (by kernel_rfl)) (v := (.pointer (some ⟨p1, 3, none⟩))) (fun w => by kernel_rfl) rfl⟩
        | false =>
          exact .inr ⟨unwanted_by 28 true (by kernel_rfl) (show a.eval (.tmp 28) = (.bool (true && false)) from hk.slot 28 (by kernel_rfl)), rfl⟩
      | false =>
        exact .inr ⟨unwanted_by 28 true (by kernel_rfl) (show a.eval (.tmp 28) = (.bool (false && h2)) from hk.slot 28 (by kernel_rfl)), rfl⟩
    · -- slot 30
      cases h1 with
      | true =>
        cases h2 with
        | true =>
          exact .inl ⟨wanted_by 28 true (by kernel_rfl) (show a.eval (.tmp 28) = (.bool (true && true)) from hk.slot 28 (by kernel_rfl)), q_load (.tmp 29) rfl (show a.eval (.tmp 29) = (.pointer (some ⟨p1, 3, none⟩)) from hk.slot 29 (by kernel_rfl)) (v := (.bool k1)) (fun q => load_at (fun w => by kernel_rfl) (d1 q)) rfl⟩
        | false =>
          exact .inr ⟨unwanted_by 28 true (by kernel_rfl) (show a.eval (.tmp 28) = (.bool (true && false)) from hk.slot 28 (by kernel_rfl)), rfl⟩
      | false =>
        exact .inr ⟨unwanted_by 28 true (by kernel_rfl) (show a.eval (.tmp 28) = (.bool (false && h2)) from hk.slot 28 (by kernel_rfl)), rfl⟩
    · -- slot 31
      cases h1 with
      | true =>
        cases h2 with
        | true =>
          exact .inl ⟨wanted_free rfl, q_pick rfl true (show a.eval (.tmp 28) = (.bool (true && true)) from hk.slot 28 (by kernel_rfl)) (show a.eval (.tmp 30) = (.bool k1) from hk.slot 30 (by kernel_rfl))⟩
        | false =>
          exact .inl ⟨wanted_free rfl, q_pick rfl false (show a.eval (.tmp 28) = (.bool (true && false)) from hk.slot 28 (by kernel_rfl)) rfl⟩
      | false =>
        exact .inl ⟨wanted_free rfl, q_pick rfl false (show a.eval (.tmp 28) = (.bool (false && h2)) from hk.slot 28 (by kernel_rfl)) rfl⟩
    · -- slot 32
      exact .inl ⟨wanted_free rfl, q_move (.tmp 31) rfl (show a.eval (.tmp 31) = (.bool ((h1 && h2) && k1)) from hk.slot 31 (by kernel_rfl))⟩
    · -- slot 33
      cases h1 with
      | true =>
        cases h2 with
        | true =>
          cases k1 with
          | true =>
            exact .inl ⟨wanted_by 32 true (by kernel_rfl) (show a.eval (.tmp 32) = (.bool ((true && true) && true)) from hk.slot 32 (by kernel_rfl)), q_field (.tmp 10) rfl (show a.eval (.tmp 10) = (.pointer (some ⟨p2, 0, none⟩)) from hk.old 10 (by kernel_rfl) (by kernel_rfl)) (v := (.pointer (some ⟨p2, 3, none⟩))) (fun w => by kernel_rfl) rfl⟩
          | false =>
            exact .inr ⟨unwanted_by 32 true (by kernel_rfl) (show a.eval (.tmp 32) = (.bool ((true && true) && false)) from hk.slot 32 (by kernel_rfl)), rfl⟩
        | false =>
          exact .inr ⟨unwanted_by 32 true (by kernel_rfl) (show a.eval (.tmp 32) = (.bool ((true && false) && k1)) from hk.slot 32 (by kernel_rfl)), rfl⟩
      | false =>
        exact .inr ⟨unwanted_by 32 true (by kernel_rfl) (show a.eval (.tmp 32) = (.bool ((false && h2) && k1)) from hk.slot 32 (by kernel_rfl)), rfl⟩
    · -- slot 34
      cases h1 with
      | true =>
        cases h2 with
        | true =>
          cases k1 with
          | true =>
            exact .inl ⟨wanted_by 32 true (by kernel_rfl) (show a.eval (.tmp 32) = (.bool ((true && true) && true)) from hk.slot 32 (by kernel_rfl)), q_load (.tmp 33) rfl (show a.eval (.tmp 33) = (.pointer (some ⟨p2, 3, none⟩)) from hk.slot 33 (by kernel_rfl)) (v := (.bool k2)) (fun q => load_at (fun w => by kernel_rfl) (d2 q)) rfl⟩
          | false =>
            exact .inr ⟨unwanted_by 32 true (by kernel_rfl) (show a.eval (.tmp 32) = (.bool ((true && true) && false)) from hk.slot 32 (by kernel_rfl)), rfl⟩
        | false =>
          exact .inr ⟨unwanted_by 32 true (by kernel_rfl) (show a.eval (.tmp 32) = (.bool ((true && false) && k1)) from hk.slot 32 (by kernel_rfl)), rfl⟩
      | false =>
        exact .inr ⟨unwanted_by 32 true (by kernel_rfl) (show a.eval (.tmp 32) = (.bool ((false && h2) && k1)) from hk.slot 32 (by kernel_rfl)), rfl⟩
    · -- slot 35
      cases h1 with
      | true =>
        cases h2 with
        | true =>
          cases k1 with
          | true =>
            exact .inl ⟨wanted_free rfl, q_pick rfl true (show a.eval (.tmp 32) = (.bool ((true && true) && true)) from hk.slot 32 (by kernel_rfl)) (show a.eval (.tmp 34) = (.bool k2) from hk.slot 34 (by kernel_rfl))⟩
          | false =>
            exact .inl ⟨wanted_free rfl, q_pick rfl false (show a.eval (.tmp 32) = (.bool ((true && true) && false)) from hk.slot 32 (by kernel_rfl)) rfl⟩
        | false =>
          exact .inl ⟨wanted_free rfl, q_pick rfl false (show a.eval (.tmp 32) = (.bool ((true && false) && k1)) from hk.slot 32 (by kernel_rfl)) rfl⟩
      | false =>
        exact .inl ⟨wanted_free rfl, q_pick rfl false (show a.eval (.tmp 32) = (.bool ((false && h2) && k1)) from hk.slot 32 (by kernel_rfl)) rfl⟩
    · -- slot 6
      exact .inl ⟨wanted_free rfl, q_assign (.tmp 35) rfl (show a.eval (.tmp 35) = (.bool (((h1 && h2) && k1) && k2)) from hk.slot 35 (by kernel_rfl))⟩
  intro a ⟨w4, hb4⟩ hsame hall
  have he := act_same hsame [24, 25, 26, 27, 28, 29, 30, 31, 32, 33, 34, 35, 6] (by kernel_rfl)
  simp only [List.foldl_cons, List.foldl_nil] at he
  rw [show a.eval (.tmp 6) = (.bool b) from (hall 6 (by kernel_rfl)).trans (congrArg Value.bool hbb.out.symm)] at he
  generalize a.eval (.tmp 24) = x24 at he
  generalize a.eval (.tmp 25) = x25 at he
  generalize a.eval (.tmp 26) = x26 at he
  generalize a.eval (.tmp 27) = x27 at he
  generalize a.eval (.tmp 28) = x28 at he
  generalize a.eval (.tmp 29) = x29 at he
  generalize a.eval (.tmp 30) = x30 at he
  generalize a.eval (.tmp 31) = x31 at he
  generalize a.eval (.tmp 32) = x32 at he
  generalize a.eval (.tmp 33) = x33 at he
  generalize a.eval (.tmp 34) = x34 at he
  generalize a.eval (.tmp 35) = x35 at he
  simp only [put_lit] at he
  dsimp only [List.set_cons_zero, List.set_cons_succ] at he
  subst he
  clear hsame hall
  have d3 : ∀ q : After w4, q.to.cell? ⟨p1, 2, none⟩ = some (.int .i64 s1) := fun q => After.cell (by rw [World.cell?, blk_stay HXY.out.1 hb4, hs1.out]; rfl) q
  have d4 : ∀ q : After w4, q.to.cell? ⟨p2, 2, none⟩ = some (.int .i64 s2) := fun q => After.cell (by rw [World.cell?, blk_stay HXY.out.2 hb4, hs2.out]; rfl) q
  go_wp2_with fail
  refine wp_region_vals (kp4 p1 p2 s1 s2 b g) (kp4o p1 p2 s1 s2 b g) [6, 8, 10] (by kernel_rfl) (by kernel_rfl) (by kernel_rfl) ⟨rfl, rfl, rfl, trivial⟩ ?_ ?_
  · refine opsAll_cons ?_ (opsAll_cons ?_ (opsAll_cons ?_ (opsAll_cons ?_ (opsAll_cons ?_ (opsAll_cons ?_ (opsAll_cons ?_ (opsAll_cons ?_ (opsAll_cons ?_ (opsAll_cons ?_ (opsAll_cons ?_ (opsAll_cons ?_ (opsAll_cons ?_ opsAll_nil))))))))))))
    all_goals intro a hk
    · -- slot 36
      exact .inl ⟨wanted_free rfl, q_move (.tmp 6) rfl (show a.eval (.tmp 6) = (.bool b) from hk.old 6 (by kernel_rfl) (by kernel_rfl))⟩
    · -- slot 37
      exact .inl ⟨wanted_free rfl, q_move (.tmp 6) rfl (show a.eval (.tmp 6) = (.bool b) from hk.old 6 (by kernel_rfl) (by kernel_rfl))⟩
    · -- slot 38
      exact .inl ⟨wanted_free rfl, q_move (.tmp 37) rfl (show a.eval (.tmp 37) = (.bool b) from hk.slot 37 (by kernel_rfl))⟩
    · -- slot 39
      cases b with
      | true =>
        exact .inl ⟨wanted_by 38 true (by kernel_rfl) (show a.eval (.tmp 38) = (.bool true) from hk.slot 38 (by kernel_rfl)), q_field (.tmp 8) rfl (show a.eval (.tmp 8) = (.pointer (some ⟨p1, 0, none⟩)) from hk.old 8 (by kernel_rfl) (by kernel_rfl)) (v := (.pointer (some ⟨p1, 1, none⟩))) (fun w => by kernel_rfl) rfl⟩
      | false =>
        exact .inr ⟨unwanted_by 38 true (by kernel_rfl) (show a.eval (.tmp 38) = (.bool false) from hk.slot 38 (by kernel_rfl)), rfl⟩
    · -- slot 40
      cases b with
      | true =>
        exact .inl ⟨wanted_by 38 true (by kernel_rfl) (show a.eval (.tmp 38) = (.bool true) from hk.slot 38 (by kernel_rfl)), q_field (.tmp 39) rfl (show a.eval (.tmp 39) = (.pointer (some ⟨p1, 1, none⟩)) from hk.slot 39 (by kernel_rfl)) (v := (.pointer (some ⟨p1, 2, none⟩))) (fun w => by kernel_rfl) rfl⟩
      | false =>
        exact .inr ⟨unwanted_by 38 true (by kernel_rfl) (show a.eval (.tmp 38) = (.bool false) from hk.slot 38 (by kernel_rfl)), rfl⟩
    · -- slot 41
      cases b with
      | true =>
        exact .inl ⟨wanted_by 38 true (by kernel_rfl) (show a.eval (.tmp 38) = (.bool true) from hk.slot 38 (by kernel_rfl)), q_load (.tmp 40) rfl (show a.eval (.tmp 40) = (.pointer (some ⟨p1, 2, none⟩)) from hk.slot 40 (by kernel_rfl)) (v := (.int .i64 s1)) (fun q => load_at (fun w => by kernel_rfl) (d3 q)) rfl⟩
      | false =>
        exact .inr ⟨unwanted_by 38 true (by kernel_rfl) (show a.eval (.tmp 38) = (.bool false) from hk.slot 38 (by kernel_rfl)), rfl⟩
    · -- slot 42
      cases b with
      | true =>
        exact .inl ⟨wanted_by 38 true (by kernel_rfl) (show a.eval (.tmp 38) = (.bool true) from hk.slot 38 (by kernel_rfl)), q_field (.tmp 10) rfl (show a.eval (.tmp 10) = (.pointer (some ⟨p2, 0, none⟩)) from hk.old 10 (by kernel_rfl) (by kernel_rfl)) (v := (.pointer (some ⟨p2, 1, none⟩))) (fun w => by kernel_rfl) rfl⟩
      | false =>
        exact .inr ⟨unwanted_by 38 true (by kernel_rfl) (show a.eval (.tmp 38) = (.bool false) from hk.slot 38 (by kernel_rfl)), rfl⟩
    · -- slot 43
      cases b with
      | true =>
        exact .inl ⟨wanted_by 38 true (by kernel_rfl) (show a.eval (.tmp 38) = (.bool true) from hk.slot 38 (by kernel_rfl)), q_field (.tmp 42) rfl (show a.eval (.tmp 42) = (.pointer (some ⟨p2, 1, none⟩)) from hk.slot 42 (by kernel_rfl)) (v := (.pointer (some ⟨p2, 2, none⟩))) (fun w => by kernel_rfl) rfl⟩
      | false =>
        exact .inr ⟨unwanted_by 38 true (by kernel_rfl) (show a.eval (.tmp 38) = (.bool false) from hk.slot 38 (by kernel_rfl)), rfl⟩
    · -- slot 44
      cases b with
      | true =>
        exact .inl ⟨wanted_by 38 true (by kernel_rfl) (show a.eval (.tmp 38) = (.bool true) from hk.slot 38 (by kernel_rfl)), q_load (.tmp 43) rfl (show a.eval (.tmp 43) = (.pointer (some ⟨p2, 2, none⟩)) from hk.slot 43 (by kernel_rfl)) (v := (.int .i64 s2)) (fun q => load_at (fun w => by kernel_rfl) (d4 q)) rfl⟩
      | false =>
        exact .inr ⟨unwanted_by 38 true (by kernel_rfl) (show a.eval (.tmp 38) = (.bool false) from hk.slot 38 (by kernel_rfl)), rfl⟩
    · -- slot 45
      cases b with
      | true =>
        exact .inl ⟨wanted_by 38 true (by kernel_rfl) (show a.eval (.tmp 38) = (.bool true) from hk.slot 38 (by kernel_rfl)), q_bin rfl (show a.eval (.tmp 41) = (.int .i64 s1) from hk.slot 41 (by kernel_rfl)) (show a.eval (.tmp 44) = (.int .i64 s2) from hk.slot 44 (by kernel_rfl)) (v := .bool (((s1 : Int) == s2))) (fun w => by kernel_rfl) (congrArg Value.bool (hgg.out))⟩
      | false =>
        exact .inr ⟨unwanted_by 38 true (by kernel_rfl) (show a.eval (.tmp 38) = (.bool false) from hk.slot 38 (by kernel_rfl)), rfl⟩
    · -- slot 46
      cases b with
      | true =>
        exact .inl ⟨wanted_free rfl, q_pick rfl true (show a.eval (.tmp 38) = (.bool true) from hk.slot 38 (by kernel_rfl)) (show a.eval (.tmp 45) = (.bool g) from hk.slot 45 (by kernel_rfl))⟩
      | false =>
        exact .inl ⟨wanted_free rfl, q_pick rfl false (show a.eval (.tmp 38) = (.bool false) from hk.slot 38 (by kernel_rfl)) rfl⟩
    · -- slot 6
      exact .inl ⟨wanted_free rfl, q_assign (.tmp 36) rfl (show a.eval (.tmp 36) = (.bool b) from hk.slot 36 (by kernel_rfl))⟩
    · -- slot 7
      exact .inl ⟨wanted_free rfl, q_assign (.tmp 46) rfl (show a.eval (.tmp 46) = (.bool (b && g)) from hk.slot 46 (by kernel_rfl))⟩
  intro a ⟨w5, hb5⟩ hsame hall
  have he := act_same hsame [36, 37, 38, 39, 40, 41, 42, 43, 44, 45, 46, 6, 7] (by kernel_rfl)
  simp only [List.foldl_cons, List.foldl_nil] at he
  rw [show a.eval (.tmp 6) = (.bool b) from hall 6 (by kernel_rfl), show a.eval (.tmp 7) = (.bool c) from (hall 7 (by kernel_rfl)).trans (congrArg Value.bool hcc.out.symm)] at he
  generalize a.eval (.tmp 36) = x36 at he
  generalize a.eval (.tmp 37) = x37 at he
  generalize a.eval (.tmp 38) = x38 at he
  generalize a.eval (.tmp 39) = x39 at he
  generalize a.eval (.tmp 40) = x40 at he
  generalize a.eval (.tmp 41) = x41 at he
  generalize a.eval (.tmp 42) = x42 at he
  generalize a.eval (.tmp 43) = x43 at he
  generalize a.eval (.tmp 44) = x44 at he
  generalize a.eval (.tmp 45) = x45 at he
  generalize a.eval (.tmp 46) = x46 at he
  simp only [put_lit] at he
  dsimp only [List.set_cons_zero, List.set_cons_succ] at he
  subst he
  clear hsame hall
  go_wp2_with fail
  (try simp only [Exit.inBlock, Exit.then])
  refine bodyPost_ret (results_tmp2 rfl _ _ _) rfl ?_
  exact ⟨congrArg Ending.returned (by rw [hRB.out, HRB.out, hRC.out, HRC.out]; rfl), HB2.out.trans ((hb4.trans (hb5.mono hb4.size)).mono HB2.out.size)⟩
end Go.Proofs.YtlholdllibghbaaGreat

/- compat.Survives, compat.Check: walked. -/
namespace Go.Proofs.YtlholdllibghbaaGreat
open Go Go.RowKit Go.Cit

def oddK (V W : CfgV) (x : PtV) : Bool := bothK V.ps W.ps x.id.1 && !sameK V.ps W.ps x.id.1
def checkK (V W : CfgV) : Int := if mayK V W then (if W.ps.any (oddK V W) then 130 else 0) else 2
set_option maxRecDepth 100000 in
set_option maxHeartbeats 4000000 in
theorem ccheck_calls (w : World) (V W : CfgV) (h : V.At w) (k : W.At w) (hs : SmallV V) (ks : SmallV W) : Calls Tryz.prog 76 #[.agg #[.slice V.wa V.ws.length V.wc, .slice V.pa V.ps.length V.pc, .slice V.ca V.cs.length V.cc], .agg #[.slice W.wa W.ws.length W.wc, .slice W.pa W.ps.length W.pc, .slice W.ca W.cs.length W.cc]] w fun e w' => e = .returned (.int .i64 (checkK V W)) ∧ Below w.heap.size w w' := by
  obtain ⟨w0, hw0⟩ : ∃ w0, w0 = (w.alloc (.cells #[.slice V.wa V.ws.length V.wc, .slice V.pa V.ps.length V.pc, .slice V.ca V.cs.length V.cc] 26)).alloc (.cells #[.slice W.wa W.ws.length W.wc, .slice W.pa W.ps.length W.pc, .slice W.ca W.cs.length W.cc] 26) := ⟨_, rfl⟩
  have B0 : Below w.heap.size w w0 := by rw [hw0]; exact ((Below.refl _ w).alloc (Nat.le_refl _) _).alloc (by simp) _
  have hI := two_boxK w V W
  rw [← hw0] at hI
  have HI := Lib.hid hI
  have HV := Lib.hid (h.stay B0)
  have HK := Lib.hid (k.stay B0)
  have HB0 := Lib.hid B0
  have hlen := k.pts.len_le
  have hf := cmay_calls w0 V W (h.stay B0) (k.stay B0) hs ks
  obtain ⟨f2, hf2⟩ : ∃ f, Hid (f = mayK V W) := ⟨_, rfl⟩
  rw [← hf2.out] at hf
  have HF := Lib.hid hf
  obtain ⟨R, hR⟩ : ∃ R, Hid (R = checkK V W) := ⟨_, rfl⟩
  have HR : Hid (R = if f2 then (if W.ps.any (oddK V W) then 130 else 0) else 2) := by rw [Hid, hR.out, hf2.out]; rfl
  rw [← hR.out]
  clear h k B0 hI hf
  obtain ⟨⟨c0, c1, c2⟩, ⟨d0, d1, d2⟩⟩ := HI.out
  cases f2 with
  | false =>
    have HRF : Hid (R = 2) := HR.out
    go_enter Tryz.func76, Tryz.ntmps76
    go_wp2_with fail
    rw [← hw0]
    clear hw0
    refine (HF.out).mono ?_
    rintro e w1 ⟨rfl, hb1⟩
    have HB1 := Lib.hid (HB0.out.trans (hb1.mono HB0.out.size))
    clear hb1 c0 c1 c2 d0 d1 d2
    go_wp2_with fail
    go_ret
    exact ⟨ret_int HRF.out.symm, HB1.out⟩
  | true =>
    have HRF : Hid (R = if W.ps.any (oddK V W) then 130 else 0) := HR.out
    go_enter Tryz.func76, Tryz.ntmps76
    go_wp2_with fail
    rw [← hw0]
    clear hw0
    refine (HF.out).mono ?_
    rintro e w1 ⟨rfl, hb1⟩
    have HB1 := Lib.hid hb1
    clear c0 c1 c2 d0 d1 d2
    obtain ⟨d0, d1, d2⟩ := HI.out.2.keep hb1
    clear hb1
    go_wp2_with fail
    go_loopw [16] (fun i wr => ∃ (j : Nat), i = .int .i64 j ∧ j ≤ W.ps.length ∧ Hid ((W.ps.take j).any (oddK V W) = false) ∧ Below w0.heap.size w0 wr) (fun i _ => W.ps.length - (intOf i).toNat)
    case atStart => exact ⟨0, rfl, Nat.zero_le _, by rw [Hid]; simp, HB1.out⟩
    case round =>
      obtain ⟨j, rfl, hj, HJ, B⟩ := hrel
      have HBw := Lib.hid B
      by_cases hlt : j < W.ps.length
      · have hkw := HK.out.stay B
        have i0 := hkw.pts.index etP j hlt
        obtain ⟨u0, u1, u2, u3, u4⟩ := pts_cells hkw.pts (Below.refl _ _) j hlt
        have HS := Lib.hid (any_take (oddK V W) W.ps j hlt)
        have HMEM : Hid (W.ps[j] ∈ W.ps) := List.getElem_mem hlt
        obtain ⟨x, hx⟩ : ∃ x, Hid (x = W.ps[j]) := ⟨W.ps[j], rfl⟩
        rw [← hx.out] at u0 u1 u2 u3 u4 HS HMEM
        obtain ⟨wb, hwb⟩ : ∃ wb, wb = wr.alloc (.cells (cA x) 46) := ⟨_, rfl⟩
        have hbb : Below wr.heap.size wr wb := by rw [hwb]; exact (Below.refl _ _).alloc (Nat.le_refl _) _
        have HBb := Lib.hid (B.trans (hbb.mono B.size))
        obtain ⟨c0, c1, c2⟩ := HI.out.1.keep HBb.out
        obtain ⟨d0, d1, d2⟩ := HI.out.2.keep HBb.out
        rw [hwb] at c0 c1 c2 d0 d1 d2
        obtain ⟨b1, hb1⟩ : ∃ b, Hid (b = bothK V.ps W.ps x.id.1) := ⟨_, rfl⟩
        obtain ⟨b2, hb2⟩ : ∃ b, Hid (b = sameK V.ps W.ps x.id.1) := ⟨_, rfl⟩
        have hkc := kept_calls wb V W (HV.out.stay HBb.out) (HK.out.stay HBb.out) hs ks x.id.1
        rw [← hb1.out, ← hb2.out] at hkc
        have HKC := Lib.hid hkc
        have HO : Hid (oddK V W x = (b1 && !b2)) := by rw [Hid, hb1.out, hb2.out]; rfl
        clear hkw hbb hkc B
        by_cases hq : (b1 && !b2) = true
        · obtain ⟨rfl, rfl⟩ : b1 = true ∧ b2 = false := by cases b1 <;> cases b2 <;> simp_all
          have HRT : Hid (R = 130) := by
            rw [Hid, HRF.out, if_pos]
            rw [List.any_eq_true]; exact ⟨x, HMEM.out, HO.out⟩
          clear hq
          go_wp2_with fail
          rw [← hwb]
          clear hwb
          refine (HKC.out).mono ?_
          rintro e w5 ⟨rfl, hb5⟩
          have HB5 := Lib.hid (HB0.out.trans ((HBb.out.trans (hb5.mono HBb.out.size)).mono HB0.out.size))
          clear hb5 c0 c1 c2 d0 d1 d2
          go_wp2_with fail
          go_ret
          exact ⟨ret_int HRT.out.symm, HB5.out⟩
        · have HJ2 : Hid ((W.ps.take (j + 1)).any (oddK V W) = false) := by rw [Hid, HS.out, HJ.out, HO.out]; simpa using hq
          have hq2 : b1 = false ∨ b2 = true := by cases b1 <;> cases b2 <;> simp_all
          clear hq
          rcases hq2 with rfl | rfl
          · go_wp2_with fail
            rw [← hwb]
            clear hwb
            refine (HKC.out).mono ?_
            rintro e w5 ⟨rfl, hb5⟩
            have HB5 := Lib.hid (HBb.out.trans (hb5.mono HBb.out.size))
            clear hb5 c0 c1 c2 d0 d1 d2
            go_wp2_with fail
            go_roundw
            case rel => exact ⟨j + 1, by go_num, by omega, HJ2.out, HB5.out⟩
            case measure => simp [intOf]; omega
          · go_wp2_with fail
            rw [← hwb]
            clear hwb
            refine (HKC.out).mono ?_
            rintro e w5 ⟨rfl, hb5⟩
            have HB5 := Lib.hid (HBb.out.trans (hb5.mono HBb.out.size))
            clear hb5 c0 c1 c2 d0 d1 d2
            cases b1
            · go_wp2_with fail
              go_roundw
              case rel => exact ⟨j + 1, by go_num, by omega, HJ2.out, HB5.out⟩
              case measure => simp [intOf]; omega
            · go_wp2_with fail
              go_roundw
              case rel => exact ⟨j + 1, by go_num, by omega, HJ2.out, HB5.out⟩
              case measure => simp [intOf]; omega
      · have hk2 : j = W.ps.length := by omega
        have HRT : Hid (R = 0) := by
          have := HJ.out
          rw [hk2, List.take_length] at this
          rw [Hid, HRF.out, this]; rfl
        have HB5 := Lib.hid (HB0.out.trans (HBw.out.mono HB0.out.size))
        clear hk2 B
        go_wp2_with fail
        go_ret
        exact ⟨ret_int HRT.out.symm, HB5.out⟩
end Go.Proofs.YtlholdllibghbaaGreat

/- What citadelref13.Check answers. -/
namespace Go.Proofs.YtlholdllibghbaaGreat
open Go Go.RowKit Go.Cit

def oddR (V W : CfgV) (j : Nat) : Bool := bothK V.ps W.ps (j + 1 : Nat) && !sameK V.ps W.ps (j + 1 : Nat)
def rcheckK (V W : CfgV) : Int := if mayK V W then (if (List.range 6).any (oddR V W) then 130 else 0) else 2
end Go.Proofs.YtlholdllibghbaaGreat

/- What valid says hangs on the configuration alone, not on where it lies. -/
namespace Go.Proofs.YtlholdllibghbaaGreat
open Go Go.RowKit Go.Cit

def bareP (p : Pt) : PtV := ⟨p.id, p.reg, p.keep, none, p.img, 0⟩
def bareV (V : CfgV) : CfgV := { V with wa := none, wc := 0, pa := none, ps := V.ps.map fun x => bareP x.pt, pc := 0, ca := none, cc := 0 }
theorem hasP_bare (ps : List PtV) (id : Int) : hasP (ps.map fun x => bareP x.pt) id = hasP ps id := by
  unfold hasP; rw [List.any_map]; rfl
theorem regionsBad_bare (ps : List PtV) : regionsBad (ps.map fun x => bareP x.pt) = regionsBad ps := by
  unfold regionsBad; rw [List.any_map]; rfl
theorem ascP_bare (ps : List PtV) : ∀ m, ascP m (ps.map fun x => bareP x.pt) = ascP m ps := by
  induction ps with
  | nil => intro m; rfl
  | cons x ps ih => intro m; rw [List.map_cons]; unfold ascP; rw [ih]; rfl
theorem okRegs_bare (ps : List PtV) : okRegs (ps.map fun x => bareP x.pt) = okRegs ps := by
  unfold okRegs
  rw [List.filter_map, List.map_map]
  rfl
theorem errs_bare (V : CfgV) : errs (bareV V) = errs V := by
  have h1 : windowsBad (bareV V) = windowsBad V := by
    unfold windowsBad
    congr 2
    funext x
    simp [winBad, bareV, hasP_bare]
  have h2 : partsBad (bareV V).ps = partsBad V.ps := by
    unfold partsBad bareV
    dsimp only
    rw [ascP_bare, List.length_map]
  have h3 : regionsBad (bareV V).ps = regionsBad V.ps := regionsBad_bare V.ps
  have h4 : overlapBad (bareV V).ps = overlapBad V.ps := by
    unfold overlapBad bareV
    dsimp only
    rw [okRegs_bare]
  have h5 : channelsBad (bareV V) = channelsBad V := by
    have e : chBad (bareV V) = chBad V := by
      funext x
      simp [chBad, bareV, hasP_bare]
    unfold channelsBad
    rw [e]
    rfl
  unfold errs errsTo bads
  rw [h1, h2, h3, h4, h5]
theorem errs_cfg {V U : CfgV} (h : U.cfg = V.cfg) : errs U = errs V := by
  rw [← errs_bare U, ← errs_bare V]
  congr 1
  simp only [CfgV.cfg, Cfg.mk.injEq] at h
  obtain ⟨h1, h2, h3⟩ := h
  unfold bareV
  have e : (U.ps.map fun x => bareP x.pt) = (V.ps.map fun x => bareP x.pt) := by
    have := congrArg (List.map bareP) h2
    rw [List.map_map, List.map_map] at this
    exact this
  rw [h1, h3, e]
end Go.Proofs.YtlholdllibghbaaGreat

