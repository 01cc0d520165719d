/- ValidGone: walked. -/
import Derived.Test.YtpnbaapjjchlbaaGonePlain
import Derived.Test.YtpnbaapjjchlbaaLawValidChecks
import Derived.Test.YtpnbaapjjchlbaaAwk12
import Derived.Test.YtpnbaapjjchlbaaLawValid1
import Derived.Test.YtpnbaapjjchlbaaDel
import Derived.Test.YtpnbaapjjchlbaaTwo
import Derived.Deep.CutBlock
import Derived.Deep.DeepCutAuto
namespace Go.Proofs.Ytpnbaapjjchlbaa
open Go Go.RowKit Go.Cit

def vg6 (U : CfgV) (g y k : Nat) : Nat → Value
  | 40 => (.pointer (some ⟨y, 1, none⟩))
  | 41 => (.slice (some ⟨g, 0, none⟩) U.ps.length U.pc)
  | 42 => (.int .i64 (k : Int))
  | 43 => (.slice (some ⟨g, 0, none⟩) k U.pc)
  | 44 => (.pointer (some ⟨y, 1, none⟩))
  | 45 => (.slice (some ⟨g, 0, none⟩) U.ps.length U.pc)
  | 46 => (.int .i64 (k : Int))
  | 47 => (.int .i64 ((k + 1 : Nat) : Int))
  | 48 => (.slice (behindA g 5 U.pc (k + 1)) (U.ps.length - (k + 1)) (U.pc - (k + 1)))
  | 49 => (.slice (some ⟨g, 0, none⟩) (U.ps.length - 1) U.pc)
  | 50 => (.pointer (some ⟨y, 1, none⟩))
  | _ => undef
def vg6o (_ : CfgV) (_ y k : Nat) : Nat → Value
  | 5 => (.int .i64 (k : Int))
  | 7 => (.pointer (some ⟨y, 0, none⟩))
  | _ => undef

theorem own_addr {α : Type} {f : α → List Value} {n E B : Nat} {w : World} {a : Option Addr} {l : List α} {c : Nat} (h : VOwn f n E B w a l c) (hl : l ≠ []) : ∃ g, a = some ⟨g, 0, none⟩ ∧ B ≤ g ∧ g < w.heap.size := by
  rcases h.row.2 with ⟨hv, h0⟩ | ⟨g, c', cur, hv, hB, hg, _⟩
  · exact absurd (List.eq_nil_of_length_eq_zero h0) hl
  · injection hv with h1
    exact ⟨g, h1, hB, (Array.getElem?_eq_some_iff.1 hg).1⟩
/-- A configuration of one's own in which the partitions have been moved. -/
theorem less_at {B : Nat} {w wx : World} {U : CfgV} {g y k : Nat} {cs : Array Value} {fr : Nat × Nat} (h : OwnedV B w U) (hpa : U.pa = some ⟨g, 0, none⟩) (hne : U.ps ≠ []) (hy : w.heap[y]? = some (.cells cs 26 fr)) (hs : Save (fun j => j ≠ g ∧ j ≠ y) w wx) (hv : Vec cPt 5 wx (some ⟨g, 0, none⟩) (U.ps.eraseIdx k) U.pc) : (lessV U k).At wx := by
  obtain ⟨cur, hg⟩ := vown_block h.pts (g := g) (by rw [hpa]; rfl)
  refine ⟨(h.win.save hs fun j hj => ⟨vown_ne h.win hg neWP j hj, vown_ne h.win hy neW j hj⟩).vec cWin_len, ?_, (h.chs.save hs fun j hj => ⟨vown_ne h.chs hg neCP j hj, vown_ne h.chs hy neC j hj⟩).vec cCh_len, fun x hx => ?_⟩
  · show Vec cPt 5 wx U.pa _ U.pc
    rw [hpa]; exact hv
  · have hx' := h.img x (List.mem_of_mem_eraseIdx hx)
    exact (hx'.save hs fun j hj => ⟨ownb_bx hx' hg neUP j hj, ownb_bx hx' hy neU j hj⟩).isRow
set_option maxRecDepth 100000 in
set_option maxHeartbeats 4000000 in
theorem validGone_in (w : World) (V : CfgV) (wh : Int) (h : V.At w) (hb : ∀ x ∈ V.ps, x.img.length ≤ 140737488351232) (hg : greatV V = false) (he : errs V = []) (h2 : 2 ≤ V.ps.length) : Calls Try.prog 6 #[.agg #[.slice V.wa V.ws.length V.wc, .slice V.pa V.ps.length V.pc, .slice V.ca V.cs.length V.cc], .int .i64 wh] w fun e w' => e = .returned (.bool true) ∧ Below w.heap.size w w' := by
  have GO := Lib.hid (good_iff.1 he)
  have hs := small_of hg
  obtain ⟨w0, hw0⟩ : ∃ w0, w0 = w.alloc (.cells #[.slice V.wa V.ws.length V.wc, .slice V.pa V.ps.length V.pc, .slice V.ca V.cs.length V.cc] 26) := ⟨_, rfl⟩
  have B0 : Below w.heap.size w w0 := by rw [hw0]; exact (Below.refl _ w).alloc (Nat.le_refl _) _
  have hI : InBox w0 w.heap.size V := by rw [hw0]; exact inBox_new w V _
  have HV := Lib.hid (h.stay B0)
  have HI := Lib.hid hI
  have HB0 := Lib.hid B0
  have hc := cgreat_calls w0 V (h.stay B0) hb
  rw [hg] at hc
  have HC := Lib.hid hc
  have HE := Lib.hid he
  have hl2 := h.pts.len_le
  have hl1 := h.win.len_le
  have hl3 := h.chs.len_le
  clear h B0 hI hg hb hc he
  go_enter Try.func6, Try.ntmps6
  go_wp2_with fail
  rw [← hw0]
  clear hw0
  refine (HC.out).mono ?_
  rintro e w1 ⟨rfl, hb1⟩
  have hf := fits_calls w1 V (HV.out.stay hb1) hs
  rw [show fitsV V = true by unfold fitsV; rw [HE.out]; rfl] at hf
  have HFC := Lib.hid hf
  obtain ⟨c0, c1, c2⟩ := HI.out.keep hb1
  have HB1 := Lib.hid hb1
  clear hb1 hf HC
  go_wp2_with fail
  refine (HFC.out).mono ?_
  rintro e w2 ⟨rfl, hb2⟩
  have HB2 := Lib.hid (HB1.out.trans (hb2.mono HB1.out.size))
  clear hb2 c0 c1 c2 HFC HB1
  obtain ⟨c0, c1, c2⟩ := HI.out.keep HB2.out
  have t0 : decide ((V.ps.length : Int) < 2) = false := by rw [decide_eq_false_iff_not]; omega
  go_upto_region 4 with fail
  obtain ⟨k, hk, ek⟩ := pick_of wh V.ps.length (by omega) (by have := GO.out.few; omega)
  rw [ek]
  have HK := Lib.hid hk
  have i0 := HV.out.pts.index etP k hk
  obtain ⟨z, hz⟩ : ∃ z, Hid (z = V.ps[k].id.1) := ⟨V.ps[k].id.1, rfl⟩
  have u0 : w2.cell? (ad V.pa (k * 5)) = some (.int .i64 z) := by rw [hz.out]; exact (pts_cells HV.out.pts HB2.out k hk).1
  have HLE2 := Lib.hid (less_errs_at GO.out hk h2 hz.out)
  have HTP := Lib.hid (ticks_pos GO.out z)
  have HCP := Lib.hid (copied_calls w2 V (HV.out.stay HB2.out) hs)
  clear ek t0
  go_wp2_with fail
  refine (HCP.out).mono ?_
  rintro e w3 ⟨U, rfl, hU, hO, hb3⟩
  have HU := Lib.hid hU
  have HUL : Hid (U.ps.length = V.ps.length) := by
    have := congrArg (fun c => c.parts.length) hU
    rw [Hid]; simpa [CfgV.cfg] using this
  have HSV : Hid (SmallV U) := small_cfg hU hs
  have hne : U.ps ≠ [] := by intro h0; have := HUL.out; rw [h0] at this; simp at this; omega
  obtain ⟨g, hpa, hgB, hg3⟩ := own_addr hO.pts hne
  have HB3 := Lib.hid (HB2.out.trans (hb3.mono HB2.out.size))
  obtain ⟨wA, hwA⟩ : ∃ wA, wA = w3.alloc (.cells #[.slice U.wa U.ws.length U.wc, .slice (some ⟨g, 0, none⟩) U.ps.length U.pc, .slice U.ca U.cs.length U.cc] 26) := ⟨_, rfl⟩
  obtain ⟨y, hy⟩ : ∃ y, y = w3.heap.size := ⟨_, rfl⟩
  have hbA : Below w3.heap.size w3 wA := by rw [hwA]; exact (Below.refl _ w3).alloc (Nat.le_refl _) _
  have HBA := Lib.hid (HB3.out.trans (hbA.mono HB3.out.size))
  have HBY : Hid (wA.heap[y]? = some (.cells #[.slice U.wa U.ws.length U.wc, .slice (some ⟨g, 0, none⟩) U.ps.length U.pc, .slice U.ca U.cs.length U.cc] 26 (0, 0))) := by rw [hwA, hy]; exact heap_alloc_new _ _
  have hOA := hO.stay hbA
  have hop := hOA.pts
  rw [hpa] at hop
  have HOP := Lib.hid hop
  have HY : Hid (y ≠ g ∧ y < wA.heap.size) := by
    refine ⟨by omega, ?_⟩
    exact (Array.getElem?_eq_some_iff.1 HBY.out).1
  have HGY : Hid (w0.heap.size ≤ g ∧ w0.heap.size ≤ y) := ⟨Nat.le_trans HB2.out.size hgB, by rw [hy]; exact HB3.out.size⟩
  have HLE : Hid (U.ps.length ≤ U.pc ∧ U.pc ≤ maxLen) := ⟨(hop.vec cPt_len).le, (hop.vec cPt_len).top⟩
  have HOA := Lib.hid (And.intro hOA (And.intro hpa hne))
  rw [hpa]
  clear hU hO hb3 HCP c0 c1 c2 i0 u0 HB2 hop hOA hpa hne hgB hg3 hbA
  go_upto_region 6 with fail
  rw [← hwA, ← hy]
  clear hwA hy
  have d1 : wA.cell? ⟨y, 1, none⟩ = some (.slice (some ⟨g, 0, none⟩) U.ps.length U.pc) := by rw [World.cell?, HBY.out]; rfl
  refine wp_region_two (vg6 U g y k) (vg6o U g y k) [5, 7] 9 11 (fun wx => Vec cPt 5 wx (some ⟨g, 0, none⟩) (U.ps.eraseIdx k) U.pc ∧ Save (· ≠ g) wA wx) (fun wx => Vec cPt 5 wx (some ⟨g, 0, none⟩) (U.ps.eraseIdx k) U.pc ∧ Save (fun j => j ≠ g ∧ j ≠ y) wA wx ∧ wx.heap[y]? = some (.cells (#[.slice U.wa U.ws.length U.wc, .slice (some ⟨g, 0, none⟩) U.ps.length U.pc, .slice U.ca U.cs.length U.cc].setIfInBounds 1 (.slice (some ⟨g, 0, none⟩) (U.ps.length - 1) U.pc)) 26 (0, 0))) (by kernel_rfl) (by kernel_rfl) (by kernel_rfl) (by decide) ⟨rfl, rfl, trivial⟩ ?_ ?_
  · refine opsAll_cons ?_ (opsAll_cons ?_ (opsAll_cons ?_ (opsAll_cons ?_ (opsAll_cons ?_ (opsAll_cons ?_ (opsAll_cons ?_ (opsAll_cons ?_ (opsAll_cons ?_ (opsAll_cons ?_ (opsAll_cons ?_ (opsAll_cons ?_ opsAll_nil)))))))))))
    all_goals intro a hk
    · exact ⟨wanted_free rfl, .inr (.inr ⟨by decide, by decide, fun wx hst hst2 => gp_field (.tmp 7) rfl (show a.eval (.tmp 7) = (.pointer (some ⟨y, 0, none⟩)) from hk.old 7 (by kernel_rfl)) (v := (.pointer (some ⟨y, 1, none⟩))) (fun w => by kernel_rfl) ⟨rfl, rfl⟩⟩)⟩
    · exact ⟨wanted_free rfl, .inr (.inr ⟨by decide, by decide, fun wx hst hst2 => gp_load (.tmp 40) rfl (show a.eval (.tmp 40) = (.pointer (some ⟨y, 1, none⟩)) from hk.slot 40 (by kernel_rfl)) (v := (.slice (some ⟨g, 0, none⟩) U.ps.length U.pc)) ((fun (q : After _) => load_at (fun w => by kernel_rfl) (keep q.bel d1)) ⟨wx, (hst (by kernel_rfl)).1⟩) ⟨rfl, rfl⟩⟩)⟩
    · exact ⟨wanted_free rfl, .inr (.inr ⟨by decide, by decide, fun wx hst hst2 => gp_move (.tmp 5) rfl ⟨rfl, (show a.eval (.tmp 5) = (.int .i64 (k : Int)) from hk.old 5 (by kernel_rfl))⟩⟩)⟩
    · exact ⟨wanted_free rfl, .inr (.inr ⟨by decide, by decide, fun wx hst hst2 => gp_slice rfl (show a.eval (.tmp 41) = (.slice (some ⟨g, 0, none⟩) U.ps.length U.pc) from hk.slot 41 (by kernel_rfl)) rfl (congrArg some (show a.eval (.tmp 42) = (.int .i64 (k : Int)) from hk.slot 42 (by kernel_rfl))) rfl (run_upto etP g U.ps.length U.pc k (by have := HK.out; have := HUL.out; omega) HLE.out.1 HLE.out.2) ⟨rfl, rfl⟩⟩)⟩
    · exact ⟨wanted_free rfl, .inr (.inr ⟨by decide, by decide, fun wx hst hst2 => gp_field (.tmp 7) rfl (show a.eval (.tmp 7) = (.pointer (some ⟨y, 0, none⟩)) from hk.old 7 (by kernel_rfl)) (v := (.pointer (some ⟨y, 1, none⟩))) (fun w => by kernel_rfl) ⟨rfl, rfl⟩⟩)⟩
    · exact ⟨wanted_free rfl, .inr (.inr ⟨by decide, by decide, fun wx hst hst2 => gp_load (.tmp 44) rfl (show a.eval (.tmp 44) = (.pointer (some ⟨y, 1, none⟩)) from hk.slot 44 (by kernel_rfl)) (v := (.slice (some ⟨g, 0, none⟩) U.ps.length U.pc)) ((fun (q : After _) => load_at (fun w => by kernel_rfl) (keep q.bel d1)) ⟨wx, (hst (by kernel_rfl)).1⟩) ⟨rfl, rfl⟩⟩)⟩
    · exact ⟨wanted_free rfl, .inr (.inr ⟨by decide, by decide, fun wx hst hst2 => gp_move (.tmp 5) rfl ⟨rfl, (show a.eval (.tmp 5) = (.int .i64 (k : Int)) from hk.old 5 (by kernel_rfl))⟩⟩)⟩
    · exact ⟨wanted_free rfl, .inr (.inr ⟨by decide, by decide, fun wx hst hst2 => gp_bin rfl (show a.eval (.tmp 46) = (.int .i64 (k : Int)) from hk.slot 46 (by kernel_rfl)) rfl (v := (.int .i64 ((k + 1 : Nat) : Int))) (fun w => by have := HK.out; go_simp; exact (IntWalk.i64_in _ (by omega)).trans (by omega)) ⟨rfl, rfl⟩⟩)⟩
    · exact ⟨wanted_free rfl, .inr (.inr ⟨by decide, by decide, fun wx hst hst2 => gp_slice rfl (show a.eval (.tmp 45) = (.slice (some ⟨g, 0, none⟩) U.ps.length U.pc) from hk.slot 45 (by kernel_rfl)) (congrArg some (show a.eval (.tmp 47) = (.int .i64 ((k + 1 : Nat) : Int)) from hk.slot 47 (by kernel_rfl))) rfl rfl (run_behind etP g U.ps.length U.pc k (by have := HK.out; have := HUL.out; omega) HLE.out.1 HLE.out.2) ⟨rfl, rfl⟩⟩)⟩
    · refine ⟨wanted_free rfl, .inl ⟨rfl, fun wx hst => ?_⟩⟩
      obtain ⟨w', hr, hv, hsv⟩ := run_del etP cPt_len cPt_one 23 (HOP.out.stay hst.1) (show k < U.ps.length by have := HK.out; have := HUL.out; omega) (behindA g 5 U.pc (k + 1)) (fun hlt => behindA_at hlt HLE.out.1) (behindA_some _ _ _ _) (U.pc - (k + 1))
      exact gp_run (exec_append rfl (hk.slot 43 (by kernel_rfl)) (hk.slot 48 (by kernel_rfl)) hr) ⟨⟨hv, (Save.of hst.1).trans hsv⟩, rfl⟩
    · exact ⟨wanted_free rfl, .inr (.inr ⟨by decide, by decide, fun wx hst hst2 => gp_field (.tmp 7) rfl (show a.eval (.tmp 7) = (.pointer (some ⟨y, 0, none⟩)) from hk.old 7 (by kernel_rfl)) (v := (.pointer (some ⟨y, 1, none⟩))) (fun w => by kernel_rfl) ⟨rfl, rfl⟩⟩)⟩
    · refine ⟨wanted_free rfl, .inr (.inl ⟨rfl, fun wx hst => ?_⟩)⟩
      have hb := (hst.2.block y HY.out.2 HY.out.1).trans HBY.out
      exact gp_store (.tmp 50) (.tmp 49) rfl (hk.slot 50 (by kernel_rfl)) (hk.slot 49 (by kernel_rfl)) (store_slice (fun w => by kernel_rfl) (by rw [World.cell?, hb]; rfl) (by rw [World.frozen?, hb]; rfl)) ⟨⟨hst.1.save cPt_len (Save.set (b := y) (i := 1)) (fun _ j hj => by simp [blk] at hj; have := HY.out.1; omega), (hst.2.less (fun _ _ hj => hj.1)).trans ((Save.set (b := y) (i := 1)).less (fun _ _ hj => hj.2)), setCell_blk _ hb⟩, trivial⟩
  intro a wz hfin hsame hall
  have he := act_same hsame [40, 41, 42, 43, 44, 45, 46, 47, 48, 49, 50] (by kernel_rfl)
  simp only [List.foldl_cons, List.foldl_nil] at he
  generalize a.eval (.tmp 40) = y40 at he
  generalize a.eval (.tmp 41) = y41 at he
  generalize a.eval (.tmp 42) = y42 at he
  generalize a.eval (.tmp 43) = y43 at he
  generalize a.eval (.tmp 44) = y44 at he
  generalize a.eval (.tmp 45) = y45 at he
  generalize a.eval (.tmp 46) = y46 at he
  generalize a.eval (.tmp 47) = y47 at he
  generalize a.eval (.tmp 48) = y48 at he
  generalize a.eval (.tmp 49) = y49 at he
  generalize a.eval (.tmp 50) = y50 at he
  simp only [put_lit] at he
  dsimp only [List.set_cons_zero, List.set_cons_succ] at he
  subst he
  clear hsame hall
  have hLA := less_at HOA.out.1 HOA.out.2.1 HOA.out.2.2 HBY.out hfin.2.1 hfin.1
  have HLA := Lib.hid hLA
  have hXY := hfin.2.2
  have HXY : Hid (wz.heap[y]? = some (bxO (lessV U k))) := by
    rw [Hid, hXY]
    show _ = some (Obj.cells #[.slice U.wa U.ws.length U.wc, .slice U.pa (U.ps.eraseIdx k).length U.pc, .slice U.ca U.cs.length U.cc] 26 (0, 0))
    rw [HOA.out.2.1, List.length_eraseIdx_of_lt (by have := HK.out; have := HUL.out; omega)]
    rfl
  have HBZ : Hid (Below w0.heap.size w0 wz) := HBA.out.trans (hfin.2.1.below HBA.out.size (fun j hj => by have := HGY.out; omega))
  have HSU : Hid (SmallV (lessV U k)) := ⟨HSV.out.win, Nat.le_trans (List.length_eraseIdx_le _ _) HSV.out.pts, HSV.out.chs, fun x hx => HSV.out.img x (List.mem_of_mem_eraseIdx hx)⟩
  have HCF := Lib.hid (less_cfg HU.out k)
  clear hfin hLA hXY HBA HOA HOP HGY HY HLE HBY d1
  obtain ⟨c0, c1, c2⟩ := HI.out.keep HBZ.out
  obtain ⟨tk, htk⟩ : ∃ t, Hid (t = ticksL V.ws z) := ⟨_, rfl⟩
  have ht := ticks_calls wz V.wa V.ws V.wc ((HV.out.stay HBZ.out).win) z
  rw [← htk.out] at ht HTP
  have HTC := Lib.hid ht
  obtain ⟨nw, hnw⟩ : ∃ b, Hid (b = namesW V z) := ⟨_, rfl⟩
  obtain ⟨nc, hnc⟩ : ∃ b, Hid (b = namesC V z) := ⟨_, rfl⟩
  rw [← hnw.out] at HTP
  rw [← hnw.out, ← hnc.out] at HLE2
  clear ht
  go_wp2_with fail
  refine (HTC.out).mono ?_
  rintro e wt ⟨rfl, hbt⟩
  have HBT := Lib.hid (HBZ.out.trans (hbt.mono HBZ.out.size))
  have HBtz := Lib.hid hbt
  clear hbt HTC c0 c1 c2
  go_upto_if 55 with fail
  go_cut [8] (fun s8 wx => ∃ (a : Option Addr) (L : List Int) (c : Nat), s8 = .slice a L.length c ∧ Hid (L = if nw then [90] else []) ∧ VOwn cZ 1 33 wz.heap.size wx a L c ∧ Below wz.heap.size wz wx)
  case first =>
    have HON := Lib.hid (VOwn.nil_ cZ 1 33 wz.heap.size wt)
    have t1 := HTP.out
    have t2 : decide (0 < tk) = nw := by rw [← t1]; exact decide_eq_decide.2 (by omega)
    cases nw with
    | true =>
      have t3 : 0 < tk := of_decide_eq_true t2
      go_wp2_with ((with_reducible refine wpList_vapp1 (o := ⟨some 58, .call _, _, _, _, _⟩) etE cZ_len cZ_one (l := []) (y := 90) (.tmp 56) (.tmp 57) (by with_unfolding_all rfl) (by with_unfolding_all rfl) HON.out (by with_unfolding_all rfl) (by decide) HBtz.out.size (by with_unfolding_all rfl) (by with_unfolding_all rfl) ?_); intro a4 c4 w4 hO4 hg4 hn4; have HO4 := Lib.hid (And.intro hO4 (HBtz.out.trans (HON.out.grown hg4 HBtz.out.size))); clear hO4 hg4 hn4)
      go_meet
      exact ⟨a4, [90], c4, rfl, rfl, HO4.out.1, HO4.out.2⟩
    | false =>
      have t3 : ¬ 0 < tk := of_decide_eq_false t2
      go_wp2_with fail
      go_meet
      exact ⟨none, [], 0, rfl, rfl, HON.out, HBtz.out⟩
  case rest =>
    obtain ⟨a8, M, c8, rfl, HM, hO8, hb8⟩ := hcut
    have HO8 := Lib.hid hO8
    have HB8 := Lib.hid hb8
    have HML : Hid (M.length ≤ 1) := by rw [Hid, HM.out]; split <;> decide
    clear hO8 hb8
    go_wp2_with fail
    go_loopw [8, 9] (fun s i wr => ∃ (j : Nat), s = .slice a8 M.length c8 ∧ i = .int .i64 j ∧ j ≤ V.cs.length ∧ Hid ((V.cs.take j).any (fun x => decide (x.src.1 = z) || decide (x.dst.1 = z)) = false) ∧ Below wc.heap.size wc wr) (fun _ i _ => V.cs.length - (intOf i).toNat)
    case atStart => exact ⟨0, rfl, rfl, Nat.zero_le _, by rw [Hid]; simp, Below.refl _ _⟩
    case round =>
      obtain ⟨j, rfl, rfl, hj, HJ, B⟩ := hrel
      have HBC := Lib.hid B
      have HBzr := Lib.hid (HB8.out.trans (B.mono HB8.out.size))
      have HBR := Lib.hid (HBZ.out.trans (HBzr.out.mono HBZ.out.size))
      have HOr := Lib.hid (HO8.out.stay B)
      obtain ⟨c0, c1, c2⟩ := HI.out.keep HBR.out
      clear B
      by_cases hlt : j < V.cs.length
      · have i0 := HV.out.chs.index etC j hlt
        have u1 := (HV.out.chs.stay cCh_len HBR.out).field j hlt 1 (by decide) rfl
        have u2 := (HV.out.chs.stay cCh_len HBR.out).field j hlt 2 (by decide) rfl
        have HS := Lib.hid (any_take (fun x : Ch => decide (x.src.1 = z) || decide (x.dst.1 = z)) V.cs j hlt)
        have HMEM : Hid (V.cs[j] ∈ V.cs) := List.getElem_mem hlt
        obtain ⟨x, hx⟩ : ∃ x, Hid (x = V.cs[j]) := ⟨V.cs[j], rfl⟩
        rw [← hx.out] at u1 u2 HS HMEM
        by_cases hq : x.src.1 = z ∨ x.dst.1 = z
        · have HN : Hid (nc = true) := by
            rw [Hid, hnc.out]; unfold namesC; rw [List.any_eq_true]
            exact ⟨x, HMEM.out, by rcases hq with h | h <;> simp [h]⟩
          obtain ⟨M2, hM2⟩ : ∃ M2, Hid (M2 = M ++ [(100 : Int)]) := ⟨_, rfl⟩
          have HW : Hid (M2 = (if nw then [90] else []) ++ (if nc then [100] else [])) := by rw [Hid, hM2.out, HN.out, HM.out]; rfl
          have t1 : (x.src.1 == z) = decide (x.src.1 = z) := by rw [Bool.eq_iff_iff]; simp
          have HQ := Lib.hid hq
          have HXD := Lib.hid (HXY.out)
          have AWK := fun W => awake_is W
          clear hq t1
          rcases HQ.out with e1 | e1
          · have t1 : (x.src.1 == z) = true := by rw [e1]; simp
            have t3 : decide (x.src.1 = z) = true := decide_eq_true e1
            clear e1
            go_wp2_with ((with_reducible refine wpList_vapp1 (o := ⟨some 86, .call _, _, _, _, _⟩) etE cZ_len cZ_one (y := 100) (.tmp 84) (.tmp 85) (by with_unfolding_all rfl) (by with_unfolding_all rfl) HOr.out (by with_unfolding_all rfl) (by have := HML.out; omega) HBzr.out.size (by with_unfolding_all rfl) (by with_unfolding_all rfl) ?_)
                         intro a4 c4 w4 hO4 hg4 hn4
                         rw [← hM2.out] at hO4 ⊢
                         have hbz4 := HBzr.out.trans (HOr.out.grown hg4 HBzr.out.size)
                         have HO4 := Lib.hid (And.intro hO4 hbz4)
                         have hi := is_calls w4 (lessV U k) (HLA.out.stay hbz4) HSU.out a4 M2 c4 (hO4.vec cZ_len)
                         rw [errs_cfg HCF.out, HLE2.out, decide_eq_true HW.out.symm] at hi
                         have HIC := Lib.hid hi
                         obtain ⟨d0, d1, d2⟩ := in_of (blk_stay HXY.out hbz4)
                         clear hO4 hg4 hn4 hbz4 hi)
            refine (HIC.out).mono ?_
            rintro e w7 ⟨rfl, hb7⟩
            have HB7 := Lib.hid (HBZ.out.trans ((HO4.out.2.trans (hb7.mono HO4.out.2.size)).mono HBZ.out.size))
            have HAW := Lib.hid (awake_is w7)
            clear hb7 d0 d1 d2
            go_wp2_with fail
            refine (HAW.out).mono ?_
            rintro e w8 ⟨rfl, hb8⟩
            have HB9 := Lib.hid (HB0.out.trans ((HB7.out.trans (hb8.mono HB7.out.size)).mono HB0.out.size))
            clear hb8
            go_wp2_with fail
            go_ret
            exact ⟨rfl, HB9.out⟩
          · by_cases e2 : x.src.1 = z
            · have t1 : (x.src.1 == z) = true := by rw [e2]; simp
              have t3 : decide (x.src.1 = z) = true := decide_eq_true e2
              clear e1 e2
              go_wp2_with ((with_reducible refine wpList_vapp1 (o := ⟨some 86, .call _, _, _, _, _⟩) etE cZ_len cZ_one (y := 100) (.tmp 84) (.tmp 85) (by with_unfolding_all rfl) (by with_unfolding_all rfl) HOr.out (by with_unfolding_all rfl) (by have := HML.out; omega) HBzr.out.size (by with_unfolding_all rfl) (by with_unfolding_all rfl) ?_)
                           intro a4 c4 w4 hO4 hg4 hn4
                           rw [← hM2.out] at hO4 ⊢
                           have hbz4 := HBzr.out.trans (HOr.out.grown hg4 HBzr.out.size)
                           have HO4 := Lib.hid (And.intro hO4 hbz4)
                           have hi := is_calls w4 (lessV U k) (HLA.out.stay hbz4) HSU.out a4 M2 c4 (hO4.vec cZ_len)
                           rw [errs_cfg HCF.out, HLE2.out, decide_eq_true HW.out.symm] at hi
                           have HIC := Lib.hid hi
                           obtain ⟨d0, d1, d2⟩ := in_of (blk_stay HXY.out hbz4)
                           clear hO4 hg4 hn4 hbz4 hi)
              refine (HIC.out).mono ?_
              rintro e w7 ⟨rfl, hb7⟩
              have HB7 := Lib.hid (HBZ.out.trans ((HO4.out.2.trans (hb7.mono HO4.out.2.size)).mono HBZ.out.size))
              have HAW := Lib.hid (awake_is w7)
              clear hb7 d0 d1 d2
              go_wp2_with fail
              refine (HAW.out).mono ?_
              rintro e w8 ⟨rfl, hb8⟩
              have HB9 := Lib.hid (HB0.out.trans ((HB7.out.trans (hb8.mono HB7.out.size)).mono HB0.out.size))
              clear hb8
              go_wp2_with fail
              go_ret
              exact ⟨rfl, HB9.out⟩
            · have t1 : (x.src.1 == z) = false := by simpa using e2
              have t2 : (x.dst.1 == z) = true := by rw [e1]; simp
              have t3 : decide (x.src.1 = z) = false := decide_eq_false e2
              have t4 : decide (x.dst.1 = z) = true := decide_eq_true e1
              clear e1 e2
              go_wp2_with ((with_reducible refine wpList_vapp1 (o := ⟨some 86, .call _, _, _, _, _⟩) etE cZ_len cZ_one (y := 100) (.tmp 84) (.tmp 85) (by with_unfolding_all rfl) (by with_unfolding_all rfl) HOr.out (by with_unfolding_all rfl) (by have := HML.out; omega) HBzr.out.size (by with_unfolding_all rfl) (by with_unfolding_all rfl) ?_)
                           intro a4 c4 w4 hO4 hg4 hn4
                           rw [← hM2.out] at hO4 ⊢
                           have hbz4 := HBzr.out.trans (HOr.out.grown hg4 HBzr.out.size)
                           have HO4 := Lib.hid (And.intro hO4 hbz4)
                           have hi := is_calls w4 (lessV U k) (HLA.out.stay hbz4) HSU.out a4 M2 c4 (hO4.vec cZ_len)
                           rw [errs_cfg HCF.out, HLE2.out, decide_eq_true HW.out.symm] at hi
                           have HIC := Lib.hid hi
                           obtain ⟨d0, d1, d2⟩ := in_of (blk_stay HXY.out hbz4)
                           clear hO4 hg4 hn4 hbz4 hi)
              refine (HIC.out).mono ?_
              rintro e w7 ⟨rfl, hb7⟩
              have HB7 := Lib.hid (HBZ.out.trans ((HO4.out.2.trans (hb7.mono HO4.out.2.size)).mono HBZ.out.size))
              have HAW := Lib.hid (awake_is w7)
              clear hb7 d0 d1 d2
              go_wp2_with fail
              refine (HAW.out).mono ?_
              rintro e w8 ⟨rfl, hb8⟩
              have HB9 := Lib.hid (HB0.out.trans ((HB7.out.trans (hb8.mono HB7.out.size)).mono HB0.out.size))
              clear hb8
              go_wp2_with fail
              go_ret
              exact ⟨rfl, HB9.out⟩
        · have t1 : (x.src.1 == z) = false := by simp; intro h; exact hq (.inl h)
          have t2 : (x.dst.1 == z) = false := by simp; intro h; exact hq (.inr h)
          have HJ2 : Hid ((V.cs.take (j + 1)).any (fun x => decide (x.src.1 = z) || decide (x.dst.1 = z)) = false) := by
            rw [Hid, HS.out, HJ.out]
            simp only [not_or] at hq
            simp [hq.1, hq.2]
          clear hq
          go_wp2_with fail
          go_roundw
          case rel => exact ⟨j + 1, rfl, by go_num, by omega, HJ2.out, HBC.out⟩
          case measure => simp [intOf]; omega
      · have hk2 : j = V.cs.length := by omega
        have HN : Hid (nc = false) := by rw [Hid, hnc.out]; unfold namesC; have := HJ.out; rwa [hk2, List.take_length] at this
        have HW : Hid (M = (if nw then [90] else []) ++ (if nc then [100] else [])) := by rw [Hid, HN.out, HM.out]; simp
        have hi := is_calls wr (lessV U k) (HLA.out.stay HBzr.out) HSU.out a8 M c8 (HOr.out.vec cZ_len)
        rw [errs_cfg HCF.out, HLE2.out, decide_eq_true HW.out.symm] at hi
        have HIC := Lib.hid hi
        obtain ⟨d0, d1, d2⟩ := in_of (blk_stay HXY.out HBzr.out)
        clear hk2 hi
        go_wp2_with fail
        refine (HIC.out).mono ?_
        rintro e w7 ⟨rfl, hb7⟩
        have HB7 := Lib.hid (HBR.out.trans (hb7.mono HBR.out.size))
        have HAW := Lib.hid (awake_is w7)
        clear hb7 d0 d1 d2
        go_wp2_with fail
        refine (HAW.out).mono ?_
        rintro e w8 ⟨rfl, hb8⟩
        have HB9 := Lib.hid (HB0.out.trans ((HB7.out.trans (hb8.mono HB7.out.size)).mono HB0.out.size))
        clear hb8
        go_wp2_with fail
        go_ret
        exact ⟨rfl, HB9.out⟩
set_option maxRecDepth 100000 in
set_option maxHeartbeats 4000000 in
theorem validGone_out (w : World) (V : CfgV) (wh : Int) (h : V.At w) (hb : ∀ x ∈ V.ps, x.img.length ≤ 140737488351232) (hg : greatV V = true ∨ errs V ≠ [] ∨ V.ps.length < 2) : Calls Try.prog 6 #[.agg #[.slice V.wa V.ws.length V.wc, .slice V.pa V.ps.length V.pc, .slice V.ca V.cs.length V.cc], .int .i64 wh] w fun e w' => e = .returned (.bool true) ∧ Below w.heap.size w w' := by
  obtain ⟨w0, hw0⟩ : ∃ w0, w0 = w.alloc (.cells #[.slice V.wa V.ws.length V.wc, .slice V.pa V.ps.length V.pc, .slice V.ca V.cs.length V.cc] 26) := ⟨_, rfl⟩
  have B0 : Below w.heap.size w w0 := by rw [hw0]; exact (Below.refl _ w).alloc (Nat.le_refl _) _
  have hI : InBox w0 w.heap.size V := by rw [hw0]; exact inBox_new w V _
  have HV := Lib.hid (h.stay B0)
  have HI := Lib.hid hI
  have HB0 := Lib.hid B0
  have HC := Lib.hid (cgreat_calls w0 V (h.stay B0) hb)
  obtain ⟨g, hgg⟩ : ∃ g, Hid (g = greatV V) := ⟨_, rfl⟩
  rw [← hgg.out] at HC hg
  have HG := Lib.hid hg
  have hl2 := h.pts.len_le
  clear h B0 hI hg
  cases g with
  | true =>
    go_enter Try.func6, Try.ntmps6
    go_wp2_with fail
    rw [← hw0]
    clear hw0
    refine (HC.out).mono ?_
    rintro e w1 ⟨rfl, hb1⟩
    have HB1 := Lib.hid (HB0.out.trans (hb1.mono HB0.out.size))
    have HAW := Lib.hid (awake_is w1)
    clear hb1
    go_wp2_with fail
    refine (HAW.out).mono ?_
    rintro e w2 ⟨rfl, hb2⟩
    have HB2 := Lib.hid (HB1.out.trans (hb2.mono HB1.out.size))
    clear hb2
    go_wp2_with fail
    go_ret
    exact ⟨rfl, HB2.out⟩
  | false =>
    have hs := small_of hgg.out.symm
    obtain ⟨f, hf0⟩ : ∃ f, Hid (f = fitsV V) := ⟨_, rfl⟩
    have HG2 : Hid (f = true → V.ps.length < 2) := by
      intro hft
      rcases HG.out with h | h | h
      · exact absurd h (by decide)
      · rw [hf0.out] at hft; unfold fitsV at hft; exact absurd (of_decide_eq_true hft) h
      · exact h
    cases f with
    | false =>
      go_enter Try.func6, Try.ntmps6
      go_wp2_with fail
      rw [← hw0]
      clear hw0
      refine (HC.out).mono ?_
      rintro e w1 ⟨rfl, hb1⟩
      have hf := fits_calls w1 V (HV.out.stay hb1) hs
      rw [← hf0.out] at hf
      have HFC := Lib.hid hf
      obtain ⟨c0, c1, c2⟩ := HI.out.keep hb1
      have HB1 := Lib.hid (HB0.out.trans (hb1.mono HB0.out.size))
      clear hb1 hf
      go_wp2_with fail
      refine (HFC.out).mono ?_
      rintro e w2 ⟨rfl, hb2⟩
      have HB2 := Lib.hid (HB1.out.trans (hb2.mono HB1.out.size))
      have HAW := Lib.hid (awake_is w2)
      clear hb2 c0 c1 c2
      go_wp2_with fail
      refine (HAW.out).mono ?_
      rintro e w3 ⟨rfl, hb3⟩
      have HB3 := Lib.hid (HB2.out.trans (hb3.mono HB2.out.size))
      clear hb3
      go_wp2_with fail
      go_ret
      exact ⟨rfl, HB3.out⟩
    | true =>
      have t0 : decide ((V.ps.length : Int) < 2) = true := by rw [decide_eq_true_eq]; have := HG2.out rfl; omega
      have t1 : decide (V.ps.length < 2) = true := by rw [decide_eq_true_eq]; exact HG2.out rfl
      go_enter Try.func6, Try.ntmps6
      go_wp2_with fail
      rw [← hw0]
      clear hw0
      refine (HC.out).mono ?_
      rintro e w1 ⟨rfl, hb1⟩
      have hf := fits_calls w1 V (HV.out.stay hb1) hs
      rw [← hf0.out] at hf
      have HFC := Lib.hid hf
      obtain ⟨c0, c1, c2⟩ := HI.out.keep hb1
      have HB1 := Lib.hid (HB0.out.trans (hb1.mono HB0.out.size))
      have HB01 := Lib.hid hb1
      clear hb1 hf
      go_wp2_with fail
      refine (HFC.out).mono ?_
      rintro e w2 ⟨rfl, hb2⟩
      have HB2 := Lib.hid (HB1.out.trans (hb2.mono HB1.out.size))
      have HAW := Lib.hid (awake_is w2)
      obtain ⟨c0, c1, c2⟩ := HI.out.keep (HB01.out.trans (hb2.mono HB01.out.size))
      clear hb2
      go_wp2_with fail
      refine (HAW.out).mono ?_
      rintro e w3 ⟨rfl, hb3⟩
      have HB3 := Lib.hid (HB2.out.trans (hb3.mono HB2.out.size))
      clear hb3 c0 c1 c2
      go_wp2_with fail
      go_ret
      exact ⟨rfl, HB3.out⟩
theorem validGone_law (w : World) (V : CfgV) (wh : Int) (h : V.At w) (hb : ∀ x ∈ V.ps, x.img.length ≤ 140737488351232) : Calls Try.prog 6 #[.agg (cCfg V).toArray, .int .i64 wh] w fun e w' => e = .returned (.bool true) ∧ Below w.heap.size w w' := by
  by_cases hg : greatV V = true ∨ errs V ≠ [] ∨ V.ps.length < 2
  · exact validGone_out w V wh h hb hg
  · have h1 : greatV V = false := by cases hq : greatV V <;> simp_all
    have h2 : errs V = [] := by by_cases hq : errs V = [] <;> simp_all
    exact validGone_in w V wh h hb h1 h2 (by omega)
theorem validGone_all (w : World) (V : CfgV) (wh : Int) (h : V.At w) (hb : ∀ x ∈ V.ps, x.img.length ≤ 140737488351232) (_ : -9223372036854775808 ≤ wh ∧ wh ≤ 9223372036854775807) : Calls Try.prog 6 #[.agg (cCfg V).toArray, .int .i64 wh] w fun e w' => e = .returned (.bool true) ∧ Below w.heap.size w w' := validGone_law w V wh h hb
end Go.Proofs.Ytpnbaapjjchlbaa
