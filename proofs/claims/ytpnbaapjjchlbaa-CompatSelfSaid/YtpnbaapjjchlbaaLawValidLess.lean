/- ValidLess: walked. -/
import Derived.Test.YtpnbaapjjchlbaaLessPlain
import Derived.Test.YtpnbaapjjchlbaaLawValidChecks
import Derived.Test.YtpnbaapjjchlbaaAwk12
import Derived.Test.YtpnbaapjjchlbaaLawValid1
import Derived.Test.YtpnbaapjjchlbaaLawValidGone
import Derived.Test.YtpnbaapjjchlbaaSet
import Derived.Deep.CutBlock
import Derived.Deep.DeepCutAuto
namespace Go.Proofs.Ytpnbaapjjchlbaa
open Go Go.RowKit Go.Cit

def vl5 (U : CfgV) (n0 g y k : Nat) (kp : Bool) : Nat → Value
  | 35 => (.pointer (some ⟨y, 1, none⟩))
  | 36 => (.slice (some ⟨g, 0, none⟩) n0 U.pc)
  | 37 => (.int .i64 (k : Int))
  | 38 => (.pointer (some ⟨y, 1, none⟩))
  | 39 => (.slice (some ⟨g, 0, none⟩) n0 U.pc)
  | 40 => (.int .i64 (k : Int))
  | 41 => (.pointer (some ⟨g, k * 5, none⟩))
  | 42 => (.pointer (some ⟨g, k * 5 + 3, none⟩))
  | 43 => (.bool kp)
  | 44 => (.bool (!kp))
  | 45 => (.pointer (some ⟨g, k * 5, none⟩))
  | 46 => (.pointer (some ⟨g, k * 5 + 3, none⟩))
  | _ => undef
def vl5o (_ : CfgV) (_ _ y k : Nat) (_ : Bool) : Nat → Value
  | 7 => (.pointer (some ⟨y, 0, none⟩))
  | 8 => (.int .i64 (k : Int))
  | _ => undef
def vl9 (U : CfgV) (n0 g y k : Nat) (by_ : Int) (s : Nat) (m zz : Nat) : Nat → Value
  | 60 => (.pointer (some ⟨y, 1, none⟩))
  | 61 => (.slice (some ⟨g, 0, none⟩) n0 U.pc)
  | 62 => (.int .i64 (k : Int))
  | 63 => (.int .i64 by_)
  | 64 => (.int .u64 (IntKind.u64.wrap by_))
  | 65 => (.int .i64 (s : Int))
  | 66 => (.int .i64 ((s + 1 : Nat) : Int))
  | 67 => (.int .u64 ((s + 1 : Nat) : Int))
  | 68 => (.int .u64 ((IntKind.u64.wrap by_).tmod ((s + 1 : Nat) : Int)))
  | 69 => (.int .i64 (m : Int))
  | 70 => (.slice (some ⟨zz, 0, none⟩) m m)
  | 71 => (.pointer (some ⟨g, k * 5, none⟩))
  | 72 => (.pointer (some ⟨g, k * 5 + 4, none⟩))
  | _ => undef
def vl9o (_ : CfgV) (_ _ y k : Nat) (by_ : Int) (s : Nat) (_ _ : Nat) : Nat → Value
  | 2 => (.int .i64 by_)
  | 7 => (.pointer (some ⟨y, 0, none⟩))
  | 8 => (.int .i64 (k : Int))
  | 9 => (.int .i64 (s : Int))
  | _ => undef
def vl12 (U : CfgV) (n0 g y k : Nat) (s : Nat) (me ze : Nat) : Nat → Value
  | 76 => (.pointer (some ⟨y, 1, none⟩))
  | 77 => (.slice (some ⟨g, 0, none⟩) n0 U.pc)
  | 78 => (.int .i64 (k : Int))
  | 79 => (.int .i64 (s : Int))
  | 80 => (.int .i64 (me : Int))
  | 81 => (.slice (some ⟨ze, 0, none⟩) me me)
  | 82 => (.pointer (some ⟨g, k * 5, none⟩))
  | 83 => (.pointer (some ⟨g, k * 5 + 4, none⟩))
  | _ => undef
def vl12o (_ : CfgV) (_ _ y k : Nat) (s : Nat) (_ _ : Nat) : Nat → Value
  | 7 => (.pointer (some ⟨y, 0, none⟩))
  | 8 => (.int .i64 (k : Int))
  | 9 => (.int .i64 (s : Int))
  | _ => undef
def vl19 (F : CfgV) (g2 y2 j : Nat) : Nat → Value
  | 103 => (.pointer (some ⟨y2, 2, none⟩))
  | 104 => (.slice (some ⟨g2, 0, none⟩) F.cs.length F.cc)
  | 105 => (.int .i64 (j : Int))
  | 106 => (.slice (some ⟨g2, 0, none⟩) j F.cc)
  | 107 => (.pointer (some ⟨y2, 2, none⟩))
  | 108 => (.slice (some ⟨g2, 0, none⟩) F.cs.length F.cc)
  | 109 => (.int .i64 (j : Int))
  | 110 => (.int .i64 ((j + 1 : Nat) : Int))
  | 111 => (.slice (behindA g2 5 F.cc (j + 1)) (F.cs.length - (j + 1)) (F.cc - (j + 1)))
  | 112 => (.slice (some ⟨g2, 0, none⟩) (F.cs.length - 1) F.cc)
  | 113 => (.pointer (some ⟨y2, 2, none⟩))
  | _ => undef
def vl19o (_ : CfgV) (_ y2 j : Nat) : Nat → Value
  | 8 => (.int .i64 (j : Int))
  | 10 => (.pointer (some ⟨y2, 0, none⟩))
  | _ => undef

/-- A configuration of one's own, of which one partition is another one now. -/
theorem set_at {B : Nat} {w wx : World} {U : CfgV} {g k : Nat} {x : PtV} (h : OwnedV B w U) (hpa : U.pa = some ⟨g, 0, none⟩) (hs : Save (· ≠ g) w wx) (hv : Held cPt 5 43 wx g (U.ps.set k x) U.pc) (hg : ∃ cs, w.heap[g]? = some (.cells cs 43 (0, 0))) (hx : Row wx x.a x.img x.c) : (setV U k x).At wx := by
  obtain ⟨cur, hg⟩ := hg
  refine ⟨(h.win.save hs fun j hj => vown_ne h.win hg neWP j hj).vec cWin_len, ?_, (h.chs.save hs fun j hj => vown_ne h.chs hg neCP j hj).vec cCh_len, fun y hy => ?_⟩
  · show Vec cPt 5 wx U.pa _ U.pc
    rw [hpa]; exact hv.vec
  · rcases List.mem_or_eq_of_mem_set hy with hy | rfl
    · have hy' := h.img y hy
      exact (hy'.save hs fun j hj => ownb_bx hy' hg neUP j hj).isRow
    · exact hx
theorem set_small {U : CfgV} (h : SmallV U) {k : Nat} {x : PtV} (hx : x.img.length ≤ 10000) : SmallV (setV U k x) :=
  ⟨h.win, by show (U.ps.set k x).length ≤ 100; rw [List.length_set]; exact h.pts, h.chs, fun y hy => by
    rcases List.mem_or_eq_of_mem_set hy with hy | rfl
    · exact h.img y hy
    · exact hx⟩
/-- A configuration of one's own, a channel less. -/
theorem del_at {B : Nat} {w wx : World} {U : CfgV} {g y k : Nat} {cs : Array Value} {fr : Nat × Nat} (h : OwnedV B w U) (hca : U.ca = some ⟨g, 0, none⟩) (_ : U.cs ≠ []) (hy : w.heap[y]? = some (.cells cs 26 fr)) (hs : Save (fun j => j ≠ g ∧ j ≠ y) w wx) (hv : Vec cCh 5 wx (some ⟨g, 0, none⟩) (U.cs.eraseIdx k) U.cc) : (delC U k).At wx := by
  obtain ⟨cur, hg⟩ := vown_block h.chs (g := g) (by rw [hca]; rfl)
  refine ⟨(h.win.save hs fun j hj => ⟨vown_ne h.win hg (by decide) j hj, vown_ne h.win hy neW j hj⟩).vec cWin_len, (h.pts.save hs fun j hj => ⟨vown_ne h.pts hg (by decide) j hj, vown_ne h.pts hy neP j hj⟩).vec cPt_len, ?_, fun x hx => ?_⟩
  · show Vec cCh 5 wx U.ca _ U.cc
    rw [hca]; exact hv
  · have hx' := h.img x hx
    exact (hx'.save hs fun j hj => ⟨ownb_bx hx' hg (by decide) j hj, ownb_bx hx' hy neU j hj⟩).isRow
set_option maxRecDepth 100000 in
set_option maxHeartbeats 8000000 in
theorem validLess_in (w : World) (V : CfgV) (wh by_ : Int) (h : V.At w) (hb : ∀ x ∈ V.ps, x.img.length ≤ 140737488351232) (hg : greatV V = false) (he : errs V = []) : Calls Try.prog 4 #[.agg #[.slice V.wa V.ws.length V.wc, .slice V.pa V.ps.length V.pc, .slice V.ca V.cs.length V.cc], .int .i64 wh, .int .i64 by_] w fun e w' => e = .returned (.bool true) ∧ Below w.heap.size w w' := by
  have GO := Lib.hid (good_iff.1 he)
  have hs := small_of hg
  obtain ⟨w0, hw0⟩ : ∃ w0, w0 = w.alloc (.cells #[.slice V.wa V.ws.length V.wc, .slice V.pa V.ps.length V.pc, .slice V.ca V.cs.length V.cc] 26) := ⟨_, rfl⟩
  have B0 : Below w.heap.size w w0 := by rw [hw0]; exact (Below.refl _ w).alloc (Nat.le_refl _) _
  have hI : InBox w0 w.heap.size V := by rw [hw0]; exact inBox_new w V _
  have HV := Lib.hid (h.stay B0)
  have HI := Lib.hid hI
  have HB0 := Lib.hid B0
  have hc := cgreat_calls w0 V (h.stay B0) hb
  rw [hg] at hc
  have HC := Lib.hid hc
  have HE := Lib.hid he
  have hl2 := h.pts.len_le
  have hl1 := h.win.len_le
  have hl3 := h.chs.len_le
  clear h B0 hI hg hb hc he
  go_enter Try.func4, Try.ntmps4
  go_wp2_with fail
  rw [← hw0]
  clear hw0
  refine (HC.out).mono ?_
  rintro e w1 ⟨rfl, hb1⟩
  have hf := fits_calls w1 V (HV.out.stay hb1) hs
  rw [show fitsV V = true by unfold fitsV; rw [HE.out]; rfl] at hf
  have HFC := Lib.hid hf
  obtain ⟨c0, c1, c2⟩ := HI.out.keep hb1
  have HB1 := Lib.hid hb1
  clear hb1 hf HC
  go_wp2_with fail
  refine (HFC.out).mono ?_
  rintro e w2 ⟨rfl, hb2⟩
  have HB2 := Lib.hid (HB1.out.trans (hb2.mono HB1.out.size))
  clear hb2 c0 c1 c2 HFC HB1
  obtain ⟨c0, c1, c2⟩ := HI.out.keep HB2.out
  have t0 : ((V.ps.length : Int) == 0) = false := by have := GO.out.few; rw [beq_eq_false_iff_ne]; omega
  have HCP := Lib.hid (copied_calls w2 V (HV.out.stay HB2.out) hs)
  go_wp2_with fail
  refine (HCP.out).mono ?_
  rintro e w3 ⟨U, rfl, hU, hO, hb3⟩
  have HU := Lib.hid hU
  have HUL : Hid (U.ps.length = V.ps.length) := by
    have := congrArg (fun c => c.parts.length) hU
    rw [Hid]; simpa [CfgV.cfg] using this
  have HGU : Hid (Good U) := by
    rw [Hid, ← good_iff, errs_cfg hU]; exact good_iff.2 GO.out
  have HSV : Hid (SmallV U) := small_cfg hU hs
  have hne : U.ps ≠ [] := by intro h0; have := HGU.out.few; rw [h0] at this; simp at this
  obtain ⟨g, hpa, hgB, hg3⟩ := own_addr hO.pts hne
  have HB3 := Lib.hid (HB2.out.trans (hb3.mono HB2.out.size))
  obtain ⟨wA, hwA⟩ : ∃ wA, wA = w3.alloc (.cells #[.slice U.wa U.ws.length U.wc, .slice (some ⟨g, 0, none⟩) U.ps.length U.pc, .slice U.ca U.cs.length U.cc] 26) := ⟨_, rfl⟩
  obtain ⟨y, hy⟩ : ∃ y, y = w3.heap.size := ⟨_, rfl⟩
  have hbA : Below w3.heap.size w3 wA := by rw [hwA]; exact (Below.refl _ w3).alloc (Nat.le_refl _) _
  have HBA := Lib.hid (HB3.out.trans (hbA.mono HB3.out.size))
  have HBY : Hid (wA.heap[y]? = some (.cells #[.slice U.wa U.ws.length U.wc, .slice (some ⟨g, 0, none⟩) U.ps.length U.pc, .slice U.ca U.cs.length U.cc] 26 (0, 0))) := by rw [hwA, hy]; exact heap_alloc_new _ _
  have hOA := hO.stay hbA
  have hop := hOA.pts
  rw [hpa] at hop
  have HH : Hid (Held cPt 5 43 wA g U.ps U.pc) := hop.held cPt_len
  have HY : Hid (y ≠ g ∧ y < wA.heap.size ∧ g < wA.heap.size) := ⟨by omega, (Array.getElem?_eq_some_iff.1 HBY.out).1, Nat.lt_of_lt_of_le hg3 hbA.size⟩
  have HGY : Hid (w0.heap.size ≤ g ∧ w0.heap.size ≤ y) := ⟨Nat.le_trans HB2.out.size hgB, by rw [hy]; exact HB3.out.size⟩
  have HOA := Lib.hid (And.intro hOA hpa)
  obtain ⟨n0, hn0⟩ : ∃ n0, Hid (n0 = U.ps.length) := ⟨_, rfl⟩
  have HBY2 : Hid (wA.heap[y]? = some (.cells #[.slice U.wa U.ws.length U.wc, .slice (some ⟨g, 0, none⟩) n0 U.pc, .slice U.ca U.cs.length U.cc] 26 (0, 0))) := by rw [hn0.out]; exact HBY.out
  rw [hpa]
  clear hU hO hb3 HCP c0 c1 c2 HB2 hop hOA hpa hne hgB hg3 hbA t0
  have hfew := HGU.out.few
  go_upto_region 5 with fail
  rw [← hwA, ← hy]
  clear hwA hy
  obtain ⟨k, hk, ek⟩ := pick_of wh U.ps.length (by have := HGU.out.few; omega) (by have := HGU.out.few; omega)
  rw [ek, ← hn0.out]
  have HKL := Lib.hid hk
  have HKN : Hid (k < n0) := by rw [hn0.out]; exact hk
  obtain ⟨x0, hx0⟩ : ∃ x, Hid (x = U.ps[k]) := ⟨U.ps[k], rfl⟩
  obtain ⟨kp, hkp⟩ : ∃ b, Hid (b = x0.keep) := ⟨_, rfl⟩
  obtain ⟨x1, hx1⟩ : ∃ x : PtV, Hid (x = { x0 with keep := !kp }) := ⟨_, rfl⟩
  have HX1 : Hid (cPt x1 = (cPt U.ps[k]).set 3 (.bool !kp)) := by rw [Hid, hx1.out, hx0.out]; rfl
  have d1 : wA.cell? ⟨y, 1, none⟩ = some (.slice (some ⟨g, 0, none⟩) n0 U.pc) := by rw [World.cell?, HBY2.out]; rfl
  have d3 : wA.cell? ⟨g, k * 5 + 3, none⟩ = some (.bool kp) := by
    have := HH.out.vec.cell k hk 3 (by decide)
    rw [ad_some] at this
    rw [this, hkp.out, hx0.out]; rfl
  have i0 : ∀ w, (Instr.indexAt 23 (.slice (some ⟨g, 0, none⟩) n0 U.pc) (.int .i64 (k : Int))).run Try.prog w = .ok (.pointer (some ⟨g, k * 5, none⟩)) w := by
    have := HH.out.vec.index etP k hk
    rw [← hn0.out] at this
    simpa only [ad_some] using this
  clear ek hk hfew
  refine wp_region_once (vl5 U n0 g y k kp) (vl5o U n0 g y k kp) [7, 8] 12 (fun wx => Held cPt 5 43 wx g (U.ps.set k x1) U.pc ∧ Save (· ≠ g) wA wx) (by kernel_rfl) (by kernel_rfl) (by decide) ⟨rfl, rfl, trivial⟩ ?_ ?_
  · refine opsAll_cons ?_ (opsAll_cons ?_ (opsAll_cons ?_ (opsAll_cons ?_ (opsAll_cons ?_ (opsAll_cons ?_ (opsAll_cons ?_ (opsAll_cons ?_ (opsAll_cons ?_ (opsAll_cons ?_ (opsAll_cons ?_ (opsAll_cons ?_ (opsAll_cons ?_ opsAll_nil))))))))))))
    all_goals intro a hk
    · exact ⟨wanted_free rfl, .inr ⟨by decide, fun wx hst => gp_field (.tmp 7) rfl (show a.eval (.tmp 7) = (.pointer (some ⟨y, 0, none⟩)) from hk.old 7 (by kernel_rfl)) (v := (.pointer (some ⟨y, 1, none⟩))) (fun w => by kernel_rfl) ⟨rfl, rfl⟩⟩⟩
    · exact ⟨wanted_free rfl, .inr ⟨by decide, fun wx hst => gp_load (.tmp 35) rfl (show a.eval (.tmp 35) = (.pointer (some ⟨y, 1, none⟩)) from hk.slot 35 (by kernel_rfl)) (v := (.slice (some ⟨g, 0, none⟩) n0 U.pc)) ((fun (q : After _) => load_at (fun w => by kernel_rfl) (keep q.bel d1)) ⟨wx, (hst (by kernel_rfl)).1⟩) ⟨rfl, rfl⟩⟩⟩
    · exact ⟨wanted_free rfl, .inr ⟨by decide, fun wx hst => gp_move (.tmp 8) rfl ⟨rfl, (show a.eval (.tmp 8) = (.int .i64 (k : Int)) from hk.old 8 (by kernel_rfl))⟩⟩⟩
    · exact ⟨wanted_free rfl, .inr ⟨by decide, fun wx hst => gp_field (.tmp 7) rfl (show a.eval (.tmp 7) = (.pointer (some ⟨y, 0, none⟩)) from hk.old 7 (by kernel_rfl)) (v := (.pointer (some ⟨y, 1, none⟩))) (fun w => by kernel_rfl) ⟨rfl, rfl⟩⟩⟩
    · exact ⟨wanted_free rfl, .inr ⟨by decide, fun wx hst => gp_load (.tmp 38) rfl (show a.eval (.tmp 38) = (.pointer (some ⟨y, 1, none⟩)) from hk.slot 38 (by kernel_rfl)) (v := (.slice (some ⟨g, 0, none⟩) n0 U.pc)) ((fun (q : After _) => load_at (fun w => by kernel_rfl) (keep q.bel d1)) ⟨wx, (hst (by kernel_rfl)).1⟩) ⟨rfl, rfl⟩⟩⟩
    · exact ⟨wanted_free rfl, .inr ⟨by decide, fun wx hst => gp_move (.tmp 8) rfl ⟨rfl, (show a.eval (.tmp 8) = (.int .i64 (k : Int)) from hk.old 8 (by kernel_rfl))⟩⟩⟩
    · exact ⟨wanted_free rfl, .inr ⟨by decide, fun wx hst => gp_index (.tmp 39) (.tmp 40) rfl (show a.eval (.tmp 39) = (.slice (some ⟨g, 0, none⟩) n0 U.pc) from hk.slot 39 (by kernel_rfl)) (show a.eval (.tmp 40) = (.int .i64 (k : Int)) from hk.slot 40 (by kernel_rfl)) (v := (.pointer (some ⟨g, k * 5, none⟩))) (i0 wx) ⟨rfl, rfl⟩⟩⟩
    · exact ⟨wanted_free rfl, .inr ⟨by decide, fun wx hst => gp_field (.tmp 41) rfl (show a.eval (.tmp 41) = (.pointer (some ⟨g, k * 5, none⟩)) from hk.slot 41 (by kernel_rfl)) (v := (.pointer (some ⟨g, k * 5 + 3, none⟩))) (fun w => by kernel_rfl) ⟨rfl, rfl⟩⟩⟩
    · exact ⟨wanted_free rfl, .inr ⟨by decide, fun wx hst => gp_load (.tmp 42) rfl (show a.eval (.tmp 42) = (.pointer (some ⟨g, k * 5 + 3, none⟩)) from hk.slot 42 (by kernel_rfl)) (v := (.bool kp)) ((fun (q : After _) => load_at (fun w => by kernel_rfl) (keep q.bel d3)) ⟨wx, (hst (by kernel_rfl)).1⟩) ⟨rfl, rfl⟩⟩⟩
    · exact ⟨wanted_free rfl, .inr ⟨by decide, fun wx hst => gp_run (v := (.bool (!kp))) (by unfold execOp; dsimp only; rw [(show a.eval (.tmp 43) = (.bool kp) from hk.slot 43 (by kernel_rfl))]; rfl) ⟨rfl, rfl⟩⟩⟩
    · exact ⟨wanted_free rfl, .inr ⟨by decide, fun wx hst => gp_index (.tmp 36) (.tmp 37) rfl (show a.eval (.tmp 36) = (.slice (some ⟨g, 0, none⟩) n0 U.pc) from hk.slot 36 (by kernel_rfl)) (show a.eval (.tmp 37) = (.int .i64 (k : Int)) from hk.slot 37 (by kernel_rfl)) (v := (.pointer (some ⟨g, k * 5, none⟩))) (i0 wx) ⟨rfl, rfl⟩⟩⟩
    · exact ⟨wanted_free rfl, .inr ⟨by decide, fun wx hst => gp_field (.tmp 45) rfl (show a.eval (.tmp 45) = (.pointer (some ⟨g, k * 5, none⟩)) from hk.slot 45 (by kernel_rfl)) (v := (.pointer (some ⟨g, k * 5 + 3, none⟩))) (fun w => by kernel_rfl) ⟨rfl, rfl⟩⟩⟩
    · refine ⟨wanted_free rfl, .inl ⟨rfl, fun wx hst => ?_⟩⟩
      exact gp_store (.tmp 46) (.tmp 44) rfl (hk.slot 46 (by kernel_rfl)) (hk.slot 44 (by kernel_rfl)) (store_bool (fun w => by kernel_rfl) (keep hst.1 d3) ((HH.out.stay cPt_len hst.1).free _)) ⟨⟨(HH.out.stay cPt_len hst.1).set cPt_len HKL.out (by decide) (x := x1) HX1.out, (Save.of hst.1).trans Save.set⟩, trivial⟩
  intro a wB hfin hsame hall
  have he := act_same hsame [35, 36, 37, 38, 39, 40, 41, 42, 43, 44, 45, 46] (by kernel_rfl)
  simp only [List.foldl_cons, List.foldl_nil] at he
  generalize a.eval (.tmp 35) = y35 at he
  generalize a.eval (.tmp 36) = y36 at he
  generalize a.eval (.tmp 37) = y37 at he
  generalize a.eval (.tmp 38) = y38 at he
  generalize a.eval (.tmp 39) = y39 at he
  generalize a.eval (.tmp 40) = y40 at he
  generalize a.eval (.tmp 41) = y41 at he
  generalize a.eval (.tmp 42) = y42 at he
  generalize a.eval (.tmp 43) = y43 at he
  generalize a.eval (.tmp 44) = y44 at he
  generalize a.eval (.tmp 45) = y45 at he
  generalize a.eval (.tmp 46) = y46 at he
  simp only [put_lit] at he
  dsimp only [List.set_cons_zero, List.set_cons_succ] at he
  subst he
  clear hsame hall
  obtain ⟨hh1, hs1⟩ := hfin
  have HH1 := Lib.hid hh1
  have HS1 := Lib.hid hs1
  obtain ⟨s, hsz⟩ : ∃ s : Nat, Hid (x0.reg.size.1 = (s : Int) ∧ s ≤ 512 ∧ 16 ≤ s) := by
    have := mayR_size ((HGU.out.reg U.ps[k] (List.getElem_mem HKL.out)).1)
    have e : x0.reg = U.ps[k].reg := by rw [hx0.out]
    rw [← e] at this
    exact ⟨x0.reg.size.1.toNat, by rw [Hid]; omega⟩
  have HYW : Hid (wB.heap[y]? = some (.cells #[.slice U.wa U.ws.length U.wc, .slice (some ⟨g, 0, none⟩) n0 U.pc, .slice U.ca U.cs.length U.cc] 26 (0, 0))) := (hs1.block y HY.out.2.1 HY.out.1).trans HBY2.out
  have HKL1 : Hid (k < (U.ps.set k x1).length) := by rw [Hid, List.length_set]; exact HKL.out
  have d1 : wB.cell? ⟨y, 1, none⟩ = some (.slice (some ⟨g, 0, none⟩) n0 U.pc) := by rw [World.cell?, HYW.out]; rfl
  have d2 : wB.cell? ⟨g, k * 5 + 2, none⟩ = some (.int .i64 (s : Int)) := by
    have := hh1.vec.cell k HKL1.out 2 (by decide)
    rw [ad_some, List.getElem_set_self] at this
    rw [this, hx1.out, ← hsz.out.1]; rfl
  have t1 : decide ((s : Int) < 0) = false := by rw [decide_eq_false_iff_not]; omega
  have t2 : decide ((512 : Int) < (s : Int)) = false := by have := hsz.out; rw [decide_eq_false_iff_not]; omega
  have t3 : ¬ 512 < s := by have := hsz.out; omega
  have d4 : wB.cell? ⟨g, k * 5 + 4, none⟩ = some (.slice x0.a x0.img.length x0.c) := by
    have := hh1.vec.cell k HKL1.out 4 (by decide)
    rw [ad_some, List.getElem_set_self] at this
    rw [this, hx1.out]; rfl
  have i0 : ∀ w, (Instr.indexAt 23 (.slice (some ⟨g, 0, none⟩) n0 U.pc) (.int .i64 (k : Int))).run Try.prog w = .ok (.pointer (some ⟨g, k * 5, none⟩)) w := i0
  have HS9 : Hid (s ≤ 512) := hsz.out.2.1
  obtain ⟨m, hm, em⟩ := pick_of by_ (s + 1) (by omega) (by have := hsz.out; omega)
  have HMM : Hid (m ≤ s) := by rw [Hid]; omega
  have HMm : Hid (m ≤ 1000000000) := by have := hsz.out; rw [Hid]; omega
  obtain ⟨zz, hzz⟩ : ∃ z, Hid (z = wB.heap.size) := ⟨_, rfl⟩
  have HZzz : Hid (zz = wB.heap.size) := hzz.out
  have HZGzz : Hid (g < zz) := by rw [Hid, hzz.out]; exact Nat.lt_of_lt_of_le HY.out.2.2 HS1.out.size
  obtain ⟨x2, hx2⟩ : ∃ x : PtV, Hid (x = { x1 with a := some ⟨zz, 0, none⟩, img := List.replicate m 0, c := m }) := ⟨_, rfl⟩
  have HH2 := HH1
  have HK2 := HKL1
  have HX2 : Hid (cPt x2 = (cPt ((U.ps.set k x1)[k]'HKL1.out)).set 4 (.slice (some ⟨zz, 0, none⟩) m m)) := by rw [Hid, hx2.out, List.getElem_set_self]; simp
  clear hh1 hs1 d3 hm
  go_upto_region 9 with fail
  refine wp_region_two (vl9 U n0 g y k by_ s m zz) (vl9o U n0 g y k by_ s m zz) [2, 7, 8, 9] 10 13 (fun wx => Cit.Own 5 0 wx (some ⟨zz, 0, none⟩) (List.replicate m 0) m ∧ Below wB.heap.size wB wx) (fun wx => Held cPt 5 43 wx g ((U.ps.set k x1).set k x2) U.pc ∧ Cit.Own 5 0 wx (some ⟨zz, 0, none⟩) (List.replicate m 0) m ∧ Save (· ≠ g) wB wx) (by kernel_rfl) (by kernel_rfl) (by kernel_rfl) (by decide) ⟨rfl, rfl, rfl, rfl, trivial⟩ ?_ ?_
  · refine opsAll_cons ?_ (opsAll_cons ?_ (opsAll_cons ?_ (opsAll_cons ?_ (opsAll_cons ?_ (opsAll_cons ?_ (opsAll_cons ?_ (opsAll_cons ?_ (opsAll_cons ?_ (opsAll_cons ?_ (opsAll_cons ?_ (opsAll_cons ?_ (opsAll_cons ?_ (opsAll_cons ?_ opsAll_nil)))))))))))))
    all_goals intro a hk
    · exact ⟨wanted_free rfl, .inr (.inr ⟨by decide, by decide, fun wx hst hst2 => gp_field (.tmp 7) rfl (show a.eval (.tmp 7) = (.pointer (some ⟨y, 0, none⟩)) from hk.old 7 (by kernel_rfl)) (v := (.pointer (some ⟨y, 1, none⟩))) (fun w => by kernel_rfl) ⟨rfl, rfl⟩⟩)⟩
    · exact ⟨wanted_free rfl, .inr (.inr ⟨by decide, by decide, fun wx hst hst2 => gp_load (.tmp 60) rfl (show a.eval (.tmp 60) = (.pointer (some ⟨y, 1, none⟩)) from hk.slot 60 (by kernel_rfl)) (v := (.slice (some ⟨g, 0, none⟩) n0 U.pc)) ((fun (q : After _) => load_at (fun w => by kernel_rfl) (keep q.bel d1)) ⟨wx, (hst2 (by kernel_rfl)).elim (fun h => h.1) (fun h => h.2)⟩) ⟨rfl, rfl⟩⟩)⟩
    · exact ⟨wanted_free rfl, .inr (.inr ⟨by decide, by decide, fun wx hst hst2 => gp_move (.tmp 8) rfl ⟨rfl, (show a.eval (.tmp 8) = (.int .i64 (k : Int)) from hk.old 8 (by kernel_rfl))⟩⟩)⟩
    · exact ⟨wanted_free rfl, .inr (.inr ⟨by decide, by decide, fun wx hst hst2 => gp_move (.tmp 2) rfl ⟨rfl, (show a.eval (.tmp 2) = (.int .i64 by_) from hk.old 2 (by kernel_rfl))⟩⟩)⟩
    · exact ⟨wanted_free rfl, .inr (.inr ⟨by decide, by decide, fun wx hst hst2 => gp_run (v := (.int .u64 (IntKind.u64.wrap by_))) (w' := wx) (by unfold execOp; simp only [(show a.eval (.tmp 63) = (.int .i64 by_) from hk.slot 63 (by kernel_rfl))]; go_simp) ⟨rfl, rfl⟩⟩)⟩
    · exact ⟨wanted_free rfl, .inr (.inr ⟨by decide, by decide, fun wx hst hst2 => gp_move (.tmp 9) rfl ⟨rfl, (show a.eval (.tmp 9) = (.int .i64 (s : Int)) from hk.old 9 (by kernel_rfl))⟩⟩)⟩
    · exact ⟨wanted_free rfl, .inr (.inr ⟨by decide, by decide, fun wx hst hst2 => gp_bin rfl (show a.eval (.tmp 65) = (.int .i64 (s : Int)) from hk.slot 65 (by kernel_rfl)) rfl (v := (.int .i64 ((s + 1 : Nat) : Int))) (fun w => by have := HS9.out; go_simp; exact (IntWalk.i64_in _ (by omega)).trans (by omega)) ⟨rfl, rfl⟩⟩)⟩
    · exact ⟨wanted_free rfl, .inr (.inr ⟨by decide, by decide, fun wx hst hst2 => gp_run (v := (.int .u64 ((s + 1 : Nat) : Int))) (w' := wx) (by unfold execOp; simp only [(show a.eval (.tmp 66) = (.int .i64 ((s + 1 : Nat) : Int)) from hk.slot 66 (by kernel_rfl))]; go_simp; exact IntWalk.u64_in _ (by have := HS9.out; omega)) ⟨rfl, rfl⟩⟩)⟩
    · exact ⟨wanted_free rfl, .inr (.inr ⟨by decide, by decide, fun wx hst hst2 => gp_bin rfl (show a.eval (.tmp 64) = (.int .u64 (IntKind.u64.wrap by_)) from hk.slot 64 (by kernel_rfl)) (show a.eval (.tmp 67) = (.int .u64 ((s + 1 : Nat) : Int)) from hk.slot 67 (by kernel_rfl)) (v := (.int .u64 ((IntKind.u64.wrap by_).tmod ((s + 1 : Nat) : Int)))) (fun w => by go_simp; omega) ⟨rfl, rfl⟩⟩)⟩
    · exact ⟨wanted_free rfl, .inr (.inr ⟨by decide, by decide, fun wx hst hst2 => gp_run (v := (.int .i64 (m : Int))) (w' := wx) (by unfold execOp; simp only [(show a.eval (.tmp 68) = (.int .u64 ((IntKind.u64.wrap by_).tmod ((s + 1 : Nat) : Int))) from hk.slot 68 (by kernel_rfl))]; go_simp; exact (IntWalk.i64_left _).trans em) ⟨rfl, rfl⟩⟩)⟩
    · refine ⟨wanted_free rfl, .inl ⟨rfl, fun wx hst => ?_⟩⟩
      have hz9 : wx.heap.size = zz := by rw [hst.2]; exact HZzz.out.symm
      exact gp_make btP (.tmp 69) (.tmp 69) rfl m (hk.slot 69 (by kernel_rfl)) (hk.slot 69 (by kernel_rfl)) HMm.out (fun w' ho hg => ⟨⟨by rw [← hz9]; exact ho.low (Nat.zero_le _), hst.1.trans ((Save.grown hg).below (by rw [hst.2]; exact Nat.le_refl _) (fun _ _ => by simp))⟩, by show _ = _; rw [hz9]; rfl⟩)
    · exact ⟨wanted_free rfl, .inr (.inr ⟨by decide, by decide, fun wx hst hst2 => gp_index (.tmp 61) (.tmp 62) rfl (show a.eval (.tmp 61) = (.slice (some ⟨g, 0, none⟩) n0 U.pc) from hk.slot 61 (by kernel_rfl)) (show a.eval (.tmp 62) = (.int .i64 (k : Int)) from hk.slot 62 (by kernel_rfl)) (v := (.pointer (some ⟨g, k * 5, none⟩))) (i0 wx) ⟨rfl, rfl⟩⟩)⟩
    · exact ⟨wanted_free rfl, .inr (.inr ⟨by decide, by decide, fun wx hst hst2 => gp_field (.tmp 71) rfl (show a.eval (.tmp 71) = (.pointer (some ⟨g, k * 5, none⟩)) from hk.slot 71 (by kernel_rfl)) (v := (.pointer (some ⟨g, k * 5 + 4, none⟩))) (fun w => by kernel_rfl) ⟨rfl, rfl⟩⟩)⟩
    · refine ⟨wanted_free rfl, .inr (.inl ⟨rfl, fun wx hst => ?_⟩)⟩
      have hh := HH2.out.stay cPt_len hst.2
      exact gp_store (.tmp 72) (.tmp 70) rfl (hk.slot 72 (by kernel_rfl)) (hk.slot 70 (by kernel_rfl)) (store_slice (fun w => by kernel_rfl) (keep hst.2 d4) (hh.free _)) ⟨⟨hh.set cPt_len HK2.out (by decide) (x := x2) HX2.out, hst.1.save Save.set (fun j hj => by simp [Go.Cit.blk] at hj; have := HZGzz.out; omega), (Save.of hst.2).trans Save.set⟩, trivial⟩
  intro a wC hfin hsame hall
  have he := act_same hsame [60, 61, 62, 63, 64, 65, 66, 67, 68, 69, 70, 71, 72] (by kernel_rfl)
  simp only [List.foldl_cons, List.foldl_nil] at he
  generalize a.eval (.tmp 60) = y60 at he
  generalize a.eval (.tmp 61) = y61 at he
  generalize a.eval (.tmp 62) = y62 at he
  generalize a.eval (.tmp 63) = y63 at he
  generalize a.eval (.tmp 64) = y64 at he
  generalize a.eval (.tmp 65) = y65 at he
  generalize a.eval (.tmp 66) = y66 at he
  generalize a.eval (.tmp 67) = y67 at he
  generalize a.eval (.tmp 68) = y68 at he
  generalize a.eval (.tmp 69) = y69 at he
  generalize a.eval (.tmp 70) = y70 at he
  generalize a.eval (.tmp 71) = y71 at he
  generalize a.eval (.tmp 72) = y72 at he
  simp only [put_lit] at he
  dsimp only [List.set_cons_zero, List.set_cons_succ] at he
  subst he
  clear hsame hall
  obtain ⟨hh2, ho2, hs2⟩ := hfin
  have e20 : x2.id = U.ps[k].id := by rw [hx2.out, hx1.out, hx0.out]
  have e21 : x2.reg = U.ps[k].reg := by rw [hx2.out, hx1.out, hx0.out]
  have e22 : x2.img = List.replicate m 0 := by rw [hx2.out]
  have e23 : x2.reg.size.1 = (s : Int) := by rw [← hsz.out.1, hx2.out, hx1.out]
  have HE2 := Lib.hid (And.intro e20 (And.intro e21 (And.intro e22 e23)))
  have hS2 := HS1.out.trans hs2
  have HS2 := Lib.hid hS2
  have hh2' := hh2
  rw [List.set_set] at hh2'
  obtain ⟨D, hD⟩ : ∃ D, Hid (D = setV U k x2) := ⟨_, rfl⟩
  have HDA : Hid (D.At wC) := by
    rw [hD.out]
    exact set_at HOA.out.1 HOA.out.2 hS2 hh2' HH.out.blk (by rw [hx2.out]; exact ho2.isRow)
  have HDE : Hid (errs D = []) := by
    rw [hD.out, Hid, set_errs HGU.out HKL.out e20 e21, e23, e22, List.length_replicate, if_neg (by have := HMM.out; omega)]
  have HDS : Hid (SmallV D) := by rw [hD.out]; exact set_small HSV.out (by rw [e22, List.length_replicate]; have := HMM.out; have := HS9.out; omega)
  have HYC : Hid (wC.heap[y]? = some (bxO D)) := by
    rw [Hid, hS2.block y HY.out.2.1 HY.out.1, HBY2.out, hD.out]
    show some (Obj.cells #[.slice U.wa U.ws.length U.wc, .slice (some ⟨g, 0, none⟩) n0 U.pc, .slice U.ca U.cs.length U.cc] 26 (0, 0)) = some (Obj.cells #[.slice U.wa U.ws.length U.wc, .slice U.pa (U.ps.set k x2).length U.pc, .slice U.ca U.cs.length U.cc] 26 (0, 0))
    rw [HOA.out.2, List.length_set, hn0.out]
  have HBC : Hid (Below w0.heap.size w0 wC) := HBA.out.trans (hS2.below HBA.out.size (fun j hj => by have := HGY.out; omega))
  have hf := fits_calls wC D HDA.out HDS.out
  rw [show fitsV D = true by unfold fitsV; rw [HDE.out]; rfl] at hf
  have HFC := Lib.hid hf
  have HHC := Lib.hid hh2
  obtain ⟨c0, c1, c2⟩ := in_of HYC.out
  clear e20 e21 e22 e23 hS2 hh2' hf hh2 ho2 hs2 d1 d2 d4 t1 t2 t3
  go_wp2_with fail
  refine (HFC.out).mono ?_
  rintro e wD ⟨rfl, hbD⟩
  have HBD := Lib.hid hbD
  have HYD : Hid (wD.heap[y]? = some (.cells #[.slice U.wa U.ws.length U.wc, .slice (some ⟨g, 0, none⟩) n0 U.pc, .slice U.ca U.cs.length U.cc] 26 (0, 0))) := blk_stay ((HS2.out.block y HY.out.2.1 HY.out.1).trans HBY2.out) hbD
  have d1 : wD.cell? ⟨y, 1, none⟩ = some (.slice (some ⟨g, 0, none⟩) n0 U.pc) := by rw [World.cell?, HYD.out]; rfl
  have HH3 : Hid (Held cPt 5 43 wD g ((U.ps.set k x1).set k x2) U.pc) := HHC.out.stay cPt_len hbD
  have HK3 : Hid (k < ((U.ps.set k x1).set k x2).length) := by rw [Hid, List.length_set, List.length_set]; exact HKL.out
  have d4 : wD.cell? ⟨g, k * 5 + 4, none⟩ = some (.slice x2.a x2.img.length x2.c) := by
    have := HH3.out.vec.cell k HK3.out 4 (by decide)
    rw [ad_some, List.getElem_set_self] at this
    rw [this]; rfl
  obtain ⟨me, HMS⟩ : ∃ me, Hid (me = s + 1) := ⟨_, rfl⟩
  have HMme : Hid (me ≤ 1000000000) := by have := HS9.out; have := HMS.out; rw [Hid]; omega
  obtain ⟨ze, hze⟩ : ∃ z, Hid (z = wD.heap.size) := ⟨_, rfl⟩
  have HZze : Hid (ze = wD.heap.size) := hze.out
  have HZGze : Hid (g < ze) := by rw [Hid, hze.out]; exact Nat.lt_of_lt_of_le HY.out.2.2 (Nat.le_trans HS2.out.size hbD.size)
  obtain ⟨x3, hx3⟩ : ∃ x : PtV, Hid (x = { x2 with a := some ⟨ze, 0, none⟩, img := List.replicate me 0, c := me }) := ⟨_, rfl⟩
  have HX3 : Hid (cPt x3 = (cPt (((U.ps.set k x1).set k x2)[k]'HK3.out)).set 4 (.slice (some ⟨ze, 0, none⟩) me me)) := by rw [Hid, hx3.out, List.getElem_set_self]; simp
  clear hbD c0 c1 c2
  go_upto_region 12 with fail
  refine wp_region_two (vl12 U n0 g y k s me ze) (vl12o U n0 g y k s me ze) [7, 8, 9] 5 8 (fun wx => Cit.Own 5 0 wx (some ⟨ze, 0, none⟩) (List.replicate me 0) me ∧ Below wD.heap.size wD wx) (fun wx => Held cPt 5 43 wx g (((U.ps.set k x1).set k x2).set k x3) U.pc ∧ Cit.Own 5 0 wx (some ⟨ze, 0, none⟩) (List.replicate me 0) me ∧ Save (· ≠ g) wD wx) (by kernel_rfl) (by kernel_rfl) (by kernel_rfl) (by decide) ⟨rfl, rfl, rfl, trivial⟩ ?_ ?_
  · refine opsAll_cons ?_ (opsAll_cons ?_ (opsAll_cons ?_ (opsAll_cons ?_ (opsAll_cons ?_ (opsAll_cons ?_ (opsAll_cons ?_ (opsAll_cons ?_ (opsAll_cons ?_ opsAll_nil))))))))
    all_goals intro a hk
    · exact ⟨wanted_free rfl, .inr (.inr ⟨by decide, by decide, fun wx hst hst2 => gp_field (.tmp 7) rfl (show a.eval (.tmp 7) = (.pointer (some ⟨y, 0, none⟩)) from hk.old 7 (by kernel_rfl)) (v := (.pointer (some ⟨y, 1, none⟩))) (fun w => by kernel_rfl) ⟨rfl, rfl⟩⟩)⟩
    · exact ⟨wanted_free rfl, .inr (.inr ⟨by decide, by decide, fun wx hst hst2 => gp_load (.tmp 76) rfl (show a.eval (.tmp 76) = (.pointer (some ⟨y, 1, none⟩)) from hk.slot 76 (by kernel_rfl)) (v := (.slice (some ⟨g, 0, none⟩) n0 U.pc)) ((fun (q : After _) => load_at (fun w => by kernel_rfl) (keep q.bel d1)) ⟨wx, (hst2 (by kernel_rfl)).elim (fun h => h.1) (fun h => h.2)⟩) ⟨rfl, rfl⟩⟩)⟩
    · exact ⟨wanted_free rfl, .inr (.inr ⟨by decide, by decide, fun wx hst hst2 => gp_move (.tmp 8) rfl ⟨rfl, (show a.eval (.tmp 8) = (.int .i64 (k : Int)) from hk.old 8 (by kernel_rfl))⟩⟩)⟩
    · exact ⟨wanted_free rfl, .inr (.inr ⟨by decide, by decide, fun wx hst hst2 => gp_move (.tmp 9) rfl ⟨rfl, (show a.eval (.tmp 9) = (.int .i64 (s : Int)) from hk.old 9 (by kernel_rfl))⟩⟩)⟩
    · exact ⟨wanted_free rfl, .inr (.inr ⟨by decide, by decide, fun wx hst hst2 => gp_bin rfl (show a.eval (.tmp 79) = (.int .i64 (s : Int)) from hk.slot 79 (by kernel_rfl)) rfl (v := (.int .i64 (me : Int))) (fun w => by have := HS9.out; have := HMS.out; go_simp; exact (IntWalk.i64_in _ (by omega)).trans (by omega)) ⟨rfl, rfl⟩⟩)⟩
    · refine ⟨wanted_free rfl, .inl ⟨rfl, fun wx hst => ?_⟩⟩
      have hz9 : wx.heap.size = ze := by rw [hst.2]; exact HZze.out.symm
      exact gp_make btP (.tmp 80) (.tmp 80) rfl me (hk.slot 80 (by kernel_rfl)) (hk.slot 80 (by kernel_rfl)) HMme.out (fun w' ho hg => ⟨⟨by rw [← hz9]; exact ho.low (Nat.zero_le _), hst.1.trans ((Save.grown hg).below (by rw [hst.2]; exact Nat.le_refl _) (fun _ _ => by simp))⟩, by show _ = _; rw [hz9]; rfl⟩)
    · exact ⟨wanted_free rfl, .inr (.inr ⟨by decide, by decide, fun wx hst hst2 => gp_index (.tmp 77) (.tmp 78) rfl (show a.eval (.tmp 77) = (.slice (some ⟨g, 0, none⟩) n0 U.pc) from hk.slot 77 (by kernel_rfl)) (show a.eval (.tmp 78) = (.int .i64 (k : Int)) from hk.slot 78 (by kernel_rfl)) (v := (.pointer (some ⟨g, k * 5, none⟩))) (i0 wx) ⟨rfl, rfl⟩⟩)⟩
    · exact ⟨wanted_free rfl, .inr (.inr ⟨by decide, by decide, fun wx hst hst2 => gp_field (.tmp 82) rfl (show a.eval (.tmp 82) = (.pointer (some ⟨g, k * 5, none⟩)) from hk.slot 82 (by kernel_rfl)) (v := (.pointer (some ⟨g, k * 5 + 4, none⟩))) (fun w => by kernel_rfl) ⟨rfl, rfl⟩⟩)⟩
    · refine ⟨wanted_free rfl, .inr (.inl ⟨rfl, fun wx hst => ?_⟩)⟩
      have hh := HH3.out.stay cPt_len hst.2
      exact gp_store (.tmp 83) (.tmp 81) rfl (hk.slot 83 (by kernel_rfl)) (hk.slot 81 (by kernel_rfl)) (store_slice (fun w => by kernel_rfl) (keep hst.2 d4) (hh.free _)) ⟨⟨hh.set cPt_len HK3.out (by decide) (x := x3) HX3.out, hst.1.save Save.set (fun j hj => by simp [Go.Cit.blk] at hj; have := HZGze.out; omega), (Save.of hst.2).trans Save.set⟩, trivial⟩
  intro a wF hfin hsame hall
  have he := act_same hsame [76, 77, 78, 79, 80, 81, 82, 83] (by kernel_rfl)
  simp only [List.foldl_cons, List.foldl_nil] at he
  generalize a.eval (.tmp 76) = y76 at he
  generalize a.eval (.tmp 77) = y77 at he
  generalize a.eval (.tmp 78) = y78 at he
  generalize a.eval (.tmp 79) = y79 at he
  generalize a.eval (.tmp 80) = y80 at he
  generalize a.eval (.tmp 81) = y81 at he
  generalize a.eval (.tmp 82) = y82 at he
  generalize a.eval (.tmp 83) = y83 at he
  simp only [put_lit] at he
  dsimp only [List.set_cons_zero, List.set_cons_succ] at he
  subst he
  clear hsame hall
  obtain ⟨hh3, ho3, hs3⟩ := hfin
  have e30 : x3.id = U.ps[k].id := by rw [hx3.out]; exact HE2.out.1
  have e31 : x3.reg = U.ps[k].reg := by rw [hx3.out]; exact HE2.out.2.1
  have e32 : x3.img = List.replicate me 0 := by rw [hx3.out]
  have e33 : x3.reg.size.1 = (s : Int) := by rw [hx3.out]; exact HE2.out.2.2.2
  have hS3 := (HS2.out.trans (Save.of HBD.out)).trans hs3
  rw [List.set_set, List.set_set] at hh3
  obtain ⟨D3, hD3⟩ : ∃ D, Hid (D = setV U k x3) := ⟨_, rfl⟩
  have HDA3 : Hid (D3.At wF) := by
    rw [hD3.out]
    exact set_at HOA.out.1 HOA.out.2 hS3 hh3 HH.out.blk (by rw [hx3.out]; exact ho3.isRow)
  have HDE3 : Hid (errs D3 = [80]) := by
    rw [hD3.out, Hid, set_errs HGU.out HKL.out e30 e31, e33, e32, List.length_replicate, if_pos (by have := HMS.out; omega)]
  have HDS3 : Hid (SmallV D3) := by rw [hD3.out]; exact set_small HSV.out (by rw [e32, List.length_replicate]; have := HMS.out; have := HS9.out; omega)
  have HYF : Hid (wF.heap[y]? = some (bxO D3)) := by
    rw [Hid, hS3.block y HY.out.2.1 HY.out.1, HBY2.out, hD3.out]
    show some (Obj.cells #[.slice U.wa U.ws.length U.wc, .slice (some ⟨g, 0, none⟩) n0 U.pc, .slice U.ca U.cs.length U.cc] 26 (0, 0)) = some (Obj.cells #[.slice U.wa U.ws.length U.wc, .slice U.pa (U.ps.set k x3).length U.pc, .slice U.ca U.cs.length U.cc] 26 (0, 0))
    rw [HOA.out.2, List.length_set, hn0.out]
  have HBF : Hid (Below w0.heap.size w0 wF) := HBA.out.trans (hS3.below HBA.out.size (fun j hj => by have := HGY.out; omega))
  obtain ⟨c0, c1, c2⟩ := in_of HYF.out
  clear e30 e31 e32 e33 hS3 hh3 ho3 hs3 d1 d4
  go_wp2_with fail
  refine (is_lit wF D3 HDA3.out HDS3.out #[.int .i64 80] [80] rfl (by decide) HDE3.out 1 rfl _ rfl).mono ?_
  rintro e wG ⟨rfl, hbG⟩
  have HBG := Lib.hid (HBF.out.trans (hbG.mono HBF.out.size))
  clear hbG c0 c1 c2
  obtain ⟨c0, c1, c2⟩ := HI.out.keep HBG.out
  by_cases hz : V.cs.length = 0
  · have t1 : ((V.cs.length : Int) == 0) = true := by rw [hz]; rfl
    have t2 : (V.cs.length == 0) = true := by rw [hz]; rfl
    have HAW := Lib.hid (awake_is wG)
    have HZ := Lib.hid hz
    clear hz
    go_wp2_with fail
    refine (HAW.out).mono ?_
    rintro e w8 ⟨rfl, hb8⟩
    have HB9 := Lib.hid (HB0.out.trans ((HBG.out.trans (hb8.mono HBG.out.size)).mono HB0.out.size))
    clear hb8
    go_wp2_with fail
    go_ret
    exact ⟨rfl, HB9.out⟩
  · have t1 : ((V.cs.length : Int) == 0) = false := by rw [beq_eq_false_iff_ne]; omega
    have HZ := Lib.hid hz
    have HCP := Lib.hid (copied_calls wG V (HV.out.stay HBG.out) hs)
    go_wp2_with fail
    refine (HCP.out).mono ?_
    rintro e w5 ⟨F, rfl, hF, hO, hb5⟩
    have HFU := Lib.hid hF
    have HFL : Hid (F.cs.length = V.cs.length) := by
      have := congrArg (fun c => c.chans.length) hF
      rw [Hid]; simpa [CfgV.cfg] using this
    have HSF : Hid (SmallV F) := small_cfg hF hs
    have hne : F.cs ≠ [] := by intro h0; have := HFL.out; rw [h0] at this; simp at this; omega
    obtain ⟨g2, hca, hgB, hg3⟩ := own_addr hO.chs hne
    have HB5 := Lib.hid (HBG.out.trans (hb5.mono HBG.out.size))
    obtain ⟨wE, hwE⟩ : ∃ wE, wE = w5.alloc (.cells #[.slice F.wa F.ws.length F.wc, .slice F.pa F.ps.length F.pc, .slice (some ⟨g2, 0, none⟩) F.cs.length F.cc] 26) := ⟨_, rfl⟩
    obtain ⟨y2, hy2⟩ : ∃ y, y = w5.heap.size := ⟨_, rfl⟩
    have hbE : Below w5.heap.size w5 wE := by rw [hwE]; exact (Below.refl _ w5).alloc (Nat.le_refl _) _
    have HBE := Lib.hid (HB5.out.trans (hbE.mono HB5.out.size))
    have HBYE : Hid (wE.heap[y2]? = some (.cells #[.slice F.wa F.ws.length F.wc, .slice F.pa F.ps.length F.pc, .slice (some ⟨g2, 0, none⟩) F.cs.length F.cc] 26 (0, 0))) := by rw [hwE, hy2]; exact heap_alloc_new _ _
    have hOE := hO.stay hbE
    have hop := hOE.chs
    rw [hca] at hop
    have HOP := Lib.hid hop
    have HGY2 : Hid (w0.heap.size ≤ g2 ∧ w0.heap.size ≤ y2) := ⟨Nat.le_trans HBG.out.size hgB, by rw [hy2]; exact HB5.out.size⟩
    have HLE : Hid (F.cs.length ≤ F.cc ∧ F.cc ≤ maxLen) := ⟨(hop.vec cCh_len).le, (hop.vec cCh_len).top⟩
    have HOE := Lib.hid (And.intro hOE (And.intro hca hne))
    have hy2e : y2 ≠ g2 := by omega
    obtain ⟨HYo, HBYo⟩ : Hid True ∧ Hid True := ⟨trivial, trivial⟩
    have HY : Hid (y2 ≠ g2 ∧ y2 < wE.heap.size) := ⟨hy2e, (Array.getElem?_eq_some_iff.1 HBYE.out).1⟩
    have HBY := HBYE
    rw [hca]
    have hfew : 1 ≤ F.cs.length ∧ F.cs.length ≤ 8 := by have := HFL.out; have := GO.out.chn; omega
    clear hF hO hb5 HCP c0 c1 c2 hop hOE hca hne hgB hg3 hbE t1 hz hy2e
    go_upto_region 19 with fail
    rw [← hwE, ← hy2]
    clear hwE hy2
    obtain ⟨j, hj, ej⟩ := pick_of wh F.cs.length (by omega) (by omega)
    rw [ej]
    have HJL := Lib.hid hj
    have d1 : wE.cell? ⟨y2, 2, none⟩ = some (.slice (some ⟨g2, 0, none⟩) F.cs.length F.cc) := by rw [World.cell?, HBYE.out]; rfl
    clear ej hj hfew
    refine wp_region_two (vl19 F g2 y2 j) (vl19o F g2 y2 j) [8, 10] 9 11 (fun wx => Vec cCh 5 wx (some ⟨g2, 0, none⟩) (F.cs.eraseIdx j) F.cc ∧ Save (· ≠ g2) wE wx) (fun wx => Vec cCh 5 wx (some ⟨g2, 0, none⟩) (F.cs.eraseIdx j) F.cc ∧ Save (fun q => q ≠ g2 ∧ q ≠ y2) wE wx ∧ wx.heap[y2]? = some (.cells (#[.slice F.wa F.ws.length F.wc, .slice F.pa F.ps.length F.pc, .slice (some ⟨g2, 0, none⟩) F.cs.length F.cc].setIfInBounds 2 (.slice (some ⟨g2, 0, none⟩) (F.cs.length - 1) F.cc)) 26 (0, 0))) (by kernel_rfl) (by kernel_rfl) (by kernel_rfl) (by decide) ⟨rfl, rfl, trivial⟩ ?_ ?_
    · refine opsAll_cons ?_ (opsAll_cons ?_ (opsAll_cons ?_ (opsAll_cons ?_ (opsAll_cons ?_ (opsAll_cons ?_ (opsAll_cons ?_ (opsAll_cons ?_ (opsAll_cons ?_ (opsAll_cons ?_ (opsAll_cons ?_ (opsAll_cons ?_ opsAll_nil)))))))))))
      all_goals intro a hk
      · exact ⟨wanted_free rfl, .inr (.inr ⟨by decide, by decide, fun wx hst hst2 => gp_field (.tmp 10) rfl (show a.eval (.tmp 10) = (.pointer (some ⟨y2, 0, none⟩)) from hk.old 10 (by kernel_rfl)) (v := (.pointer (some ⟨y2, 2, none⟩))) (fun w => by kernel_rfl) ⟨rfl, rfl⟩⟩)⟩
      · exact ⟨wanted_free rfl, .inr (.inr ⟨by decide, by decide, fun wx hst hst2 => gp_load (.tmp 103) rfl (show a.eval (.tmp 103) = (.pointer (some ⟨y2, 2, none⟩)) from hk.slot 103 (by kernel_rfl)) (v := (.slice (some ⟨g2, 0, none⟩) F.cs.length F.cc)) ((fun (q : After _) => load_at (fun w => by kernel_rfl) (keep q.bel d1)) ⟨wx, (hst (by kernel_rfl)).1⟩) ⟨rfl, rfl⟩⟩)⟩
      · exact ⟨wanted_free rfl, .inr (.inr ⟨by decide, by decide, fun wx hst hst2 => gp_move (.tmp 8) rfl ⟨rfl, (show a.eval (.tmp 8) = (.int .i64 (j : Int)) from hk.old 8 (by kernel_rfl))⟩⟩)⟩
      · exact ⟨wanted_free rfl, .inr (.inr ⟨by decide, by decide, fun wx hst hst2 => gp_slice rfl (show a.eval (.tmp 104) = (.slice (some ⟨g2, 0, none⟩) F.cs.length F.cc) from hk.slot 104 (by kernel_rfl)) rfl (congrArg some (show a.eval (.tmp 105) = (.int .i64 (j : Int)) from hk.slot 105 (by kernel_rfl))) rfl (run_upto etC g2 F.cs.length F.cc j (Nat.le_of_lt HJL.out) HLE.out.1 HLE.out.2) ⟨rfl, rfl⟩⟩)⟩
      · exact ⟨wanted_free rfl, .inr (.inr ⟨by decide, by decide, fun wx hst hst2 => gp_field (.tmp 10) rfl (show a.eval (.tmp 10) = (.pointer (some ⟨y2, 0, none⟩)) from hk.old 10 (by kernel_rfl)) (v := (.pointer (some ⟨y2, 2, none⟩))) (fun w => by kernel_rfl) ⟨rfl, rfl⟩⟩)⟩
      · exact ⟨wanted_free rfl, .inr (.inr ⟨by decide, by decide, fun wx hst hst2 => gp_load (.tmp 107) rfl (show a.eval (.tmp 107) = (.pointer (some ⟨y2, 2, none⟩)) from hk.slot 107 (by kernel_rfl)) (v := (.slice (some ⟨g2, 0, none⟩) F.cs.length F.cc)) ((fun (q : After _) => load_at (fun w => by kernel_rfl) (keep q.bel d1)) ⟨wx, (hst (by kernel_rfl)).1⟩) ⟨rfl, rfl⟩⟩)⟩
      · exact ⟨wanted_free rfl, .inr (.inr ⟨by decide, by decide, fun wx hst hst2 => gp_move (.tmp 8) rfl ⟨rfl, (show a.eval (.tmp 8) = (.int .i64 (j : Int)) from hk.old 8 (by kernel_rfl))⟩⟩)⟩
      · exact ⟨wanted_free rfl, .inr (.inr ⟨by decide, by decide, fun wx hst hst2 => gp_bin rfl (show a.eval (.tmp 109) = (.int .i64 (j : Int)) from hk.slot 109 (by kernel_rfl)) rfl (v := (.int .i64 ((j + 1 : Nat) : Int))) (fun w => by have := HJL.out; have := HLE.out; unfold maxLen at this; go_simp; exact (IntWalk.i64_in _ (by omega)).trans (by omega)) ⟨rfl, rfl⟩⟩)⟩
      · exact ⟨wanted_free rfl, .inr (.inr ⟨by decide, by decide, fun wx hst hst2 => gp_slice rfl (show a.eval (.tmp 108) = (.slice (some ⟨g2, 0, none⟩) F.cs.length F.cc) from hk.slot 108 (by kernel_rfl)) (congrArg some (show a.eval (.tmp 110) = (.int .i64 ((j + 1 : Nat) : Int)) from hk.slot 110 (by kernel_rfl))) rfl rfl (run_behind etC g2 F.cs.length F.cc j HJL.out HLE.out.1 HLE.out.2) ⟨rfl, rfl⟩⟩)⟩
      · refine ⟨wanted_free rfl, .inl ⟨rfl, fun wx hst => ?_⟩⟩
        obtain ⟨w', hr, hv, hsv⟩ := run_del etC cCh_len cCh_one 24 (HOP.out.stay hst.1) HJL.out (behindA g2 5 F.cc (j + 1)) (fun hlt => behindA_at hlt HLE.out.1) (behindA_some _ _ _ _) (F.cc - (j + 1))
        exact gp_run (exec_append rfl (hk.slot 106 (by kernel_rfl)) (hk.slot 111 (by kernel_rfl)) hr) ⟨⟨hv, (Save.of hst.1).trans hsv⟩, rfl⟩
      · exact ⟨wanted_free rfl, .inr (.inr ⟨by decide, by decide, fun wx hst hst2 => gp_field (.tmp 10) rfl (show a.eval (.tmp 10) = (.pointer (some ⟨y2, 0, none⟩)) from hk.old 10 (by kernel_rfl)) (v := (.pointer (some ⟨y2, 2, none⟩))) (fun w => by kernel_rfl) ⟨rfl, rfl⟩⟩)⟩
      · refine ⟨wanted_free rfl, .inr (.inl ⟨rfl, fun wx hst => ?_⟩)⟩
        have hb := (hst.2.block y2 HY.out.2 HY.out.1).trans HBY.out
        exact gp_store (.tmp 113) (.tmp 112) rfl (hk.slot 113 (by kernel_rfl)) (hk.slot 112 (by kernel_rfl)) (store_slice (fun w => by kernel_rfl) (by rw [World.cell?, hb]; rfl) (by rw [World.frozen?, hb]; rfl)) ⟨⟨hst.1.save cCh_len (Save.set (b := y2) (i := 2)) (fun _ j hj => by simp [Go.Cit.blk] at hj; have := HY.out.1; omega), (hst.2.less (fun _ _ hj => hj.1)).trans ((Save.set (b := y2) (i := 2)).less (fun _ _ hj => hj.2)), setCell_blk _ hb⟩, trivial⟩
    intro a wz hfin hsame hall
    have he := act_same hsame [103, 104, 105, 106, 107, 108, 109, 110, 111, 112, 113] (by kernel_rfl)
    simp only [List.foldl_cons, List.foldl_nil] at he
    generalize a.eval (.tmp 103) = y103 at he
    generalize a.eval (.tmp 104) = y104 at he
    generalize a.eval (.tmp 105) = y105 at he
    generalize a.eval (.tmp 106) = y106 at he
    generalize a.eval (.tmp 107) = y107 at he
    generalize a.eval (.tmp 108) = y108 at he
    generalize a.eval (.tmp 109) = y109 at he
    generalize a.eval (.tmp 110) = y110 at he
    generalize a.eval (.tmp 111) = y111 at he
    generalize a.eval (.tmp 112) = y112 at he
    generalize a.eval (.tmp 113) = y113 at he
    simp only [put_lit] at he
    dsimp only [List.set_cons_zero, List.set_cons_succ] at he
    subst he
    clear hsame hall
    have hLA := del_at HOE.out.1 HOE.out.2.1 HOE.out.2.2 HBYE.out hfin.2.1 hfin.1
    have hXY := hfin.2.2
    obtain ⟨G, hG⟩ : ∃ G, Hid (G = delC F j) := ⟨_, rfl⟩
    have HGA : Hid (G.At wz) := by rw [hG.out]; exact hLA
    have HXY : Hid (wz.heap[y2]? = some (bxO G)) := by
      rw [Hid, hXY, hG.out]
      show _ = some (Obj.cells #[.slice F.wa F.ws.length F.wc, .slice F.pa F.ps.length F.pc, .slice F.ca (F.cs.eraseIdx j).length F.cc] 26 (0, 0))
      rw [HOE.out.2.1, List.length_eraseIdx_of_lt HJL.out]
      rfl
    have HBZ : Hid (Below w0.heap.size w0 wz) := HBE.out.trans (hfin.2.1.below HBE.out.size (fun q hq => by have := HGY2.out; omega))
    have HGS : Hid (SmallV G) := by
      rw [hG.out]
      exact ⟨HSF.out.win, HSF.out.pts, Nat.le_trans (List.length_eraseIdx_le _ _) HSF.out.chs, HSF.out.img⟩
    have hf := fits_calls wz G HGA.out HGS.out
    rw [show fitsV G = true by unfold fitsV; rw [hG.out, errs_cfg (del_cfg HFU.out j), good_iff.2 (del_good GO.out j)]; rfl] at hf
    have HFC := Lib.hid hf
    obtain ⟨c0, c1, c2⟩ := in_of HXY.out
    clear hfin hLA hXY hf d1
    go_wp2_with fail
    refine (HFC.out).mono ?_
    rintro e w7 ⟨rfl, hb7⟩
    have HB7 := Lib.hid (HBZ.out.trans (hb7.mono HBZ.out.size))
    have HAW := Lib.hid (awake_is w7)
    clear hb7 c0 c1 c2
    go_wp2_with fail
    refine (HAW.out).mono ?_
    rintro e w8 ⟨rfl, hb8⟩
    have HB9 := Lib.hid (HB0.out.trans ((HB7.out.trans (hb8.mono HB7.out.size)).mono HB0.out.size))
    clear hb8
    go_wp2_with fail
    go_ret
    exact ⟨rfl, HB9.out⟩
set_option maxRecDepth 100000 in
set_option maxHeartbeats 4000000 in
theorem validLess_out (w : World) (V : CfgV) (wh by_ : Int) (h : V.At w) (hb : ∀ x ∈ V.ps, x.img.length ≤ 140737488351232) (hg : greatV V = true ∨ errs V ≠ []) : Calls Try.prog 4 #[.agg #[.slice V.wa V.ws.length V.wc, .slice V.pa V.ps.length V.pc, .slice V.ca V.cs.length V.cc], .int .i64 wh, .int .i64 by_] w fun e w' => e = .returned (.bool true) ∧ Below w.heap.size w w' := by
  obtain ⟨w0, hw0⟩ : ∃ w0, w0 = w.alloc (.cells #[.slice V.wa V.ws.length V.wc, .slice V.pa V.ps.length V.pc, .slice V.ca V.cs.length V.cc] 26) := ⟨_, rfl⟩
  have B0 : Below w.heap.size w w0 := by rw [hw0]; exact (Below.refl _ w).alloc (Nat.le_refl _) _
  have hI : InBox w0 w.heap.size V := by rw [hw0]; exact inBox_new w V _
  have HV := Lib.hid (h.stay B0)
  have HI := Lib.hid hI
  have HB0 := Lib.hid B0
  have HC := Lib.hid (cgreat_calls w0 V (h.stay B0) hb)
  obtain ⟨g, hgg⟩ : ∃ g, Hid (g = greatV V) := ⟨_, rfl⟩
  rw [← hgg.out] at HC hg
  have HG := Lib.hid hg
  have hl2 := h.pts.len_le
  clear h B0 hI hg
  cases g with
  | true =>
    go_enter Try.func4, Try.ntmps4
    go_wp2_with fail
    rw [← hw0]
    clear hw0
    refine (HC.out).mono ?_
    rintro e w1 ⟨rfl, hb1⟩
    have HB1 := Lib.hid (HB0.out.trans (hb1.mono HB0.out.size))
    have HAW := Lib.hid (awake_is w1)
    clear hb1
    go_wp2_with fail
    refine (HAW.out).mono ?_
    rintro e w2 ⟨rfl, hb2⟩
    have HB2 := Lib.hid (HB1.out.trans (hb2.mono HB1.out.size))
    clear hb2
    go_wp2_with fail
    go_ret
    exact ⟨rfl, HB2.out⟩
  | false =>
    have hs := small_of hgg.out.symm
    obtain ⟨f, hf0⟩ : ∃ f, Hid (f = fitsV V) := ⟨_, rfl⟩
    have HG2 : Hid (f = false) := by
      rw [Hid, hf0.out]; unfold fitsV
      rw [decide_eq_false_iff_not]
      rcases HG.out with h | h
      · exact absurd h (by decide)
      · exact h
    cases f with
    | false =>
      go_enter Try.func4, Try.ntmps4
      go_wp2_with fail
      rw [← hw0]
      clear hw0
      refine (HC.out).mono ?_
      rintro e w1 ⟨rfl, hb1⟩
      have hf := fits_calls w1 V (HV.out.stay hb1) hs
      rw [← hf0.out] at hf
      have HFC := Lib.hid hf
      obtain ⟨c0, c1, c2⟩ := HI.out.keep hb1
      have HB1 := Lib.hid (HB0.out.trans (hb1.mono HB0.out.size))
      clear hb1 hf
      go_wp2_with fail
      refine (HFC.out).mono ?_
      rintro e w2 ⟨rfl, hb2⟩
      have HB2 := Lib.hid (HB1.out.trans (hb2.mono HB1.out.size))
      have HAW := Lib.hid (awake_is w2)
      clear hb2 c0 c1 c2
      go_wp2_with fail
      refine (HAW.out).mono ?_
      rintro e w3 ⟨rfl, hb3⟩
      have HB3 := Lib.hid (HB2.out.trans (hb3.mono HB2.out.size))
      clear hb3
      go_wp2_with fail
      go_ret
      exact ⟨rfl, HB3.out⟩
    | true => exact absurd HG2.out (by decide)
theorem validLess_law (w : World) (V : CfgV) (wh by_ : Int) (h : V.At w) (hb : ∀ x ∈ V.ps, x.img.length ≤ 140737488351232) : Calls Try.prog 4 #[.agg (cCfg V).toArray, .int .i64 wh, .int .i64 by_] w fun e w' => e = .returned (.bool true) ∧ Below w.heap.size w w' := by
  by_cases hg : greatV V = true ∨ errs V ≠ []
  · exact validLess_out w V wh by_ h hb hg
  · have h1 : greatV V = false := by cases hq : greatV V <;> simp_all
    have h2 : errs V = [] := by by_cases hq : errs V = [] <;> simp_all
    exact validLess_in w V wh by_ h hb h1 h2
theorem validLess_all (w : World) (V : CfgV) (wh by_ : Int) (h : V.At w) (hb : ∀ x ∈ V.ps, x.img.length ≤ 140737488351232) (_ : -9223372036854775808 ≤ wh ∧ wh ≤ 9223372036854775807) (_ : -9223372036854775808 ≤ by_ ∧ by_ ≤ 9223372036854775807) : Calls Try.prog 4 #[.agg (cCfg V).toArray, .int .i64 wh, .int .i64 by_] w fun e w' => e = .returned (.bool true) ∧ Below w.heap.size w w' := validLess_law w V wh by_ h hb
end Go.Proofs.Ytpnbaapjjchlbaa
