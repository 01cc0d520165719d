/- Chapter 13's law: awake: walked. What the answers hang on: the configurations' fields alone. -/
import Derived.Test.YtpnbaapjjchlbaaShown13
import Derived.Test.YtpnbaapjjchlbaaRefChan13
import Derived.Test.YtpnbaapjjchlbaaGk
import Derived.Test.YtpnbaapjjchlbaaLawValidLess
namespace Go.Proofs.Ytpnbaapjjchlbaa
open Go Go.RowKit Go.Cit

theorem ps_cfg {V U : CfgV} (h : V.cfg = U.cfg) : V.ps.map PtV.pt = U.ps.map PtV.pt := congrArg Cfg.parts h
theorem cs_cfg {V U : CfgV} (h : V.cfg = U.cfg) : V.cs = U.cs := congrArg Cfg.chans h
theorem hasP_map (ps : List PtV) (x : Int) : hasP ps x = (ps.map PtV.pt).any fun p => decide (p.id.1 = x) := by
  unfold hasP; rw [List.any_map]; rfl
theorem getP_map (ps : List PtV) (x : Int) : getP ps x = ((ps.map PtV.pt).find? fun p => decide (p.id.1 = x)).getD pt0 := by
  unfold getP; rw [List.find?_map]; rfl
theorem hasP_cfg {V U : CfgV} (h : V.cfg = U.cfg) (x : Int) : hasP V.ps x = hasP U.ps x := by rw [hasP_map, hasP_map, ps_cfg h]
theorem getP_cfg {V U : CfgV} (h : V.cfg = U.cfg) (x : Int) : getP V.ps x = getP U.ps x := by rw [getP_map, getP_map, ps_cfg h]
theorem both_cfg {V U W X : CfgV} (h : V.cfg = U.cfg) (k : W.cfg = X.cfg) (x : Int) : bothK V.ps W.ps x = bothK U.ps X.ps x := by unfold bothK; rw [hasP_cfg h, hasP_cfg k, getP_cfg h, getP_cfg k]
theorem same_cfg {V U W X : CfgV} (h : V.cfg = U.cfg) (k : W.cfg = X.cfg) (x : Int) : sameK V.ps W.ps x = sameK U.ps X.ps x := by unfold sameK; rw [both_cfg h k, getP_cfg h, getP_cfg k]
theorem may_cfg {V U W X : CfgV} (h : V.cfg = U.cfg) (k : W.cfg = X.cfg) : mayK V W = mayK U X := by unfold mayK fitsV; rw [errs_cfg h, errs_cfg k]
theorem surv_cfg {V U W X : CfgV} (h : V.cfg = U.cfg) (k : W.cfg = X.cfg) (x : Int) : survK V W x = survK U X x := by unfold survK; rw [same_cfg h k, may_cfg h k]
theorem check_cfg {V U W X : CfgV} (h : V.cfg = U.cfg) (k : W.cfg = X.cfg) : checkK V W = checkK U X := by
  rw [check_is, check_is]; unfold rcheckK
  rw [may_cfg h k, show oddR V W = oddR U X from funext fun j => by unfold oddR; rw [both_cfg h k, same_cfg h k]]
theorem rparts_cfg {V U W X : CfgV} (h : V.cfg = U.cfg) (k : W.cfg = X.cfg) (b : Bool) : rpartsK V W b = rpartsK U X b := by
  unfold rpartsK; rw [may_cfg h k, show rpartK V W b = rpartK U X b from funext fun x => by unfold rpartK; rw [hasP_cfg h, surv_cfg h k]]
theorem parts_cfg {V U W X : CfgV} (h : V.cfg = U.cfg) (k : W.cfg = X.cfg) : partsK V W = partsK U X := by rw [parts_is, parts_is, rparts_cfg h k]
theorem leav_cfg {V U W X : CfgV} (h : V.cfg = U.cfg) (k : W.cfg = X.cfg) : leavK V W = leavK U X := by rw [leav_is, leav_is, rparts_cfg h k]
theorem rchan_cfg {V U W X : CfgV} (h : V.cfg = U.cfg) (k : W.cfg = X.cfg) (x : Int) : rchanK V W x = rchanK U X x := by unfold rchanK; rw [cs_cfg h, cs_cfg k, surv_cfg h k, surv_cfg h k]
theorem chans_cfg {V U W X : CfgV} (h : V.cfg = U.cfg) (k : W.cfg = X.cfg) : chansK V W = chansK U X := by rw [chans_is, chans_is]; exact pickR_congr _ fun x => rchan_cfg h k x

def vA : CfgV := ⟨none, [win11], 0, none, [ptK i1 i0 i16 true, ptK i2 i16 i32 true, ptK i3 i48 i16 false], 0, none, [chA, chB], 0⟩
def vB : CfgV := ⟨none, [win11], 0, none, [ptK i1 i0 i16 true, ptK i2 i16 i32 false, ptK i4 i48 i16 false], 0, none, [chA], 0⟩
def vC : CfgV := ⟨none, [win11], 0, none, [ptK i1 i0 i16 true, ptK i2 i16 i16 true, ptK i3 i48 i16 false], 0, none, [chA, chB], 0⟩
def vZ : CfgV := ⟨none, [], 0, none, [], 0, none, [], 0⟩
theorem kAB : checkK vA vB = 0 := by kernel_rfl
theorem kAA : checkK vA vA = 0 := by kernel_rfl
theorem kAC : checkK vA vC = 130 := by kernel_rfl
theorem kAZ : checkK vA vZ = 2 := by kernel_rfl
theorem pAB : partsK vA vB = [1] := by kernel_rfl
theorem pAA : partsK vA vA = [1, 2] := by kernel_rfl
theorem lAB : leavK vA vB = [2, 3] := by kernel_rfl
theorem hAB : chansK vA vB = [] := by kernel_rfl
theorem hAA : chansK vA vA = [1] := by kernel_rfl
theorem s1AB : survK vA vB 1 = true := by kernel_rfl
theorem s2AB : survK vA vB 2 = false := by kernel_rfl
theorem small_A : SmallV vA := small_of_len (by simp [vA]) (by simp [vA]) (by simp [vA]) (by rfl)
theorem small_B : SmallV vB := small_of_len (by simp [vB]) (by simp [vB]) (by simp [vB]) (by rfl)
theorem small_C : SmallV vC := small_of_len (by simp [vC]) (by simp [vC]) (by simp [vC]) (by rfl)
theorem small_Z : SmallV vZ := small_of_len (by simp [vZ]) (by simp [vZ]) (by simp [vZ]) (by rfl)
theorem at_Z (w : World) : vZ.At w := ⟨Vec.nil_ _, Vec.nil_ _, Vec.nil_ _, fun x hx => by simp [vZ] at hx⟩
theorem same_lit (w : World) (a : Option Addr) (L : List Int) (c : Nat) (h : Vec cZ 1 w a L c) (cs : Array Value) (E : TypeId) (hc : cs = (L.flatMap cZ).toArray) (hl : L.length ≤ 10) (m : Nat) (hm : m = L.length) (k : Nat) (hk : k = w.heap.size) :
    Calls Try.prog 38 #[.slice a m c, .slice (some ⟨k, 0, none⟩) m m] (w.alloc (.cells cs E)) fun e w' => e = .returned (.bool true) ∧ Below w.heap.size w w' := by
  subst hm hk
  have B0 : Below w.heap.size w (w.alloc (.cells cs E)) := (Below.refl _ w).alloc (Nat.le_refl _) _
  have := sameL_calls (w.alloc (.cells cs E)) a (some ⟨w.heap.size, 0, none⟩) L L c L.length (h.stay cZ_len B0) (vec_lit w cs E 1 L cZ_len hc (by omega))
  rw [decide_eq_true rfl] at this
  exact this.mono fun e w' ⟨h1, h2⟩ => ⟨h1, B0.trans (h2.mono B0.size)⟩
theorem same_nil (w : World) (a : Option Addr) (c : Nat) (h : Vec cZ 1 w a ([] : List Int) c) :
    Calls Try.prog 38 #[.slice a 0 c, .slice none 0 0] w fun e w' => e = .returned (.bool true) ∧ Below w.heap.size w w' := by
  have := sameL_calls w a none [] [] c 0 h (Vec.nil_ _)
  rwa [decide_eq_true rfl] at this
theorem ints_is {f : Nat} {args : Array Value} {w : World} {L M : List Int} {B : Nat} (h : Calls Try.prog f args w fun e w' => ∃ a' c', e = .returned (.slice a' L.length c') ∧ VOwn cZ 1 3 B w' a' L c' ∧ Below w.heap.size w w') (e : L = M) (m : Nat) (hm : M.length = m) :
    Calls Try.prog f args w fun e w' => ∃ a' c', e = .returned (.slice a' m c') ∧ Vec cZ 1 w' a' M c' ∧ Below w.heap.size w w' := by
  subst e hm
  exact h.mono fun e w' ⟨a, c, h1, h2, h3⟩ => ⟨a, c, h1, h2.vec cZ_len, h3⟩
/-- Three variables, and what they hold. -/
structure Aw3 (w0 w : World) (p1 p2 p3 : Nat) (A B C : CfgV) : Prop where
  a : A.At w
  b : B.At w
  c : C.At w
  xa : w.heap[p1]? = some (.cells (cU A) 26 (0, 0))
  xb : w.heap[p2]? = some (.cells (cU B) 26 (0, 0))
  xc : w.heap[p3]? = some (.cells (cU C) 26 (0, 0))
  low : Below w0.heap.size w0 w
theorem Aw3.stay {w0 w w' : World} {p1 p2 p3 : Nat} {A B C : CfgV} (h : Aw3 w0 w p1 p2 p3 A B C) (hb : Below w.heap.size w w') : Aw3 w0 w' p1 p2 p3 A B C :=
  ⟨h.a.stay hb, h.b.stay hb, h.c.stay hb, blk_stay h.xa hb, blk_stay h.xb hb, blk_stay h.xc hb, h.low.trans (hb.mono h.low.size)⟩
theorem cU_in {w : World} {b : Nat} {V : CfgV} (h : w.heap[b]? = some (.cells (cU V) 26 (0, 0))) : InBox w b V := in_of h

set_option maxRecDepth 100000 in
set_option maxHeartbeats 4000000 in
theorem awake13_calls (w : World) : Calls Try.prog 41 #[] w fun e w' => e = .returned (.bool true) ∧ Below w.heap.size w w' := by
  have HC1 := Lib.hid (shown13_calls w)
  go_enter Try.func41, Try.ntmps41
  go_wp2_with fail
  refine (HC1.out).mono ?_
  rintro e w1 ⟨A, B, rfl, hA, hB, aA, aB, hb1⟩
  have HAB := Lib.hid (And.intro hA hB)
  obtain ⟨w2, hw2⟩ : ∃ w2, w2 = (w1.alloc (.cells (cU A) 26)).alloc (.cells (cU B) 26) := ⟨_, rfl⟩
  obtain ⟨p1, hp1⟩ : ∃ p, p = w1.heap.size := ⟨_, rfl⟩
  have b12 : Below w1.heap.size w1 w2 := by rw [hw2]; exact ((Below.refl _ w1).alloc (Nat.le_refl _) _).alloc (by simp) _
  have xa : w2.heap[p1]? = some (.cells (cU A) 26 (0, 0)) := by rw [hw2, hp1]; exact (Below.heap_alloc _ _ _ (by simp)).trans (heap_alloc_new w1 _)
  have xb : w2.heap[p1 + 1]? = some (.cells (cU B) 26 (0, 0)) := by
    have := heap_alloc_new (w1.alloc (.cells (cU A) 26)) (.cells (cU B) 26)
    rw [World.size_alloc] at this
    rw [hw2, hp1]; exact this
  have aA := aA.stay b12
  have aB := aB.stay b12
  have sA := small_cfg (U := A) (V := vA) hA small_A
  have HS := Lib.hid (And.intro sA (small_cfg (U := B) (V := vB) hB small_B))
  have HB2 := Lib.hid (hb1.trans (b12.mono hb1.size))
  have HCP := Lib.hid (copied_calls w2 A aA sA)
  have HX := Lib.hid (And.intro xa (And.intro xb (And.intro aA aB)))
  clear HC1 hA hB hb1 b12 aA aB sA xa xb
  go_upto_region 2 with fail
  rw [← hw2, ← hp1]
  clear hw2 hp1
  obtain ⟨c0, c1, c2⟩ := cU_in HX.out.1
  go_wp2_with fail
  refine (HCP.out).mono ?_
  rintro e w3 ⟨U, rfl, hU, hO, hb3⟩
  have hUA : U.cfg = vA.cfg := hU.trans HAB.out.1
  have hps : ∃ a0 a1 a2 d0 d1 d2, U.ps = [⟨i1, ⟨i0, i16⟩, true, a0, [], d0⟩, ⟨i2, ⟨i16, i32⟩, true, a1, [], d1⟩, ⟨i3, ⟨i48, i16⟩, false, a2, [], d2⟩] := by
    have h := ps_cfg hUA
    match hps : U.ps, h with
    | [], h => simp [vA] at h
    | [_], h => simp [vA] at h
    | [_, _], h => simp [vA] at h
    | [x0, x1, x2], h =>
      obtain ⟨x00, x01, x02, x03, x04, x05⟩ := x0
      obtain ⟨x10, x11, x12, x13, x14, x15⟩ := x1
      obtain ⟨x20, x21, x22, x23, x24, x25⟩ := x2
      simp only [vA, PtV.pt, List.map_cons, List.map_nil, List.cons.injEq, Pt.mk.injEq, and_true] at h
      obtain ⟨⟨rfl, rfl, rfl, rfl⟩, ⟨rfl, rfl, rfl, rfl⟩, ⟨rfl, rfl, rfl, rfl⟩⟩ := h
      exact ⟨_, _, _, _, _, _, rfl⟩
    | _ :: _ :: _ :: _ :: _, h => simp [vA] at h
  obtain ⟨a0, a1, a2, d0, d1, d2, hps⟩ := hps
  obtain ⟨g, hpa, hgB, hg3⟩ := own_addr hO.pts (by rw [hps]; simp)
  obtain ⟨w4, hw4⟩ : ∃ w4, w4 = w3.alloc (.cells (cU U) 26) := ⟨_, rfl⟩
  obtain ⟨p3, hp3⟩ : ∃ p, p = w3.heap.size := ⟨_, rfl⟩
  have b34 : Below w3.heap.size w3 w4 := by rw [hw4]; exact (Below.refl _ w3).alloc (Nat.le_refl _) _
  have xc : w4.heap[p3]? = some (.cells (cU U) 26 (0, 0)) := by rw [hw4, hp3]; exact heap_alloc_new _ _
  have hO4 := hO.stay b34
  have hop := hO4.pts
  rw [hpa] at hop
  have hH := hop.held cPt_len
  have b24 := hb3.trans (b34.mono hb3.size)
  have HX4 := Lib.hid (And.intro (blk_stay HX.out.1 b24) (And.intro (blk_stay HX.out.2.1 b24) (And.intro (HX.out.2.2.1.stay b24) (HX.out.2.2.2.stay b24))))
  have HB4 := Lib.hid (HB2.out.trans (b24.mono HB2.out.size))
  have HO4 := Lib.hid (And.intro hO4 (And.intro hpa (And.intro hH (And.intro hps hUA))))
  have HG := Lib.hid (And.intro hgB (And.intro hg3 (And.intro hp3 b24)))
  have HXC := Lib.hid xc
  have hl3 : U.ps.length = 3 := by rw [hps]; rfl
  have i0' := hop.vec cPt_len |>.index etP 1 (by rw [hl3]; decide)
  have e0 : w4.cell? ⟨p3, 1, none⟩ = some (.slice (some ⟨g, 0, none⟩) 3 U.pc) := by rw [World.cell?, xc, ← hl3, ← hpa]; rfl
  have f0 : w4.frozen? ⟨g, 7, none⟩ = false := hH.free 7
  obtain ⟨u0, u1, u2, u3, u4⟩ := pts_cells (hop.vec cPt_len) (Below.refl _ w4) 1 (by rw [hl3]; decide)
  rw [hl3] at i0'
  have hw5 : w4 = w3.alloc (.cells #[.slice U.wa U.ws.length U.wc, .slice (some ⟨g, 0, none⟩) 3 U.pc, .slice U.ca U.cs.length U.cc] 26) := by rw [hw4]; unfold cU; rw [hpa, hl3]
  clear hU hO hb3 HCP c0 c1 c2 hop hgB hg3 b34 hO4 b24
  go_upto_region 3 with fail
  rw [← hw5, ← hp3]
  have f1 : w4.cell? ⟨g, 7, none⟩ = some (.int .i64 i32.1) := by
    have h := (pts_cells (HO4.out.2.2.1.vec) (Below.refl _ w4) 1 (by rw [hl3]; decide)).2.2.1
    have hx : U.ps[1]'(by rw [hl3]; decide) = ⟨i2, ⟨i16, i32⟩, true, a1, [], d1⟩ := by simp [hps]
    rw [hx] at h
    exact h
  clear hw4 hw5 hp3 hpa hps hl3 hUA hH u0 u1 u2 u3 u4
  go_upto_region 4 with fail
  obtain ⟨w5, hw5⟩ : ∃ w5, w5 = w4.setCell ⟨g, 7, none⟩ (.int .i64 16) := ⟨_, rfl⟩
  obtain ⟨x1, hx1⟩ : ∃ x : PtV, Hid (x = ⟨i2, ⟨i16, i16⟩, true, a1, [], d1⟩) := ⟨_, rfl⟩
  have hl3 : U.ps.length = 3 := by rw [HO4.out.2.2.2.1]; rfl
  have hs5 : Save (· ≠ g) w4 w5 := by rw [hw5]; exact Save.set
  have hH5 : Held cPt 5 43 w5 g (U.ps.set 1 x1) U.pc := by
    rw [hw5]
    refine HO4.out.2.2.1.set cPt_len (k := 1) (j := 2) (by rw [hl3]; decide) (by decide) ?_
    have hx : U.ps[1]'(by rw [hl3]; decide) = ⟨i2, ⟨i16, i32⟩, true, a1, [], d1⟩ := by simp [HO4.out.2.2.2.1]
    rw [hx, hx1.out]; rfl
  have hgne : ∀ k, k < w2.heap.size → k ≠ g := fun k hk => by have := HG.out.1; omega
  have hr1 : Row w5 a1 [] d1 := by
    have hm := HO4.out.1.img ⟨i2, ⟨i16, i32⟩, true, a1, [], d1⟩ (by rw [HO4.out.2.2.2.1]; simp)
    obtain ⟨cur, hg⟩ := HO4.out.2.2.1.blk
    exact (hm.save hs5 fun j hj => ownb_bx hm hg neUP j hj).isRow
  have hC5 : (setV U 1 x1).At w5 := set_at HO4.out.1 HO4.out.2.1 hs5 hH5 HO4.out.2.2.1.blk (by rw [hx1.out]; exact hr1)
  have hcC : (setV U 1 x1).cfg = vC.cfg := by
    have h := HO4.out.2.2.2.2
    simp only [CfgV.cfg, Cfg.mk.injEq] at h ⊢
    refine ⟨h.1, ?_, h.2.2⟩
    show (U.ps.set 1 x1).map PtV.pt = _
    rw [HO4.out.2.2.2.1, hx1.out]; rfl
  have hB25 : Below w2.heap.size w2 w5 := HG.out.2.2.2.trans (hs5.below HG.out.2.2.2.size hgne)
  have hp3 : p3 ≠ g := by have := HG.out.2.1; have := HG.out.2.2.1; omega
  obtain ⟨C, hC⟩ : ∃ C, Hid (C = setV U 1 x1) := ⟨_, rfl⟩
  have hcu : cU C = cU U := by
    rw [hC.out]; unfold cU setV; simp only [List.length_set]
  have H5 : Hid (Aw3 w w5 p1 (p1 + 1) p3 A B C) := ⟨HX.out.2.2.1.stay hB25, HX.out.2.2.2.stay hB25, by rw [hC.out]; exact hC5, blk_stay HX.out.1 hB25, blk_stay HX.out.2.1 hB25, by rw [hcu]; exact (hs5.block _ (Array.getElem?_eq_some_iff.1 HXC.out).1 hp3).trans HXC.out, HB2.out.trans (hB25.mono HB2.out.size)⟩
  have HCF : Hid (A.cfg = vA.cfg ∧ B.cfg = vB.cfg ∧ C.cfg = vC.cfg) := ⟨HAB.out.1, HAB.out.2, by rw [hC.out]; exact hcC⟩
  have HSM : Hid (SmallV A ∧ SmallV B ∧ SmallV C) := ⟨HS.out.1, HS.out.2, small_cfg HCF.out.2.2 small_C⟩
  rw [← hw5]
  clear hw5 hs5 hH5 hgne hr1 hC5 hcC hB25 hp3 hcu hl3 HG HO4 HX HX4 HB2 HB4 HXC e0 f0 f1 i0' hx1 aA aB
  obtain ⟨c0, c1, c2⟩ := cU_in H5.out.xa
  obtain ⟨d0, d1, d2⟩ := cU_in H5.out.xb
  have hk := ccheck_calls w5 A B H5.out.a H5.out.b HSM.out.1 HSM.out.2.1
  rw [(check_cfg HCF.out.1 HCF.out.2.1).trans kAB] at hk
  have HKC := Lib.hid hk
  clear hk
  go_wp2_with fail
  refine (HKC.out).mono ?_
  rintro e w6 ⟨rfl, hb⟩
  have H6 := Lib.hid (H5.out.stay hb)
  clear hb HKC H5 c0 c1 c2 d0 d1 d2
  obtain ⟨c0, c1, c2⟩ := cU_in H6.out.xa
  obtain ⟨d0, d1, d2⟩ := cU_in H6.out.xb
  have hk := ints_is (cparts_calls w6 A B H6.out.a H6.out.b HSM.out.1 HSM.out.2.1) ((parts_cfg HCF.out.1 HCF.out.2.1).trans pAB) 1 rfl
  have HKC := Lib.hid hk
  clear hk
  go_wp2_with fail
  refine (HKC.out).mono ?_
  rintro e w7 ⟨aa, cc, rfl, hv, hb⟩
  have H7 := Lib.hid (H6.out.stay hb)
  have HKC := Lib.hid (same_lit w7 aa [1] cc hv #[.int .i64 1] 3 rfl (by decide) 1 rfl _ rfl)
  clear hb hv H6 c0 c1 c2 d0 d1 d2
  go_wp2_with fail
  refine (HKC.out).mono ?_
  rintro e w8 ⟨rfl, hb⟩
  have H8 := Lib.hid (H7.out.stay hb)
  clear hb HKC H7
  obtain ⟨c0, c1, c2⟩ := cU_in H8.out.xa
  obtain ⟨d0, d1, d2⟩ := cU_in H8.out.xb
  have hk := ints_is (cchans_calls w8 A B H8.out.a H8.out.b HSM.out.1 HSM.out.2.1) ((chans_cfg HCF.out.1 HCF.out.2.1).trans hAB) 0 rfl
  have HKC := Lib.hid hk
  clear hk
  go_wp2_with fail
  refine (HKC.out).mono ?_
  rintro e w9 ⟨aa, cc, rfl, hv, hb⟩
  have H9 := Lib.hid (H8.out.stay hb)
  have HKC := Lib.hid (same_nil w9 aa cc hv)
  clear hb hv H8 c0 c1 c2 d0 d1 d2
  go_wp2_with fail
  refine (HKC.out).mono ?_
  rintro e w10 ⟨rfl, hb⟩
  have H10 := Lib.hid (H9.out.stay hb)
  clear hb HKC H9
  obtain ⟨c0, c1, c2⟩ := cU_in H10.out.xa
  obtain ⟨d0, d1, d2⟩ := cU_in H10.out.xb
  have hk := ints_is (cleav_calls w10 A B H10.out.a H10.out.b HSM.out.1 HSM.out.2.1) ((leav_cfg HCF.out.1 HCF.out.2.1).trans lAB) 2 rfl
  have HKC := Lib.hid hk
  clear hk
  go_wp2_with fail
  refine (HKC.out).mono ?_
  rintro e w11 ⟨aa, cc, rfl, hv, hb⟩
  have H11 := Lib.hid (H10.out.stay hb)
  have HKC := Lib.hid (same_lit w11 aa [2, 3] cc hv #[.int .i64 2, .int .i64 3] 3 rfl (by decide) 2 rfl _ rfl)
  clear hb hv H10 c0 c1 c2 d0 d1 d2
  go_wp2_with fail
  refine (HKC.out).mono ?_
  rintro e w12 ⟨rfl, hb⟩
  have H12 := Lib.hid (H11.out.stay hb)
  clear hb HKC H11
  obtain ⟨c0, c1, c2⟩ := cU_in H12.out.xa
  have hk := ccheck_calls w12 A A H12.out.a H12.out.a HSM.out.1 HSM.out.1
  rw [(check_cfg HCF.out.1 HCF.out.1).trans kAA] at hk
  have HKC := Lib.hid hk
  clear hk
  go_wp2_with fail
  refine (HKC.out).mono ?_
  rintro e w13 ⟨rfl, hb⟩
  have H13 := Lib.hid (H12.out.stay hb)
  clear hb HKC H12 c0 c1 c2
  obtain ⟨c0, c1, c2⟩ := cU_in H13.out.xa
  have hk := ints_is (cparts_calls w13 A A H13.out.a H13.out.a HSM.out.1 HSM.out.1) ((parts_cfg HCF.out.1 HCF.out.1).trans pAA) 2 rfl
  have HKC := Lib.hid hk
  clear hk
  go_wp2_with fail
  refine (HKC.out).mono ?_
  rintro e w14 ⟨aa, cc, rfl, hv, hb⟩
  have H14 := Lib.hid (H13.out.stay hb)
  have HKC := Lib.hid (same_lit w14 aa [1, 2] cc hv #[.int .i64 1, .int .i64 2] 3 rfl (by decide) 2 rfl _ rfl)
  clear hb hv H13 c0 c1 c2
  go_wp2_with fail
  refine (HKC.out).mono ?_
  rintro e w15 ⟨rfl, hb⟩
  have H15 := Lib.hid (H14.out.stay hb)
  clear hb HKC H14
  obtain ⟨c0, c1, c2⟩ := cU_in H15.out.xa
  have hk := ints_is (cchans_calls w15 A A H15.out.a H15.out.a HSM.out.1 HSM.out.1) ((chans_cfg HCF.out.1 HCF.out.1).trans hAA) 1 rfl
  have HKC := Lib.hid hk
  clear hk
  go_wp2_with fail
  refine (HKC.out).mono ?_
  rintro e w16 ⟨aa, cc, rfl, hv, hb⟩
  have H16 := Lib.hid (H15.out.stay hb)
  have HKC := Lib.hid (same_lit w16 aa [1] cc hv #[.int .i64 1] 3 rfl (by decide) 1 rfl _ rfl)
  clear hb hv H15 c0 c1 c2
  go_wp2_with fail
  refine (HKC.out).mono ?_
  rintro e w17 ⟨rfl, hb⟩
  have H17 := Lib.hid (H16.out.stay hb)
  clear hb HKC H16
  obtain ⟨c0, c1, c2⟩ := cU_in H17.out.xa
  obtain ⟨d0, d1, d2⟩ := cU_in H17.out.xc
  have hk := ccheck_calls w17 A C H17.out.a H17.out.c HSM.out.1 HSM.out.2.2
  rw [(check_cfg HCF.out.1 HCF.out.2.2).trans kAC] at hk
  have HKC := Lib.hid hk
  clear hk
  go_wp2_with fail
  refine (HKC.out).mono ?_
  rintro e w18 ⟨rfl, hb⟩
  have H18 := Lib.hid (H17.out.stay hb)
  clear hb HKC H17 c0 c1 c2 d0 d1 d2
  obtain ⟨c0, c1, c2⟩ := cU_in H18.out.xa
  obtain ⟨d0, d1, d2⟩ := cU_in H18.out.xb
  have hk := surv_calls w18 A B H18.out.a H18.out.b HSM.out.1 HSM.out.2.1 1
  rw [(surv_cfg HCF.out.1 HCF.out.2.1 1).trans s1AB] at hk
  have HKC := Lib.hid hk
  clear hk
  go_wp2_with fail
  refine (HKC.out).mono ?_
  rintro e w19 ⟨rfl, hb⟩
  have H19 := Lib.hid (H18.out.stay hb)
  clear hb HKC H18 c0 c1 c2 d0 d1 d2
  obtain ⟨c0, c1, c2⟩ := cU_in H19.out.xa
  obtain ⟨d0, d1, d2⟩ := cU_in H19.out.xb
  have hk := surv_calls w19 A B H19.out.a H19.out.b HSM.out.1 HSM.out.2.1 2
  rw [(surv_cfg HCF.out.1 HCF.out.2.1 2).trans s2AB] at hk
  have HKC := Lib.hid hk
  clear hk
  go_wp2_with fail
  refine (HKC.out).mono ?_
  rintro e w20 ⟨rfl, hb⟩
  have H20 := Lib.hid (H19.out.stay hb)
  clear hb HKC H19 c0 c1 c2 d0 d1 d2
  obtain ⟨c0, c1, c2⟩ := cU_in H20.out.xa
  have hk := ccheck_calls w20 A vZ H20.out.a (at_Z _) HSM.out.1 small_Z
  rw [(check_cfg HCF.out.1 rfl).trans kAZ] at hk
  have HKC := Lib.hid hk
  clear hk
  go_wp2_with fail
  refine (HKC.out).mono ?_
  rintro e w21 ⟨rfl, hb⟩
  have H21 := Lib.hid (H20.out.stay hb)
  clear hb HKC H20 c0 c1 c2
  go_wp2_with fail
  go_ret
  exact ⟨rfl, H21.out.low⟩
end Go.Proofs.Ytpnbaapjjchlbaa
