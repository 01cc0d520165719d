/- Texts of the proof, one behind the other: Parse, WordsOrd, ParPlain. No condition but those that each names. -/
import Derived.Test.YtlholdllibghbaaGreatG19
import Derived.Test.YtlholdllibghbaaGreatG15
import Derived.Test.YtlholdllibghbaaGreatProg
import Derived.Test.YtlholdllibghbaaGreatG00
import Derived.Test.YtlholdllibghbaaGreatG05
/- config.Parse: walked. -/
namespace Go.Proofs.YtlholdllibghbaaGreat
open Go Go.RowKit Go.Cit

def canC (K : Cfg) : Bool := ((decide (K.wins.length ≤ 12) && decide (K.parts.length ≤ 6)) && decide (K.chans.length ≤ 8)) && !K.parts.any fun p => decide (512 < p.img.length)
theorem canV_cfg (V : CfgV) : canV V = canC V.cfg := by
  unfold canV canC CfgV.cfg
  simp only [List.length_map, List.any_map]
  rfl
def par1 (l : List UInt8) : List Win × St := readL readWin 12 (St.new l)
def par2 (l : List UInt8) : List Pt × St := readL readPt 6 (par1 l).2
def par3 (l : List UInt8) : List Ch × St := readL readCh 8 (par2 l).2
def parC (l : List UInt8) : Cfg := ⟨(par1 l).1, (par2 l).1, (par3 l).1⟩
def parOk (l : List UInt8) : Bool := decide ((par3 l).2.fin = 0) && canC (parC l)
def parK (l : List UInt8) : Cfg := if parOk l then parC l else ⟨[], [], []⟩
def parE (l : List UInt8) : Int := if parOk l then 0 else 110
theorem FreshV.off {B k : Nat} {w w' : World} {V : CfgV} {C : Array Value} {fr : Nat × Nat} (h : FreshV B w V) (hs : Save (· ≠ k) w w') (hk : w.heap[k]? = some (.cells C 26 fr)) : FreshV B w' V := by
  have e : ∀ {E : TypeId} {g : Nat}, (∃ cs, w.heap[g]? = some (.cells cs E (0, 0))) → (E : Nat) ≠ 26 → g ≠ k := by
    rintro E g ⟨cs, hg⟩ hE rfl
    rw [hk] at hg; injection hg with hg; injection hg with _ h2; exact hE h2.symm
  have s : ∀ {E : TypeId} {g : Nat}, (∃ cs, w.heap[g]? = some (.cells cs E (0, 0))) → (E : Nat) ≠ 26 → ∃ cs, w'.heap[g]? = some (.cells cs E (0, 0)) := by
    rintro E g ⟨cs, hg⟩ hE
    exact ⟨cs, (hs.block g (Array.getElem?_eq_some_iff.1 hg).1 (e ⟨cs, hg⟩ hE)).trans hg⟩
  exact ⟨h.win.save cWin_len hs (fun _ j hj => e (h.wb j hj).2 neW), h.pts.save cPt_len hs (fun _ j hj => e (h.pb j hj).2 neP), h.chs.save cCh_len hs (fun _ j hj => e (h.cb j hj).2 neC),
    fun g hg => ⟨(h.wb g hg).1, s (h.wb g hg).2 neW⟩, fun g hg => ⟨(h.pb g hg).1, s (h.pb g hg).2 neP⟩, fun g hg => ⟨(h.cb g hg).1, s (h.cb g hg).2 neC⟩, fun x hx => (h.img x hx).save hs (fun j hj => ownb_bx (h.img x hx) hk neU j hj)⟩
theorem fresh_nil (B : Nat) (w : World) : FreshV B w ⟨none, [], 0, none, [], 0, none, [], 0⟩ :=
  ⟨Vec.nil_ _, Vec.nil_ _, Vec.nil_ _, fun g h => by simp [blk] at h, fun g h => by simp [blk] at h, fun g h => by simp [blk] at h, fun x hx => by simp at hx⟩
set_option maxRecDepth 100000 in
set_option maxHeartbeats 8000000 in
theorem parse_calls (w : World) {a : Option Addr} {l : List UInt8} {c : Nat} (h : Row w a l c) : Calls Tryz.prog 59 #[.slice a l.length c] w fun e w' => ∃ U : CfgV, e = .returned (.tuple #[.agg (cU U), .int .i64 (parE l)]) ∧ U.cfg = parK l ∧ FreshV w.heap.size w' U ∧ Below w.heap.size w w' := by
  obtain ⟨w0, hw0⟩ : ∃ w0, w0 = w.alloc (.cells #[.slice none 0 0, .slice none 0 0, .slice none 0 0] 26) := ⟨_, rfl⟩
  obtain ⟨R, hR⟩ : ∃ R, R = w.heap.size := ⟨_, rfl⟩
  have B0 : Below w.heap.size w w0 := by rw [hw0]; exact (Below.refl _ w).alloc (Nat.le_refl _) _
  have hxR : w0.heap[R]? = some (.cells #[.slice none 0 0, .slice none 0 0, .slice none 0 0] 26 (0, 0)) := by rw [hw0, hR]; exact heap_alloc_new _ _
  have HN := Lib.hid (newreader_calls w0 (h.stay B0))
  have H0 := Lib.hid (And.intro hxR B0)
  obtain ⟨PE, hPE⟩ : ∃ x, Hid (x = parE l) := ⟨_, rfl⟩
  obtain ⟨PK, hPK⟩ : ∃ x, Hid (x = parK l) := ⟨_, rfl⟩
  rw [← hPE.out, ← hPK.out]
  have hl9 := h.len_le
  clear h hxR B0
  go_enter Tryz.func59, Tryz.ntmps59
  go_upto_region 1 with fail
  rw [← hw0, ← hR]
  have HRR := Lib.hid hR
  clear hw0 hR
  go_wp2_with fail
  refine (HN.out).mono ?_
  rintro e w1 ⟨rfl, hRd, hb1⟩
  obtain ⟨b, hb⟩ : ∃ b, b = w0.heap.size := ⟨_, rfl⟩
  obtain ⟨T, hT⟩ : ∃ T, T = w1.heap.size := ⟨_, rfl⟩
  obtain ⟨w2, hw2⟩ : ∃ w2, w2 = w1.alloc (.cells #[.pointer (some ⟨b, 0, none⟩)] 100) := ⟨_, rfl⟩
  have hb2 : Below w1.heap.size w1 w2 := by rw [hw2]; exact (Below.refl _ _).alloc (Nat.le_refl _) _
  have hgv : RdVar w2 T b := by rw [hw2, hT]; exact heap_alloc_new _ _
  rw [← hb, ← hT] at hRd
  have hRd2 := hRd.stay hb2
  have hRb : R < b := by have := (Array.getElem?_eq_some_iff.1 H0.out.1).1; omega
  have hwb : w.heap.size ≤ b := by have := HRR.out; omega
  have hTw : T ≤ w2.heap.size := by rw [hT]; exact hb2.size
  have hB2 : Below w0.heap.size w0 w2 := hb1.trans (hb2.mono hb1.size)
  obtain ⟨L1, hL1⟩ : ∃ x, Hid (x = (par1 l).1) := ⟨_, rfl⟩
  obtain ⟨s1, hs1⟩ : ∃ x, Hid (x = (par1 l).2) := ⟨_, rfl⟩
  obtain ⟨L3, hL3⟩ : ∃ x, Hid (x = (par3 l).1) := ⟨_, rfl⟩
  obtain ⟨s2, hs2⟩ : ∃ x, Hid (x = (par2 l).2) := ⟨_, rfl⟩
  obtain ⟨s3, hs3⟩ : ∃ x, Hid (x = (par3 l).2) := ⟨_, rfl⟩
  have HTB : Hid (T ≠ b) := hgv.ne hRd2
  have HBL : Hid (b < w2.heap.size) := hRd2.lt
  have hk : Calls Tryz.prog 133 _ w2 fun e w' => ∃ a c, e = .returned (.slice a (par1 l).1.length c) ∧ VOwn cWin 2 77 w2.heap.size w' a (par1 l).1 c ∧ RdAt b T w' b (par1 l).2 ∧ Save (· ≠ b) w2 w' := readw_calls hRd2 hTw T hgv 12 (by decide)
  rw [← hL1.out, ← hs1.out] at hk
  have HK := Lib.hid hk
  have c0 := hgv.cell
  have H2 := Lib.hid (And.intro hgv hB2)
  clear hRd hb1 hb2 hRd2 hgv hB2 HN hk
  go_upto_region 2 with fail
  rw [← hb, ← hw2, ← hT]
  have HBB := Lib.hid hb
  clear hb hw2 hT
  go_wp2_with fail
  refine (HK.out).mono ?_
  rintro e w3 ⟨aw, cw, rfl, hOw, hR3, hS3⟩
  have hTb : T ≠ b := HTB.out
  have hg3 : RdVar w3 T b := H2.out.1.save hS3 hTb
  have hx3 : w3.heap[R]? = some (.cells #[.slice none 0 0, .slice none 0 0, .slice none 0 0] 26 (0, 0)) := (hS3.block R (by have := (Array.getElem?_eq_some_iff.1 (blk_stay H0.out.1 H2.out.2)).1; exact this) (by omega)).trans (blk_stay H0.out.1 H2.out.2)
  obtain ⟨w4, hw4⟩ : ∃ w4, w4 = w3.alloc (.cells #[.slice aw L1.length cw, .slice none 0 0, .slice none 0 0] 26) := ⟨_, rfl⟩
  obtain ⟨C, hC⟩ : ∃ C, C = w3.heap.size := ⟨_, rfl⟩
  have hb4 : Below w3.heap.size w3 w4 := by rw [hw4]; exact (Below.refl _ _).alloc (Nat.le_refl _) _
  have hxC : w4.heap[C]? = some (.cells #[.slice aw L1.length cw, .slice none 0 0, .slice none 0 0] 26 (0, 0)) := by rw [hw4, hC]; exact heap_alloc_new _ _
  have hR4 := hR3.stay hb4
  have hg4 : RdVar w4 T b := blk_stay hg3 hb4
  have hCw : w2.heap.size ≤ C := by rw [hC]; exact hS3.size
  have hC4 : C < w4.heap.size := (Array.getElem?_eq_some_iff.1 hxC).1
  have hTC : T ≤ C := Nat.le_trans hTw hCw
  have hRC : R ≠ C := by have := (Array.getElem?_eq_some_iff.1 hx3).1; omega
  have hbC : b ≠ C := by have := hR3.lt; omega
  have hTC' : T ≠ C := by have := hg3.lt; omega
  obtain ⟨N2, hN2⟩ : ∃ N, N = w2.heap.size := ⟨_, rfl⟩
  have H4 := Lib.hid (And.intro hg4 (And.intro hxC (And.intro (blk_stay hx3 hb4) (And.intro (hOw.stay hb4) (hS3.trans (Save.of hb4))))))
  have hN4 : T ≤ w4.heap.size := Nat.le_trans hTw (Nat.le_trans hS3.size hb4.size)
  have hk : Calls Tryz.prog 135 _ w4 fun e w' => ∃ a c, ∃ L : List PtV, e = .returned (.slice a L.length c) ∧ L.map PtV.pt = (readL readPt 6 s1).1 ∧ VOwn cPt 5 46 w4.heap.size w' a L c ∧ (∀ x ∈ L, Row w' x.a x.img x.c ∧ (x.img ≠ [] → ∀ g, blk x.a = some g → w4.heap.size ≤ g ∧ blk a ≠ some g)) ∧ RdAt b T w' b (readL readPt 6 s1).2 ∧ Save (· ≠ b) w4 w' := readp_calls hR4 hN4 T hg4 6 (by decide)
  have e2 : readL readPt 6 s1 = par2 l := by rw [hs1.out]; rfl
  rw [e2, ← hs2.out] at hk
  have HK := Lib.hid hk
  have c0 := hg4.cell
  clear hOw hR3 hS3 hg3 hx3 hb4 hxC hR4 hg4 hk e2
  go_upto_region 3 with fail
  rw [← hw4, ← hC]
  have HCC := Lib.hid hC
  clear hw4 hC
  go_wp2_with fail
  refine (HK.out).mono ?_
  rintro e w5 ⟨ap, cp, L2, rfl, hL2, hOp, hIm, hR5, hS5⟩
  have hg5 : RdVar w5 T b := H4.out.1.save hS5 hTb
  have hx5 := (hS5.block R (Array.getElem?_eq_some_iff.1 H4.out.2.2.1).1 (by omega)).trans H4.out.2.2.1
  have hc5 := (hS5.block C hC4 (by omega)).trans H4.out.2.1
  have ow5 := H4.out.2.2.2.1.save hS5 (fun g hg => by have := (H4.out.2.2.2.1.blk_ge hg).1; have := HBL.out; omega)
  have c1 := cells_of hc5 1 rfl
  have f1 := frozen_no hc5 1
  obtain ⟨w6, hw6⟩ : ∃ x, x = w5.setCell ⟨C, 1, none⟩ (.slice ap L2.length cp) := ⟨_, rfl⟩
  have hs6 : Save (· ≠ C) w5 w6 := by rw [hw6]; exact Save.set
  have hc6 : w6.heap[C]? = some (.cells #[.slice aw L1.length cw, .slice ap L2.length cp, .slice none 0 0] 26 (0, 0)) := by rw [hw6]; exact setCell_blk _ hc5
  have hx6 := (hs6.block R (Array.getElem?_eq_some_iff.1 hx5).1 hRC).trans hx5
  have ow6 := ow5.save hs6 (fun g hg => vown_ne ow5 hc5 neW g hg)
  have op6 := hOp.save hs6 (fun g hg => vown_ne hOp hc5 neP g hg)
  have hR6 := hR5.newer hs6 hTC hbC
  have hg6 : RdVar w6 T b := hg5.newer hs6 hTC'
  have im6 : Hid (∀ x ∈ L2, Row w6 x.a x.img x.c ∧ (x.img ≠ [] → ∀ g, blk x.a = some g → w4.heap.size ≤ g)) := fun x hx => ⟨(hIm x hx).1.save' hs6 (fun h g hg => by have := ((hIm x hx).2 h g hg).1; omega), fun h g hg => ((hIm x hx).2 h g hg).1⟩
  have H6 := Lib.hid (And.intro hg6 (And.intro hc6 (And.intro hx6 (And.intro ow6 (And.intro op6 ((H4.out.2.2.2.2.trans hS5)))))))
  have H6S := Lib.hid hs6
  have hN6 : T ≤ w6.heap.size := Nat.le_trans hN4 (Nat.le_trans hS5.size hs6.size)
  have hk : Calls Tryz.prog 138 _ w6 fun e w' => ∃ a c, e = .returned (.slice a (readL readCh 8 s2).1.length c) ∧ VOwn cCh 5 48 w6.heap.size w' a (readL readCh 8 s2).1 c ∧ RdAt b T w' b (readL readCh 8 s2).2 ∧ Save (· ≠ b) w6 w' := readc_calls hR6 hN6 T hg6 8 (by decide)
  have e2 : readL readCh 8 s2 = par3 l := by rw [hs2.out]; rfl
  rw [e2, ← hL3.out, ← hs3.out] at hk
  have HK := Lib.hid hk
  have HL2 := Lib.hid hL2
  have HS56 : Hid (w4.heap.size ≤ w5.heap.size) := hS5.size
  clear hL2 hOp hIm hR5 hS5 hg5 hx5 hc5 ow5 hs6 hc6 hx6 ow6 op6 hR6 hg6 hk e2 c0
  go_upto_region 4 with fail
  rw [← hw6]
  clear hw6 c1 f1
  have c0 := H6.out.1.cell
  go_wp2_with fail
  refine (HK.out).mono ?_
  rintro e w7 ⟨ac, cc, rfl, hOc, hR7, hS7⟩
  have hx7 := (hS7.block R (Array.getElem?_eq_some_iff.1 H6.out.2.2.1).1 (by omega)).trans H6.out.2.2.1
  have hg7 : RdVar w7 T b := H6.out.1.save hS7 hTb
  have hc7 := (hS7.block C (Array.getElem?_eq_some_iff.1 H6.out.2.1).1 (by omega)).trans H6.out.2.1
  have ow7 := H6.out.2.2.2.1.save hS7 (fun g hg => by have := (H6.out.2.2.2.1.blk_ge hg).1; have := HBL.out; omega)
  have hbig : w2.heap.size ≤ w4.heap.size := H4.out.2.2.2.2.size
  have op7 := H6.out.2.2.2.2.1.save hS7 (fun g hg => by have := (H6.out.2.2.2.2.1.blk_ge hg).1; have := HBL.out; omega)
  have c2 := cells_of hc7 2 rfl
  have f2 := frozen_no hc7 2
  obtain ⟨w8, hw8⟩ : ∃ x, x = w7.setCell ⟨C, 2, none⟩ (.slice ac L3.length cc) := ⟨_, rfl⟩
  have hs8 : Save (· ≠ C) w7 w8 := by rw [hw8]; exact Save.set
  have hc8 : w8.heap[C]? = some (.cells #[.slice aw L1.length cw, .slice ap L2.length cp, .slice ac L3.length cc] 26 (0, 0)) := by rw [hw8]; exact setCell_blk _ hc7
  have hx8 := (hs8.block R (Array.getElem?_eq_some_iff.1 hx7).1 hRC).trans hx7
  have ow8 := ow7.save hs8 (fun g hg => vown_ne ow7 hc7 neW g hg)
  have op8 := op7.save hs8 (fun g hg => vown_ne op7 hc7 neP g hg)
  have oc8 := hOc.save hs8 (fun g hg => vown_ne hOc hc7 neC g hg)
  have hR8 := hR7.newer hs8 hTC hbC
  have hg8 : RdVar w8 T b := hg7.newer hs8 hTC'
  have im8 : ∀ x ∈ L2, Row w8 x.a x.img x.c := fun x hx => ((im6.out x hx).1.save' hS7 (fun h g hg => by have := (im6.out x hx).2 h g hg; have := HBL.out; omega)).save' hs8 (fun h g hg => by have := (im6.out x hx).2 h g hg; omega)
  obtain ⟨V, hV⟩ : ∃ V : CfgV, Hid (V = ⟨aw, L1, cw, ap, L2, cp, ac, L3, cc⟩) := ⟨_, rfl⟩
  have HVA : Hid (V.At w8) := by rw [hV.out]; exact ⟨ow8.vec cWin_len, op8.vec cPt_len, oc8.vec cCh_len, im8⟩
  have HVC : Hid (V.cfg = parC l) := by rw [hV.out, Hid]; unfold CfgV.cfg parC; rw [hL1.out, HL2.out, hL3.out]
  have HX8 := Lib.hid (And.intro hx8 (And.intro hc8 hg8))
  have hB8 : Below w.heap.size w w8 := by
    have h2 : Below w.heap.size w w2 := H0.out.2.trans (H2.out.2.mono H0.out.2.size)
    have h4 : Below w.heap.size w w4 := h2.trans (H4.out.2.2.2.2.below h2.size (fun k hk => by omega))
    have h5 : Below w.heap.size w w6 := h2.trans (H6.out.2.2.2.2.2.below h2.size (fun k hk => by omega)) |>.trans (H6S.out.below (Nat.le_trans h4.size HS56.out) (fun k hk => by have := h2.size; omega))
    exact (h5.trans (hS7.below h5.size (fun k hk => by omega))).trans (hs8.below (Nat.le_trans h5.size hS7.size) (fun k hk => by have := h2.size; omega))
  have HB8 := Lib.hid hB8
  have HK := Lib.hid (rdend_calls hR8)
  have hk := can_calls w8 V HVA.out
  rw [canV_cfg, HVC.out] at hk
  obtain ⟨q, hq⟩ : ∃ q, Hid (q = canC (parC l)) := ⟨_, rfl⟩
  obtain ⟨f, hf⟩ : ∃ f, Hid (f = s3.fin) := ⟨_, rfl⟩
  rw [← hq.out, hV.out] at hk
  rw [← hf.out] at HK
  have HKC := Lib.hid hk
  have c0 := hg8.cell
  clear hx7 hg7 hc7 ow7 op7 hs8 hc8 hx8 ow8 op8 oc8 hR8 hg8 im8 hB8 hk hbig hOc hR7 hS7 H6
  go_upto_region 5 with fail
  rw [← hw8]
  clear hw8 c2 f2
  have HOK : Hid (parOk l = (decide (f = 0) && q)) := by rw [Hid, parOk, hf.out, hq.out, hs3.out]
  obtain ⟨d0, d1, d2⟩ : InBox w8 C ⟨aw, L1, cw, ap, L2, cp, ac, L3, cc⟩ := in_of HX8.out.2.1
  by_cases hf0 : f = 0
  · subst hf0
    go_wp2_with fail
    refine (HK.out).mono ?_
    rintro e w9 ⟨rfl, rfl⟩
    go_wp2_with fail
    refine (HKC.out).mono ?_
    rintro e w10 ⟨rfl, hb10⟩
    have hx10 := blk_stay HX8.out.1 hb10
    have hc10 := blk_stay HX8.out.2.1 hb10
    have HX10 := Lib.hid (And.intro hx10 hc10)
    have HB10 := Lib.hid (HB8.out.trans (hb10.mono HB8.out.size))
    have HVA10 := Lib.hid (HVA.out.stay hb10)
    clear hx10 hc10 hb10 d0 d1 d2 c0
    cases q with
    | true =>
      have e1 : Hid (PE = 0) := by rw [Hid, hPE.out, parE, HOK.out]; rfl
      have e2 : Hid (PK = parC l) := by rw [Hid, hPK.out, parK, HOK.out]; rfl
      obtain ⟨d0, d1, d2⟩ : InBox w10 C ⟨aw, L1, cw, ap, L2, cp, ac, L3, cc⟩ := in_of HX10.out.2
      have hsm : SmallV V := by
        have hcan : canV V = true := by rw [canV_cfg, HVC.out]; exact hq.out.symm
        have hsp := can_spec hcan
        refine ⟨by omega, by omega, by omega, fun x hx => ?_⟩
        have := List.any_eq_false.1 hsp.2.2.2 x hx
        simp [longP] at this
        omega
      have hk := ccopy_calls w10 V HVA10.out hsm
      rw [hV.out] at hk
      have HCP := Lib.hid hk
      clear hk
      go_wp2_with fail
      refine (HCP.out).mono ?_
      rintro e w11 ⟨U, rfl, hU, hF, hb11⟩
      have HU := Lib.hid (And.intro hU (And.intro hF hb11))
      have HXR := Lib.hid (blk_stay HX10.out.1 hb11)
      clear hU hF hb11 d0 d1 d2 HCP
      go_wp2_with ((with_reducible refine wpList_storeB (o := ⟨none, .store _ (.tmp 2) _, _, _, _, _⟩) rowCfg (.tmp 2) (.tmp 30) (by with_unfolding_all rfl) (by with_unfolding_all rfl) (by with_unfolding_all rfl) (by with_unfolding_all rfl) (by with_unfolding_all rfl) HXR.out (by with_unfolding_all rfl) (by with_unfolding_all rfl) (by with_unfolding_all rfl) ?_); intro w12 hg12 hs12)
      have hB11 := HB10.out.trans (HU.out.2.2.mono HB10.out.size)
      refine bodyPost_ret (resB2 rowCfg rfl (by rfl) hg12 rfl) rfl ⟨U, ?_, ?_, (HU.out.2.1.off hs12 HXR.out).low HB10.out.size, hB11.trans (hs12.below hB11.size (fun k hk => by have := HRR.out; omega))⟩
      · rw [e1.out]; rfl
      · rw [HU.out.1, e2.out, ← HVC.out, hV.out]
    | false =>
      have e1 : Hid (PE = 110) := by rw [Hid, hPE.out, parE, HOK.out]; rfl
      have e2 : Hid (PK = ⟨[], [], []⟩) := by rw [Hid, hPK.out, parK, HOK.out]; rfl
      go_wp2_with ((with_reducible refine wpList_storeB (o := ⟨none, .store _ (.tmp 2) _, _, _, _, _⟩) rowCfg (.tmp 2) (.tmp 28) (by with_unfolding_all rfl) (by with_unfolding_all rfl) (by with_unfolding_all rfl) (by with_unfolding_all rfl) (by with_unfolding_all rfl) HX10.out.1 (by with_unfolding_all rfl) (by with_unfolding_all rfl) (by with_unfolding_all rfl) ?_); intro w12 hg12 hs12)
      refine bodyPost_ret (resB2 rowCfg rfl (by rfl) hg12 rfl) rfl ⟨⟨none, [], 0, none, [], 0, none, [], 0⟩, ?_, ?_, fresh_nil _ _, HB10.out.trans (hs12.below HB10.out.size (fun k hk => by have := HRR.out; omega))⟩
      · rw [e1.out]; rfl
      · rw [e2.out]; rfl
  · have e1 : Hid (PE = 110) := by rw [Hid, hPE.out, parE, HOK.out, decide_eq_false hf0]; rfl
    have e2 : Hid (PK = ⟨[], [], []⟩) := by rw [Hid, hPK.out, parK, HOK.out, decide_eq_false hf0]; rfl
    have t1 : ((f : Int) != 0) = true := by simpa using hf0
    clear hf0
    go_wp2_with fail
    refine (HK.out).mono ?_
    rintro e w9 ⟨rfl, rfl⟩
    go_wp2_with ((with_reducible refine wpList_storeB (o := ⟨none, .store _ (.tmp 2) _, _, _, _, _⟩) rowCfg (.tmp 2) (.tmp 28) (by with_unfolding_all rfl) (by with_unfolding_all rfl) (by with_unfolding_all rfl) (by with_unfolding_all rfl) (by with_unfolding_all rfl) HX8.out.1 (by with_unfolding_all rfl) (by with_unfolding_all rfl) (by with_unfolding_all rfl) ?_); intro w12 hg12 hs12)
    refine bodyPost_ret (resB2 rowCfg rfl (by rfl) hg12 rfl) rfl ⟨⟨none, [], 0, none, [], 0, none, [], 0⟩, ?_, ?_, fresh_nil _ _, HB8.out.trans (hs12.below HB8.out.size (fun k hk => by have := HRR.out; omega))⟩
    · rw [e1.out]; rfl
    · rw [e2.out]; rfl
end Go.Proofs.YtlholdllibghbaaGreat

/- Numbers, rows and their order: plain laws. No condition. -/
namespace Go.Proofs.YtlholdllibghbaaGreat
open Go Go.RowKit Go.Cit

theorem foldN_shift : ∀ (l : List UInt8) (x : Nat), l.foldl (fun x d => 256 * x + d.toNat) x = x * 256 ^ l.length + l.foldl (fun x d => 256 * x + d.toNat) 0
  | [], x => by simp
  | d :: l, x => by
    rw [List.foldl_cons, List.foldl_cons, foldN_shift l (256 * x + d.toNat), foldN_shift l (256 * 0 + d.toNat), List.length_cons, Nat.pow_succ]
    generalize 256 ^ l.length = p
    rw [Nat.mul_zero, Nat.zero_add, Nat.add_mul, Nat.add_assoc]
    congr 1
    rw [Nat.mul_comm p 256, ← Nat.mul_assoc, Nat.mul_comm x 256]
theorem numN_cons (d : UInt8) (l : List UInt8) : numN (d :: l) = d.toNat * 256 ^ l.length + numN l := by
  show l.foldl _ (256 * 0 + d.toNat) = _
  rw [foldN_shift, Nat.mul_zero, Nat.zero_add]; rfl

theorem rowB_of : ∀ (l : List UInt8) (x : UInt64), x.toNat % 256 ^ l.length = numN l → rowB x l.length = l
  | [], _, _ => rfl
  | d :: l, x, h => by
    rw [List.length_cons, Nat.pow_succ, numN_cons] at h
    have hlt := numN_lt l
    have hp : 0 < 256 ^ l.length := Nat.pow_pos (by decide)
    rw [List.length_cons, rowB]
    have e1 : x.toNat / 256 ^ l.length % 256 = d.toNat := by
      rw [← Nat.mod_mul_right_div_self, h, Nat.mul_comm, Nat.mul_add_div hp, Nat.div_eq_of_lt hlt, Nat.add_zero]
    have e2 : x.toNat % 256 ^ l.length = numN l := by
      rw [← Nat.mod_mul_right_mod x.toNat (256 ^ l.length) 256, h, Nat.mul_comm, Nat.mul_add_mod, Nat.mod_eq_of_lt hlt]
    rw [rowB_of l x e2]
    congr 1
    apply UInt8.toNat_inj.1
    rw [byte_dv, e1]
theorem rowB_numB (l : List UInt8) (h : l.length ≤ 8) : rowB (numB l) l.length = l :=
  rowB_of l _ (by rw [numB_toNat l h]; exact Nat.mod_eq_of_lt (numN_lt l))

end Go.Proofs.YtlholdllibghbaaGreat

/- Configurations as bytes: the plain laws of chapter 11. No condition. -/
namespace Go.Proofs.YtlholdllibghbaaGreat
open Go Go.RowKit Go.Cit

theorem i64_row (n : Int) (h : -9223372036854775808 ≤ n ∧ n ≤ 9223372036854775807) : i64Q (numB (rowB (qOfI n) 8)) = n := by
  have hq : numB (rowB (qOfI n) 8) = qOfI n := by
    apply UInt64.toNat_inj.1
    rw [numB_toNat _ (by rw [rowB_length]; decide)]
    have e : ∀ x : UInt64, numN (rowB x 8) = x.toNat := by
      intro x
      have hx := x.toNat_lt
      simp only [rowB, numN, List.foldl_cons, List.foldl_nil, byte_dv]
      simp only [Nat.pow_zero, Nat.div_one, Nat.pow_one]
      omega
    exact e _
  rw [hq, i64Q, qOfI_nat]
  unfold wrap64
  omega
theorem numB_row4 (n : Nat) (h : n ≤ 65536) : (numB (rowB (qOfW (wOfI (n : Int))) 4)).toNat = n := by
  rw [numB_toNat _ (by rw [rowB_length]; decide)]
  have hx : (qOfW (wOfI (n : Int))).toNat = n := by
    have h1 := wOfI_nat (n : Int)
    unfold qOfW
    rw [UInt32.toNat_toUInt64]; omega
  simp only [rowB, numN, List.foldl_cons, List.foldl_nil, byte_dv, hx]
  simp only [Nat.pow_zero, Nat.div_one, Nat.pow_one]
  omega
theorem read_front {α : Type} (x rest : List UInt8) (n : Nat) (f : List UInt8 → α × Bool) (z : α) (hx : x.length = n) (hf : (f x).2 = true) : St.read ⟨x ++ rest, 0⟩ n f z = ((f x).1, ⟨rest, 0⟩) := by
  rw [read_yes (by rw [List.length_append]; omega) (by rw [List.take_left' hx]; exact hf), List.take_left' hx, List.drop_left' hx]
theorem bytes_front (m rest : List UInt8) (h : m.length ≤ 65536) : St.bytes ⟨withB m ++ rest, 0⟩ = (m, ⟨rest, 0⟩) := by
  have hl : (rowB (qOfW (wOfI (m.length : Int))) 4).length = 4 := rowB_length _ _
  have hn := numB_row4 m.length h
  have h1 : St.read ⟨withB m ++ rest, 0⟩ 4 fLen 0 = ((m.length : Int), ⟨m ++ rest, 0⟩) := by
    rw [withB, List.append_assoc, read_front _ _ 4 fLen 0 hl (by simp only [fLen, hn, decide_eq_true_eq]; exact h)]
    simp only [fLen, hn]
  rw [St.bytes, h1]
  simp only [if_true]
  exact read_front m rest m.length fAll [] rfl rfl
theorem read_zero {α : Type} {s : St} {n : Nat} {f : List UInt8 → α × Bool} {z : α} (h : s.e = 0) :
    (n ≤ s.l.length ∧ (f (s.l.take n)).2 = true ∧ s.read n f z = ((f (s.l.take n)).1, ⟨s.l.drop n, 0⟩)) ∨ s.read n f z = (z, St.broke) := by
  obtain ⟨l, e⟩ := s
  have h : e = 0 := h
  subst h
  by_cases hn : n ≤ l.length
  · by_cases hf : (f (l.take n)).2 = true
    · exact .inl ⟨hn, hf, read_yes hn hf⟩
    · exact .inr (read_bad hn (by simpa using hf))
  · right
    rw [read_no (fun _ => by omega)]
    rfl
theorem qOfI_i64Q (q : UInt64) : qOfI (i64Q q) = q := by
  apply UInt64.toNat_inj.1
  have h1 := qOfI_nat (i64Q q)
  have h2 := q_lt q
  unfold i64Q wrap64 at h1
  have : ((qOfI (i64Q q)).toNat : Int) = q.toNat := by
    unfold i64Q wrap64
    omega
  omega
theorem row4_len {x : List UInt8} (hx : x.length = 4) (h : (numB x).toNat ≤ 65536) : rowB (qOfW (wOfI ((numB x).toNat : Int))) 4 = x := by
  have h1 : qOfW (wOfI ((numB x).toNat : Int)) = numB x := by
    apply UInt64.toNat_inj.1
    have := wOfI_nat ((numB x).toNat : Int)
    unfold qOfW
    rw [UInt32.toNat_toUInt64]
    omega
  rw [h1, ← hx]
  exact rowB_numB x (by omega)
theorem bytes_zero {s : St} (h : s.e = 0) : (∃ m rest, m.length ≤ 65536 ∧ s.l = withB m ++ rest ∧ s.bytes = (m, ⟨rest, 0⟩)) ∨ s.bytes = ([], St.broke) := by
  rcases read_zero (n := 4) (f := fLen) (z := 0) h with ⟨hn, hf, hr⟩ | hr
  · have hle : (numB (s.l.take 4)).toNat ≤ 65536 := by simpa [fLen] using hf
    rw [St.bytes, hr, if_pos rfl]
    have hm : ((fLen (s.l.take 4)).1).toNat = (numB (s.l.take 4)).toNat := by simp [fLen]
    dsimp only
    rw [hm]
    rcases read_zero (s := ⟨s.l.drop 4, 0⟩) (n := (numB (s.l.take 4)).toNat) (f := fAll) (z := []) rfl with ⟨hn2, _, hr2⟩ | hr2
    · left
      dsimp only at hn2 hr2
      have hl : ((s.l.drop 4).take (numB (s.l.take 4)).toNat).length = (numB (s.l.take 4)).toNat := by rw [List.length_take]; omega
      refine ⟨(s.l.drop 4).take (numB (s.l.take 4)).toNat, (s.l.drop 4).drop (numB (s.l.take 4)).toNat, by rw [hl]; exact hle, ?_, hr2⟩
      rw [withB, hl, row4_len (by rw [List.length_take]; omega) hle, List.append_assoc, List.take_append_drop, List.take_append_drop]
    · exact .inr hr2
  · right
    rw [St.bytes, hr, if_neg (by decide)]

theorem flag_one (x : UInt8) (h : x.toNat ≤ 1) : flagB (x == bI 1) = [x] := by
  have hx : x = 0 ∨ x = 1 := by
    rcases Nat.lt_or_ge x.toNat 1 with h1 | h1
    · left; apply UInt8.toNat_inj.1; show x.toNat = 0; omega
    · right; apply UInt8.toNat_inj.1; show x.toNat = 1; omega
  rcases hx with rfl | rfl <;> decide
theorem take_one {l : List UInt8} (h : 1 ≤ l.length) : l = l.getD 0 0 :: l.drop 1 := by
  cases l with
  | nil => simp at h
  | cons x r => rfl
theorem take1_get {l : List UInt8} : (l.take 1).getD 0 0 = l.getD 0 0 := by cases l <;> rfl

/-! ### What is read of a form. -/
def bPt (p : Pt) : List UInt8 := int8 p.id.1 ++ (int8 p.reg.base.1 ++ (int8 p.reg.size.1 ++ (flagB p.keep ++ withB p.img)))
theorem bPtV_pt (x : PtV) : bPtV x = bPt x.pt := by simp [bPtV, bPt, PtV.pt]
def formK (K : Cfg) : List UInt8 := ((int8 K.wins.length ++ K.wins.flatMap bWin) ++ (int8 K.parts.length ++ K.parts.flatMap bPt)) ++ (int8 K.chans.length ++ K.chans.flatMap bCh)
theorem flat_map {α β γ : Type} (f : α → β) (b : β → List γ) (c : α → List γ) (h : ∀ x, c x = b (f x)) : ∀ l : List α, l.flatMap c = (l.map f).flatMap b
  | [] => rfl
  | x :: r => by rw [List.flatMap_cons, List.map_cons, List.flatMap_cons, h, flat_map f b c h r]
theorem formV_cfg (V : CfgV) : formV V = formK V.cfg := by
  unfold formV formK CfgV.cfg
  simp only [List.length_map]
  rw [flat_map PtV.pt bPt bPtV bPtV_pt V.ps]
theorem int_front (n : I64) (r : List UInt8) : St.int ⟨int8 n.1 ++ r, 0⟩ = (n, ⟨r, 0⟩) := by
  unfold St.int
  rw [read_front (int8 n.1) r 8 fInt 0 (int8_len _) rfl]
  have h : (fInt (int8 n.1)).1 = n.1 := i64_row n.1 n.2
  dsimp only
  rw [h]
  exact Prod.ext (Subtype.ext (mkI_val n.2)) rfl
theorem flag_front (b : Bool) (r : List UInt8) : St.read ⟨flagB b ++ r, 0⟩ 1 fFlag false = (b, ⟨r, 0⟩) := by
  rw [read_front (flagB b) r 1 fFlag false rfl (by cases b <;> decide)]
  cases b <;> rfl
theorem win_front (x : Win) (r : List UInt8) : readWin ⟨bWin x ++ r, 0⟩ = (x, ⟨r, 0⟩) := by
  unfold readWin bWin
  rw [List.append_assoc]
  simp only [int_front]
theorem ch_front (x : Ch) (r : List UInt8) : readCh ⟨bCh x ++ r, 0⟩ = (x, ⟨r, 0⟩) := by
  unfold readCh bCh
  simp only [List.append_assoc, int_front]
theorem pt_front (p : Pt) (h : p.img.length ≤ 65536) (r : List UInt8) : readPt ⟨bPt p ++ r, 0⟩ = (p, ⟨r, 0⟩) := by
  unfold readPt bPt
  simp only [List.append_assoc, int_front, flag_front, bytes_front p.img r h]
theorem count_front (n : Nat) (r : List UInt8) (most : Int) (h : (n : Int) ≤ most) (hr : n ≤ r.length) (h9 : most ≤ 100) : St.count ⟨int8 n ++ r, 0⟩ most = ((n : Int), ⟨r, 0⟩) := by
  have e1 : (int8 (n : Int) ++ r).take 8 = int8 n := by rw [List.take_append_of_le_length (by rw [int8_len]; exact Nat.le_refl _), List.take_of_length_le (by rw [int8_len]; exact Nat.le_refl _)]
  have e2 : (int8 (n : Int) ++ r).drop 8 = r := by rw [List.drop_append_of_le_length (by rw [int8_len]; exact Nat.le_refl _), List.drop_of_length_le (by rw [int8_len]; exact Nat.le_refl _), List.nil_append]
  have e3 : i64Q (numB (int8 (n : Int))) = n := i64_row n (by omega)
  rw [count_yes (by rw [List.length_append, int8_len]; omega) (by rw [e1, e2, e3]; simp; omega), e1, e2, e3]
theorem readN_front {α β : Type} (f : St → β × St) (b : α → List UInt8) (g : α → β) (L : List α) (hf : ∀ x ∈ L, ∀ r, f ⟨b x ++ r, 0⟩ = (g x, ⟨r, 0⟩)) (r : List UInt8) : ∀ k, k ≤ L.length → readN f k ⟨L.flatMap b ++ r, 0⟩ = ((L.take k).map g, ⟨(L.drop k).flatMap b ++ r, 0⟩)
  | 0, _ => by simp [readN]
  | k + 1, hk => by
    have ih := readN_front f b g L hf r k (by omega)
    rw [readN, ih]
    have hd : L.drop k = L[k] :: L.drop (k + 1) := List.drop_eq_getElem_cons (by omega)
    rw [hd, List.flatMap_cons, List.append_assoc, hf L[k] (List.getElem_mem (by omega)), List.take_succ_eq_append_getElem (by omega : k < L.length), List.map_append]
    rfl
theorem readL_front {α β : Type} (f : St → β × St) (b : α → List UInt8) (g : α → β) (L : List α) (hf : ∀ x ∈ L, ∀ r, f ⟨b x ++ r, 0⟩ = (g x, ⟨r, 0⟩)) (hb : ∀ x ∈ L, 1 ≤ (b x).length) (most : Int) (hm : (L.length : Int) ≤ most) (h9 : most ≤ 100) (r : List UInt8) :
    readL f most ⟨(int8 L.length ++ L.flatMap b) ++ r, 0⟩ = (L.map g, ⟨r, 0⟩) := by
  have hl : ∀ (M : List α), (∀ x ∈ M, 1 ≤ (b x).length) → M.length ≤ (M.flatMap b).length := by
    intro M
    induction M with
    | nil => intro _; simp
    | cons x M ih =>
      intro h
      have h1 := h x (by simp)
      have h2 := ih (fun y hy => h y (by simp [hy]))
      rw [List.flatMap_cons, List.length_append, List.length_cons]
      omega
  unfold readL
  rw [List.append_assoc, count_front L.length (L.flatMap b ++ r) most hm (by rw [List.length_append]; have := hl L hb; omega) h9]
  dsimp only
  rw [Int.toNat_natCast, readN_front f b g L hf r L.length (Nat.le_refl _), List.take_length, List.drop_length]
  rfl
theorem canC_spec {K : Cfg} (h : canC K = true) : K.wins.length ≤ 12 ∧ K.parts.length ≤ 6 ∧ K.chans.length ≤ 8 ∧ ∀ p ∈ K.parts, p.img.length ≤ 512 := by
  unfold canC at h
  simp only [Bool.and_eq_true, decide_eq_true_eq, Bool.not_eq_true'] at h
  refine ⟨h.1.1.1, h.1.1.2, h.1.2, fun p hp => ?_⟩
  have := List.any_eq_false.1 h.2 p hp
  simpa using this
theorem par_front {K : Cfg} (h : canC K = true) (r : List UInt8) (hr : (formK K ++ r).length ≤ 65536) : parC (formK K ++ r) = K ∧ (par3 (formK K ++ r)).2 = ⟨r, 0⟩ := by
  obtain ⟨h1, h2, h3, h4⟩ := canC_spec h
  have e0 : St.new (formK K ++ r) = ⟨formK K ++ r, 0⟩ := by unfold St.new; rw [if_pos hr]
  have e1 : par1 (formK K ++ r) = (K.wins, ⟨(int8 K.parts.length ++ K.parts.flatMap bPt) ++ ((int8 K.chans.length ++ K.chans.flatMap bCh) ++ r), 0⟩) := by
    unfold par1
    rw [e0]
    have := readL_front readWin bWin id K.wins (fun x _ r => win_front x r) (fun x _ => by simp [bWin, int8_len]) 12 (by omega) (by decide) ((int8 K.parts.length ++ K.parts.flatMap bPt) ++ ((int8 K.chans.length ++ K.chans.flatMap bCh) ++ r))
    rw [List.map_id] at this
    rw [← this]
    congr 2
    simp [formK]
  have e2 : par2 (formK K ++ r) = (K.parts, ⟨(int8 K.chans.length ++ K.chans.flatMap bCh) ++ r, 0⟩) := by
    unfold par2
    rw [e1]
    have := readL_front readPt bPt id K.parts (fun x hx r => pt_front x (Nat.le_trans (h4 x hx) (by decide)) r) (fun x _ => by simp [bPt, int8_len] <;> omega) 6 (by omega) (by decide) ((int8 K.chans.length ++ K.chans.flatMap bCh) ++ r)
    rw [List.map_id] at this
    exact this
  have e3 : par3 (formK K ++ r) = (K.chans, ⟨r, 0⟩) := by
    unfold par3
    rw [e2]
    have := readL_front readCh bCh id K.chans (fun x _ r => ch_front x r) (fun x _ => by simp [bCh, int8_len] <;> omega) 8 (by omega) (by decide) r
    rw [List.map_id] at this
    exact this
  exact ⟨by unfold parC; rw [e1, e2, e3], by rw [e3]⟩
theorem form_len {K : Cfg} (h : canC K = true) : (formK K).length ≤ 4000 := by
  obtain ⟨h1, h2, h3, h4⟩ := canC_spec h
  have a1 := win_flat K.wins
  have a3 := ch_flat K.chans
  have a2 : ∀ l : List Pt, (∀ p ∈ l, p.img.length ≤ 512) → (l.flatMap bPt).length ≤ 541 * l.length := by
    intro l
    induction l with
    | nil => intro _; simp
    | cons p l ih =>
      intro h
      have b1 := h p (by simp)
      have b2 := ih (fun q hq => h q (by simp [hq]))
      have b3 : (bPt p).length = 29 + p.img.length := by simp [bPt, int8_len, flagB, withB_length]; omega
      rw [List.flatMap_cons, List.length_append, List.length_cons]
      omega
  have a2 := a2 K.parts h4
  unfold formK
  simp only [List.length_append, int8_len]
  omega
theorem par_form {K : Cfg} (h : canC K = true) : parC (formK K) = K ∧ parOk (formK K) = true := by
  have hl := form_len h
  have := par_front h [] (by rw [List.append_nil]; omega)
  rw [List.append_nil] at this
  refine ⟨this.1, ?_⟩
  unfold parOk
  rw [this.1, this.2, h]
  decide
/-! ### What was read is the bytes. -/
def Eats {α : Type} (f : St → α × St) (b : α → List UInt8) : Prop := ∀ s, (f s).2.e = 0 → s.e = 0 ∧ s.l = b (f s).1 ++ (f s).2.l
theorem read_bad_e {α : Type} {s : St} {n : Nat} {f : List UInt8 → α × Bool} {z : α} (h : s.e ≠ 0) : (s.read n f z).2.e ≠ 0 := by
  unfold St.read St.next
  rw [if_pos h]
  exact h
theorem eats_int : Eats St.int (fun n => int8 n.1) := by
  intro s h
  by_cases he : s.e = 0
  · refine ⟨he, ?_⟩
    unfold St.int at h ⊢
    rcases read_zero (n := 8) (f := fInt) (z := 0) he with ⟨hn, _, hr⟩ | hr
    · rw [hr]
      dsimp only
      have h8 : (s.l.take 8).length = 8 := by rw [List.length_take]; omega
      have : (mkI (fInt (s.l.take 8)).1).1 = i64Q (numB (s.l.take 8)) := mkI_val (by unfold fInt i64Q; exact wrap_range _)
      rw [this]
      unfold int8
      rw [qOfI_i64Q]
      have h9 := rowB_numB (s.l.take 8) (by omega)
      rw [h8] at h9
      rw [h9, List.take_append_drop]
    · rw [hr] at h; exact absurd h (by decide)
  · exact absurd h (read_bad_e he)
theorem eats_flag : Eats (fun s => s.read 1 fFlag false) flagB := by
  intro s h
  by_cases he : s.e = 0
  · refine ⟨he, ?_⟩
    rcases read_zero (n := 1) (f := fFlag) (z := false) he with ⟨hn, hf, hr⟩ | hr
    · show s.l = _
      dsimp only at h ⊢
      rw [hr]
      dsimp only
      have h1 : ((s.l.take 1).getD 0 0).toNat ≤ 1 := by simpa [fFlag] using hf
      rw [take1_get] at h1
      show s.l = flagB ((s.l.take 1).getD 0 0 == bI 1) ++ s.l.drop 1
      rw [take1_get, flag_one _ h1]
      exact take_one hn
    · dsimp only at h
      rw [hr] at h; exact absurd h (by decide)
  · exact absurd h (read_bad_e he)
theorem eats_bytes : Eats St.bytes withB := by
  intro s h
  by_cases he : s.e = 0
  · refine ⟨he, ?_⟩
    rcases bytes_zero he with ⟨m, rest, _, hl, hb⟩ | hb
    · rw [hb]; exact hl
    · rw [hb] at h; exact absurd h (by decide)
  · unfold St.bytes at h
    rw [if_neg (read_bad_e he)] at h
    exact absurd h (read_bad_e he)
theorem eats_win : Eats readWin bWin := by
  intro s h
  obtain ⟨h1, e1⟩ := eats_int _ h
  obtain ⟨h0, e0⟩ := eats_int _ h1
  refine ⟨h0, ?_⟩
  rw [e0, e1]
  simp [readWin, bWin]
theorem eats_ch : Eats readCh bCh := by
  intro s h
  obtain ⟨h4, e4⟩ := eats_int _ h
  obtain ⟨h3, e3⟩ := eats_int _ h4
  obtain ⟨h2, e2⟩ := eats_int _ h3
  obtain ⟨h1, e1⟩ := eats_int _ h2
  obtain ⟨h0, e0⟩ := eats_int _ h1
  refine ⟨h0, ?_⟩
  rw [e0, e1, e2, e3, e4]
  simp [readCh, bCh]
theorem eats_pt : Eats readPt bPt := by
  intro s h
  obtain ⟨h4, e4⟩ := eats_bytes _ h
  obtain ⟨h3, e3⟩ := eats_flag _ h4
  obtain ⟨h2, e2⟩ := eats_int _ h3
  obtain ⟨h1, e1⟩ := eats_int _ h2
  obtain ⟨h0, e0⟩ := eats_int _ h1
  refine ⟨h0, ?_⟩
  rw [e0, e1, e2, e3, e4]
  simp [readPt, bPt]
theorem eats_count (most : Int) : Eats (fun s => s.count most) int8 := by
  intro s h
  by_cases he : s.e = 0
  · refine ⟨he, ?_⟩
    dsimp only at h ⊢
    unfold St.count at h ⊢
    rw [show s.next 8 = if 8 ≤ s.l.length then (some (s.l.take 8), ⟨s.l.drop 8, 0⟩) else (none, St.broke) by unfold St.next; rw [if_neg (by rw [he]; decide)]] at h ⊢
    by_cases hn : 8 ≤ s.l.length
    · rw [if_pos hn] at h ⊢
      dsimp only at h ⊢
      split at h
      · rename_i hc
        rw [if_pos hc]
        dsimp only
        have h8 : (s.l.take 8).length = 8 := by rw [List.length_take]; omega
        unfold int8
        rw [qOfI_i64Q]
        have h9 := rowB_numB (s.l.take 8) (by omega)
        rw [h8] at h9
        rw [h9, List.take_append_drop]
      · exact absurd h (by decide)
    · rw [if_neg hn] at h
      exact absurd h (by show ¬ ((50 : Int) = 0); decide)
  · exfalso
    dsimp only at h
    unfold St.count at h
    rw [show s.next 8 = (none, s) by unfold St.next; rw [if_pos he]] at h
    exact he h
theorem eats_N {α : Type} {f : St → α × St} {b : α → List UInt8} (hf : Eats f b) : ∀ k s, (readN f k s).2.e = 0 → s.e = 0 ∧ s.l = (readN f k s).1.flatMap b ++ (readN f k s).2.l
  | 0, s, h => ⟨h, by simp [readN]⟩
  | k + 1, s, h => by
    have h1 := hf _ h
    have h0 := eats_N hf k s h1.1
    refine ⟨h0.1, ?_⟩
    rw [readN, h0.2, h1.2]
    simp
theorem eats_L {α : Type} {f : St → α × St} {b : α → List UInt8} (hf : Eats f b) (most : Int) (hm : 0 ≤ most) : ∀ s, (readL f most s).2.e = 0 → s.e = 0 ∧ s.l = (int8 (readL f most s).1.length ++ (readL f most s).1.flatMap b) ++ (readL f most s).2.l := by
  intro s h
  have h1 := eats_N hf _ _ h
  have h0 := eats_count most s h1.1
  refine ⟨h0.1, ?_⟩
  have hl : ((readL f most s).1.length : Int) = (s.count most).1 := by
    unfold readL
    rw [readN_len]
    have := (count_range s most hm).1
    omega
  rw [h0.2, hl, List.append_assoc]
  congr 1
  exact h1.2
theorem fin_zero {s : St} (h : s.fin = 0) : s.e = 0 ∧ s.l = [] := by
  by_cases he : s.e = 0
  · unfold St.fin St.left at h
    rw [if_pos he] at h
    by_cases hp : 0 < s.l.length
    · rw [if_pos hp] at h; exact absurd h (by decide)
    · exact ⟨he, List.eq_nil_of_length_eq_zero (by omega)⟩
  · unfold St.fin St.left at h
    rw [if_neg he, if_neg (by decide)] at h
    exact absurd h he
theorem par_back {l : List UInt8} (h : parOk l = true) : l = formK (parC l) ∧ canC (parC l) = true := by
  unfold parOk at h
  rw [Bool.and_eq_true, decide_eq_true_eq] at h
  obtain ⟨h3, e3⟩ := fin_zero h.1
  obtain ⟨h2, e2⟩ := eats_L eats_ch 8 (by decide) _ h3
  obtain ⟨h1, e1⟩ := eats_L eats_pt 6 (by decide) _ h2
  obtain ⟨h0, e0⟩ := eats_L eats_win 12 (by decide) _ h1
  refine ⟨?_, h.2⟩
  have hn : St.new l = ⟨l, 0⟩ := by
    unfold St.new at h0 ⊢
    split
    · rfl
    · rename_i hc; rw [if_neg hc] at h0; exact absurd h0 (by decide)
  rw [hn] at e0
  have e0 : l = _ := e0
  have e3 : (par3 l).2.l = [] := e3
  have e2 : (par2 l).2.l = (int8 (par3 l).1.length ++ (par3 l).1.flatMap bCh) ++ (par3 l).2.l := e2
  have e1 : (par1 l).2.l = (int8 (par2 l).1.length ++ (par2 l).1.flatMap bPt) ++ (par2 l).2.l := e1
  have e0 : l = (int8 (par1 l).1.length ++ (par1 l).1.flatMap bWin) ++ (par1 l).2.l := by
    have := hn
    unfold par1
    rw [hn]
    exact e0
  rw [e3, List.append_nil] at e2
  rw [e2] at e1
  rw [e1] at e0
  conv => lhs; rw [e0]
  simp [formK, parC]
end Go.Proofs.YtlholdllibghbaaGreat

