/- Chapter 14's examples: walked. -/
import Derived.Test.YtlholdllibghbaaGreatAwk14p
import Derived.Test.YtlholdllibghbaaGreatG14
namespace Go.Proofs.YtlholdllibghbaaGreat
open Go Go.RowKit Go.Cit

theorem neMW : (55 : Nat) ≠ 77 := by decide
theorem neMP : (55 : Nat) ≠ 46 := by decide
theorem neMC : (55 : Nat) ≠ 48 := by decide
theorem neMU : (5 : Nat) ≠ 55 := by decide
theorem FreshV.offM {B k : Nat} {w w' : World} {V : CfgV} {C : Array Value} {fr : Nat × Nat} (h : FreshV B w V) (hs : Save (· ≠ k) w w') (hk : w.heap[k]? = some (.cells C 55 fr)) : FreshV B w' V := by
  have e : ∀ {E : TypeId} {g : Nat}, (∃ cs, w.heap[g]? = some (.cells cs E (0, 0))) → (55 : Nat) ≠ E → g ≠ k := by
    rintro E g ⟨cs, hg⟩ hE rfl
    rw [hk] at hg; injection hg with hg; injection hg with _ h2; exact hE h2
  have s : ∀ {E : TypeId} {g : Nat}, (∃ cs, w.heap[g]? = some (.cells cs E (0, 0))) → (55 : Nat) ≠ E → ∃ cs, w'.heap[g]? = some (.cells cs E (0, 0)) := by
    rintro E g ⟨cs, hg⟩ hE
    exact ⟨cs, (hs.block g (Array.getElem?_eq_some_iff.1 hg).1 (e ⟨cs, hg⟩ hE)).trans hg⟩
  exact ⟨h.win.save cWin_len hs (fun _ j hj => e (h.wb j hj).2 neMW), h.pts.save cPt_len hs (fun _ j hj => e (h.pb j hj).2 neMP), h.chs.save cCh_len hs (fun _ j hj => e (h.cb j hj).2 neMC),
    fun g hg => ⟨(h.wb g hg).1, s (h.wb g hg).2 neMW⟩, fun g hg => ⟨(h.pb g hg).1, s (h.pb g hg).2 neMP⟩, fun g hg => ⟨(h.cb g hg).1, s (h.cb g hg).2 neMC⟩, fun x hx => (h.img x hx).save hs (fun j hj => ownb_bx (h.img x hx) hk neMU j hj)⟩
theorem FreshV.win1 {B : Nat} {w : World} {V : CfgV} (h : FreshV B w V) {x : Win} (hx : V.ws = [x]) (n : I64) : ∃ g off, V.wa = some ⟨g, off, none⟩ ∧ B ≤ g ∧ (∃ cs, w.heap[g]? = some (.cells cs 77 (0, 0))) ∧ w.frozen? ⟨g, off + 1, none⟩ = false ∧ w.cell? ⟨g, off + 1, none⟩ = some (.int .i64 x.part.1) ∧
    FreshV B (w.setCell ⟨g, off + 1, none⟩ (.int .i64 n.1)) { V with ws := [⟨x.len, n⟩] } := by
  obtain ⟨g, off, hw⟩ := h.win.spot (by rw [hx]; simp)
  have hb := h.wb g (by rw [hw]; rfl)
  obtain ⟨cs, hg⟩ := hb.2
  have hv := h.win
  rw [hx, hw] at hv
  have e0 : w.cell? ⟨g, off, none⟩ = some (.int .i64 x.len.1) := by have := hv.cell 0 (by simp) 0 (by decide); simpa [ad] using this
  have e1 : w.cell? ⟨g, off + 1, none⟩ = some (.int .i64 x.part.1) := by have := hv.cell 0 (by simp) 1 (by decide); simpa [ad] using this
  have hs : Save (· ≠ g) w (w.setCell ⟨g, off + 1, none⟩ (.int .i64 n.1)) := Save.set
  have ne : ∀ {E : TypeId} {k : Nat}, (∃ cs, w.heap[k]? = some (.cells cs E (0, 0))) → (E : Nat) ≠ 77 → k ≠ g := by
    rintro E k ⟨ds, hk⟩ hE rfl
    rw [hg] at hk; injection hk with hk; injection hk with _ h2; exact hE h2.symm
  have st : ∀ {E : TypeId} {k : Nat}, (∃ cs, w.heap[k]? = some (.cells cs E (0, 0))) → (E : Nat) ≠ 77 → ∃ cs, (w.setCell ⟨g, off + 1, none⟩ (.int .i64 n.1)).heap[k]? = some (.cells cs E (0, 0)) := by
    rintro E k ⟨ds, hk⟩ hE
    exact ⟨ds, (hs.block k (Array.getElem?_eq_some_iff.1 hk).1 (ne ⟨ds, hk⟩ hE)).trans hk⟩
  refine ⟨g, off, hw, hb.1, ⟨cs, hg⟩, by simp [World.frozen?, hg], e1, ?_⟩
  refine ⟨?_, h.pts.save cPt_len hs (fun _ j hj => ne (h.pb j hj).2 (by decide)), h.chs.save cCh_len hs (fun _ j hj => ne (h.cb j hj).2 (by decide)), fun k hk => ?_, fun k hk => ⟨(h.pb k hk).1, st (h.pb k hk).2 (by decide)⟩, fun k hk => ⟨(h.cb k hk).1, st (h.cb k hk).2 (by decide)⟩, fun y hy => (h.img y hy).save hs (fun j hj => ownb_bx (h.img y hy) hg (by decide) j hj)⟩
  · show Vec cWin 2 _ V.wa [_] V.wc
    rw [hw]
    refine ⟨hv.le, hv.top, fun e => by simp at e, fun _ => ⟨g, off, rfl⟩, fun i hi j hj => ?_⟩
    obtain rfl : i = 0 := by simp at hi; omega
    match j, hj with
    | 0, _ =>
      have : ((w.setCell ⟨g, off + 1, none⟩ (.int .i64 n.1)).cell? ⟨g, off, none⟩) = w.cell? ⟨g, off, none⟩ := World.cell?_setCell_other w _ _ _ (by intro e; injection e with _ e; omega)
      simpa [ad] using this.trans e0
    | 1, _ =>
      have : ((w.setCell ⟨g, off + 1, none⟩ (.int .i64 n.1)).cell? ⟨g, off + 1, none⟩) = some (.int .i64 n.1) := World.cell?_setCell_same w _ _ e1
      simpa [ad] using this
  · obtain rfl : k = g := by rw [hw] at hk; simpa [Go.Cit.blk] using hk.symm
    refine ⟨hb.1, ?_⟩
    simp [World.setCell, Array.getElem?_modify, hg]

def bx14 : Boxes := ⟨3, fun j => 4 + j, fun j => 7 + j, fun j => 2 + j, fun _ => 55, fun _ => cM zM⟩
def tS (B : Nat) (K : Man) (C : Array Value) (w : World) : Prop := ∃ S : ManV, C = cM S ∧ S.man = K ∧ FreshM B w S
def bxX (C1 : Array Value) (B : Nat) (K : Man) (j : Nat) (C : Array Value) (w : World) : Prop := if j = 2 then tS B K C w else C = C1
def bxT (C1 : Array Value) (B : Nat) (K : Man) : Nat → Value → World → Prop
  | 26 => fun v _ => v = .agg C1
  | 27 => fun v _ => v = .agg C1
  | 28 => fun v _ => v = .agg C1
  | 29 => fun v w => ∃ C, v = .agg C ∧ tS B K C w
  | _ => fun _ _ => True
def awr (_ _ _ _ _ : Nat) (C9 CA CB CC CD CF : Array Value) : Nat → Value
  | 49 => (.agg C9)
  | 50 => (.int .i64 0)
  | 51 => (.bool true)
  | 52 => (.bool true)
  | 53 => (bif true then (.agg C9) else undef)
  | 54 => (bif true then (.int .i64 141) else undef)
  | 55 => (bif true then (.bool true) else undef)
  | 56 => (.bool (true || false))
  | 57 => (.bool (true || false))
  | 58 => (bif (true || false) then (.agg CA) else undef)
  | 59 => (bif (true || false) then (.int .i64 142) else undef)
  | 60 => (bif (true || false) then (.bool true) else undef)
  | 61 => (.bool ((true || false) || false))
  | 62 => (.bool ((true || false) || false))
  | 63 => (bif ((true || false) || false) then (.agg CB) else undef)
  | 64 => (bif ((true || false) || false) then (.int .i64 143) else undef)
  | 65 => (bif ((true || false) || false) then (.bool true) else undef)
  | 66 => (.bool (((true || false) || false) || false))
  | 67 => (.bool (((true || false) || false) || false))
  | 68 => (bif (((true || false) || false) || false) then (.agg CC) else undef)
  | 69 => (bif (((true || false) || false) || false) then (.int .i64 90) else undef)
  | 70 => (bif (((true || false) || false) || false) then (.bool true) else undef)
  | 71 => (.bool ((((true || false) || false) || false) || false))
  | 72 => (.bool ((((true || false) || false) || false) || false))
  | 73 => (bif ((((true || false) || false) || false) || false) then (.int .i64 140) else undef)
  | 74 => (bif ((((true || false) || false) || false) || false) then (.bool true) else undef)
  | 75 => (.bool (((((true || false) || false) || false) || false) || false))
  | 76 => (.bool (((((true || false) || false) || false) || false) || false))
  | 77 => (bif (((((true || false) || false) || false) || false) || false) then (.agg CD) else undef)
  | 78 => (bif (((((true || false) || false) || false) || false) || false) then (.bool false) else undef)
  | 79 => (bif (((((true || false) || false) || false) || false) || false) then (.bool (!false)) else undef)
  | 80 => (.bool ((((((true || false) || false) || false) || false) || false) && (!false)))
  | 81 => (.bool ((((((true || false) || false) || false) || false) || false) && (!false)))
  | 82 => (bif ((((((true || false) || false) || false) || false) || false) && (!false)) then (.agg CF) else undef)
  | 83 => (bif ((((((true || false) || false) || false) || false) || false) && (!false)) then (.bool false) else undef)
  | 84 => (bif ((((((true || false) || false) || false) || false) || false) && (!false)) then (.bool (!false)) else undef)
  | 85 => (.bool (((((((true || false) || false) || false) || false) || false) && (!false)) && (!false)))
  | 0 => (.bool (((((((true || false) || false) || false) || false) || false) && (!false)) && (!false)))
  | _ => undef
def awro (p1 p2 p3 p4 p7 : Nat) (_ _ _ _ _ _ : Array Value) : Nat → Value
  | 1 => (.pointer (some ⟨p1, 0, none⟩))
  | 2 => (.pointer (some ⟨p2, 0, none⟩))
  | 3 => (.pointer (some ⟨p3, 0, none⟩))
  | 4 => (.pointer (some ⟨p4, 0, none⟩))
  | 6 => (.int .i64 140)
  | 7 => (.pointer (some ⟨p7, 0, none⟩))
  | 8 => (.pointer (some ⟨(p7 + 1), 0, none⟩))
  | _ => undef
theorem tS_bx {B : Nat} {K : Man} {C : Array Value} {W w1 w2 : World} (hG : bxG bx14 W w1 w2) (h : tS B K C w1) : tS B K C w2 := by
  obtain ⟨S, h1, h2, h3⟩ := h
  refine ⟨S, h1, h2, h3.p32, h3.t32, ?_⟩
  rcases hG with hb | ⟨g, j, D, _, _, hg, hs⟩
  · exact h3.cfg.stay hb
  · exact h3.cfg.offM hs hg
theorem bxX_bx {C1 : Array Value} {B : Nat} {K : Man} {j : Nat} {C : Array Value} {W w1 w2 : World} (hG : bxG bx14 W w1 w2) (h : bxX C1 B K j C w1) : bxX C1 B K j C w2 := by
  unfold bxX at h ⊢
  split
  · rename_i e; rw [if_pos e] at h; exact tS_bx hG h
  · rename_i e; rw [if_neg e] at h; exact h
theorem bxT_bx {C1 : Array Value} {B : Nat} {K : Man} {d : Nat} {v : Value} {W w1 w2 : World} (hG : bxG bx14 W w1 w2) (h : bxT C1 B K d v w1) : bxT C1 B K d v w2 := by
  unfold bxT at h ⊢
  split at h
  · exact h
  · exact h
  · exact h
  · obtain ⟨C, e, hC⟩ := h
    exact ⟨C, e, tS_bx hG hC⟩
  · trivial
theorem ne14 {n d : Nat} (hn : n < 4) (hd : 26 ≤ d) : ∀ j, j < bx14.nb → n ≠ bx14.ia j ∧ n ≠ bx14.is_ j ∧ (some d : Option Nat) ≠ some (bx14.d j) := fun j hj => by
  have hj : j < 3 := hj
  refine ⟨by show n ≠ 4 + j; omega, by show n ≠ 7 + j; omega, fun e => ?_⟩
  have e : d = 2 + j := Option.some.inj e
  omega
theorem store14 {ρ : Operand → Value} {o : Oper} {wx : World} {x y : Operand} (ho : o.op = .store 55 x y) {g : Nat} {D C : Array Value} (hx : ρ x = .pointer (some ⟨g, 0, none⟩)) (hy : ρ y = .agg C) (hD : wx.heap[g]? = some (.cells D 55 (0, 0))) (hDs : D.size = C.size) (hC : C.size = 69) (h1 : C.all (·.oneCell') = true) :
    ∃ w', (execOp ρ o).run Tryz.prog wx = .ok .skip w' ∧ w'.heap[g]? = some (.cells C 55 (0, 0)) ∧ Save (· ≠ g) wx w' := by
  have hr := run_storeVar_row (P := Tryz.prog) wx g 55 55 D C hD (by rw [hC]; kernel_rfl) hDs h1
  refine ⟨wx.setRow g C, ?_, setRow_same hD, setRow_save _ _ _⟩
  unfold execOp
  simp only [ho, hx, hy, Sem.run_bind, Instr.storeAt, Instr.sureAddr, Sem.run_pure, Result.andThen, hr]
theorem InM.off {w w' : World} {g k : Nat} {M : ManV} (h : InM w g M) (hs : Save (· ≠ k) w w') (hne : g ≠ k) : InM w' g M := h.save hs hne
set_option maxRecDepth 100000 in
set_option maxHeartbeats 16000000 in
theorem awake14_calls (w : World) : Calls Tryz.prog 24 #[] w fun e w' => e = .returned (.bool true) ∧ Below w.heap.size w w' := by
  have HAM := Lib.hid (fun ρ d ty ps af w => alloc_man ρ d ty ps (af := af) w)
  have HZT := Lib.hid (fun ρ d ty ps af w => zeroT ρ d ty ps (af := af) w)
  obtain ⟨Z, hZ⟩ : ∃ Z, Hid (Z = cM zM) := ⟨_, rfl⟩
  rw [← hZ.out] at HAM
  have HZS : Hid (Z.size = 69) := by rw [Hid, hZ.out]; rfl
  have HS1 := Lib.hid (mshown_calls w)
  have hcv := conv_key
  go_enter Tryz.func24, Tryz.ntmps24
  go_wp2_with fail
  refine (HS1.out).mono ?_
  rintro e w1 ⟨S1, rfl, hm1, hF1, hb1⟩
  have HB1 := Lib.hid hb1
  have HM1 := Lib.hid hm1
  have HF1 := Lib.hid hF1
  obtain ⟨p1, hp1⟩ : ∃ p, p = w1.heap.size := ⟨_, rfl⟩
  obtain ⟨CS, hCS⟩ : ∃ C, Hid (C = cM S1) := ⟨_, rfl⟩
  have HCS : Hid (CS.size = 69 ∧ CS.all (·.oneCell') = true) := by rw [hCS.out]; exact ⟨cM_size HF1.out.p32 HF1.out.t32, cM_one _⟩
  rw [← hCS.out]
  have HNW := Lib.hid (heap_alloc_new w1 (.cells Z 55))
  clear hm1 hF1 hb1 HS1
  go_upto_region 2 with (first | ((with_reducible refine wpList_value (o := ⟨some 1, .alloc _, _, _, _, _⟩) (by with_unfolding_all rfl) (HAM.out _ _ _ _ _ _) ?_)) | ((with_reducible refine wpList_storeB (o := ⟨none, .store _ (.tmp 1) (.tmp 9), _, _, _, _⟩) rowM (.tmp 1) (.tmp 9) (by with_unfolding_all rfl) (by with_unfolding_all rfl) (by with_unfolding_all rfl) (by with_unfolding_all rfl) (by with_unfolding_all rfl) HNW.out HZS.out HCS.out.1 HCS.out.2 ?_); intro w2 hbw2 hSw2; have HBw2 := Lib.hid hbw2; have HSw2 := Lib.hid hSw2; clear hbw2 hSw2))
  have hb2 : Below w1.heap.size w1 w2 := by
    have h1 : Below w1.heap.size w1 (w1.alloc (.cells Z 55)) := (Below.refl _ _).alloc (Nat.le_refl _) _
    exact h1.trans (HSw2.out.below (by simp) (fun k hk => by omega))
  have HI2 : Hid (InM w2 p1 S1) := by rw [Hid, hp1]; exact ⟨by rw [← hCS.out]; exact HBw2.out, HF1.out.p32, HF1.out.t32⟩
  have HF2 : Hid (FreshV w.heap.size w2 S1.cfg) := HF1.out.cfg.stay hb2
  have HB2 := Lib.hid (HB1.out.trans (hb2.mono HB1.out.size))
  have HP1 : Hid (w.heap.size ≤ p1) := by rw [Hid, hp1]; exact HB1.out.size
  have HK9 : Hid (p1 = w1.heap.size ∧ w1.heap.size < w2.heap.size) := ⟨hp1, by have := HI2.out.lt; rw [← hp1]; exact this⟩
  rw [← hp1]
  clear hb2 HBw2 HSw2 HNW HB1 hp1
  -- region 2
  obtain ⟨w3, hw3⟩ : ∃ wk, wk = w2.alloc (.cells #[.int .u8 107, .int .u8 101, .int .u8 121] 5 (3, 4)) := ⟨_, rfl⟩
  have bk : Below w2.heap.size w2 w3 := by rw [hw3]; exact (Below.refl _ _).alloc (Nat.le_refl _) _
  have hkr : Row w3 (some ⟨w2.heap.size, 0, none⟩) keyS 3 := by rw [hw3]; exact row_blk keyS (World.alloc_heap_new w2 _) rfl (by decide)
  have hI3 := HI2.out.keep bk
  have hF3 := HF2.out.stay bk
  have HF3 := Lib.hid hF3
  have HI3 := Lib.hid hI3
  have HB3 := Lib.hid (HB2.out.trans (bk.mono HB2.out.size))
  have hr := mright_calls w3 _ keyS 3 hkr (by decide) S1 ⟨hI3.p32, hI3.t32, hF3.at⟩
  rw [HM1.out, awk_right, ← hCS.out] at hr
  have HR := Lib.hid hr
  have hw := hI3.whole
  rw [← hCS.out, hw3] at hw
  have HL := Lib.hid hw
  clear bk hkr hI3 hF3 hr hw HI2 HF2 HB2
  go_wp2_with ((with_reducible refine wpList_load_op (o := ⟨some 12, .load 55 (.tmp 1), _, _, _, _⟩) (by with_unfolding_all rfl) (by with_unfolding_all rfl) (by with_unfolding_all rfl) HL.out ?_))
  rw [← hw3]
  clear hw3
  refine (HR.out).mono ?_
  rintro e w4 ⟨rfl, hb4⟩
  have HI4 := Lib.hid (HI3.out.keep hb4)
  have HF4 := Lib.hid (HF3.out.stay hb4)
  have HB4 := Lib.hid (HB3.out.trans (hb4.mono HB3.out.size))
  have d0 := HI4.out.d0
  have hws : S1.cfg.ws = [win14] := by
    have h1 : S1.cfg.cfg = cfg14 := by rw [show S1.cfg.cfg = S1.man.cfg from rfl, HM1.out]; rfl
    exact congrArg Cfg.wins h1
  have HWS := Lib.hid hws
  have hwl : ((S1.cfg.ws.length : Int) != 1) = false := by rw [hws]; rfl
  have f3 := mf3 p1
  have f0 := mf0 p1
  have f1 := mf1 p1
  have u0 := HI4.out.ver
  have z0 : w4.frozen? ⟨p1, 0, none⟩ = false := by simp [World.frozen?, HI4.out.blk]
  clear hws hb4 HR HL HI3 HF3 HB3
  go_upto_region 5 with fail
  obtain ⟨w5, hw5⟩ : ∃ x, x = w4.setCell ⟨p1, 0, none⟩ (.int .i64 2) := ⟨_, rfl⟩
  rw [← hw5]
  have HI5 : Hid (InM w5 p1 { S1 with ver := j2 }) := by rw [Hid, hw5]; exact HI4.out.setVer j2
  have hs5 : Save (· ≠ p1) w4 w5 := by rw [hw5]; exact Save.set
  have HF5 := Lib.hid (HF4.out.offM hs5 HI4.out.blk)
  have HB5 : Hid (Below w.heap.size w w5) := HB4.out.trans (hs5.below HB4.out.size (fun k hk => by have := HP1.out; omega))
  have HS2 := Lib.hid (mshown_calls w5)
  clear hs5 hw5 d0 hwl u0 z0 HI4 HF4 HB4
  go_wp2_with fail
  refine (HS2.out).mono ?_
  rintro e w6 ⟨S2, rfl, hm2, hF2, hb6⟩
  have hh := mhash_calls w6 S2 hF2.at
  rw [mhashB_man, hm2] at hh
  obtain ⟨C2, hC2⟩ : ∃ C, Hid (C = cM S2) := ⟨_, rfl⟩
  rw [← hC2.out] at hh ⊢
  obtain ⟨TH, hTH⟩ : ∃ T, Hid (T = ((mhashK man14).map vb).toArray) := ⟨_, rfl⟩
  have hl32 : (mhashK man14).length = 32 := by rw [← hm2, ← mhashB_man]; exact mhashB_len _
  have HTC : Hid (TH.size = 32 ∧ TH.all (·.oneCell') = true) := by rw [hTH.out]; exact tag_cells _ hl32
  have HL32 := Lib.hid hl32
  rw [← hTH.out] at hh
  have HH := Lib.hid hh
  have HI6 := Lib.hid (HI5.out.keep hb6)
  have HF6 := Lib.hid (HF5.out.stay hb6)
  have HB6 := Lib.hid (HB5.out.trans (hb6.mono HB5.out.size))
  clear hh hm2 hF2 hb6 hl32 HS2 HI5 HF5 HB5
  go_wp2_with fail
  refine (HH.out).mono ?_
  rintro e w7 ⟨rfl, hb7⟩
  have HI7 := Lib.hid (HI6.out.keep hb7)
  have HF7 := Lib.hid (HF6.out.stay hb7)
  have HB7 := Lib.hid (HB6.out.trans (hb7.mono HB6.out.size))
  clear hb7 HH HI6 HF6 HB6
  go_upto_region 6 with ((with_reducible refine wpList_storeM (o := ⟨none, .store _ (.tmp 25) (.tmp 24), _, _, _, _⟩) (C := cM { S1 with ver := j2 }) tagRow.info (.tmp 25) (.tmp 24) (by with_unfolding_all rfl) (by with_unfolding_all rfl) (by with_unfolding_all rfl) (by with_unfolding_all rfl) (by with_unfolding_all rfl) HTC.out.1 HI7.out.blk (by rw [HI7.out.size]; decide) HTC.out.2 ?_); intro w8 hbw8 hSw8; have HBw8 := Lib.hid hbw8; have HSw8 := Lib.hid hSw8; clear hbw8 hSw8)
  obtain ⟨M1, hM1⟩ : ∃ M : ManV, Hid (M = { S1 with ver := j2, prev := mhashK man14 }) := ⟨_, rfl⟩
  have HI8 : Hid (InM w8 p1 M1) := by
    rw [Hid, hM1.out]
    refine ⟨HBw8.out.trans ?_, HL32.out, HI7.out.t32⟩
    rw [hTH.out, show splA (cM { S1 with ver := j2 }) 1 _ = cM { S1 with ver := j2, prev := mhashK man14 } from spl_prev HI7.out.p32 HL32.out]
  have HF8 := Lib.hid (HF7.out.offM HSw8.out HI7.out.blk)
  have HB8 : Hid (Below w.heap.size w w8) := HB7.out.trans (HSw8.out.below HB7.out.size (fun k hk => by have := HP1.out; omega))
  have HMM : Hid (M1.man = manM) := by
    rw [Hid, hM1.out]
    show (⟨j2, mhashK man14, S1.man.trial, S1.man.cfg, S1.man.tag⟩ : Man) = manM
    rw [HM1.out]; rfl
  have HA8 : Hid (M1.At w8) := ⟨HI8.out.p32, HI8.out.t32, by rw [hM1.out]; exact HF8.out.at⟩
  have HSS : Hid (SmallV M1.cfg) := by
    have h1 : M1.cfg.cfg = cfg14 := by rw [show M1.cfg.cfg = M1.man.cfg from rfl, HMM.out]; rfl
    exact small_can (by rw [canV_cfg, h1]; kernel_rfl)
  clear HBw8 HSw8 HI7 HF7 HB7 HF8 f0 f1 f3
  obtain ⟨C1, hC1⟩ : ∃ C, Hid (C = cM M1) := ⟨_, rfl⟩
  have HC1 : Hid (C1.size = 69 ∧ C1.all (·.oneCell') = true) := by rw [hC1.out]; exact ⟨HI8.out.size, cM_one _⟩
  -- region 6
  refine wp_region_boxes bx14 (bxX C1 w8.heap.size manM) (bxT C1 w8.heap.size manM) (by kernel_rfl) (by kernel_rfl) (by kernel_rfl) (fun _ _ _ _ hG h => bxT_bx hG h) (fun _ _ _ _ hG h => bxX_bx hG h) ?_ ?_ (fun j hj => by
      have : j < 3 := hj
      exact ⟨by show 4 + j < 10; omega, by show 7 + j < 10; omega⟩)
  · refine opsAll_cons ?_ (opsAll_cons ?_ (opsAll_cons ?_ (opsAll_cons ?_ (opsAll_cons ?_ (opsAll_cons ?_ (opsAll_cons ?_ (opsAll_cons ?_ (opsAll_cons ?_ (opsAll_cons ?_ opsAll_nil)))))))))
    all_goals intro δ wa wx hk
    · exact .inl ⟨wanted_free rfl, ne14 (by decide) (by decide), gp_load (.tmp 1) rfl ((hk.old 1 (by kernel_rfl)).trans rfl) (v := .agg C1) (by rw [hC1.out]; exact (HI8.out.keep hk.inv.1).whole) ⟨Below.refl _ _, rfl⟩⟩
    · exact .inl ⟨wanted_free rfl, ne14 (by decide) (by decide), gp_load (.tmp 1) rfl ((hk.old 1 (by kernel_rfl)).trans rfl) (v := .agg C1) (by rw [hC1.out]; exact (HI8.out.keep hk.inv.1).whole) ⟨Below.refl _ _, rfl⟩⟩
    · exact .inl ⟨wanted_free rfl, ne14 (by decide) (by decide), gp_load (.tmp 1) rfl ((hk.old 1 (by kernel_rfl)).trans rfl) (v := .agg C1) (by rw [hC1.out]; exact (HI8.out.keep hk.inv.1).whole) ⟨Below.refl _ _, rfl⟩⟩
    · exact .inl ⟨wanted_free rfl, ne14 (by decide) (by decide), gp_call rfl (hk.fn _) #[.agg C1] (fun w => by kernel_rfl) (by simp only [List.map_toArray, List.map_cons, List.map_nil, show wa.eval (.tmp 28) = .agg C1 from hk.slot 28 (by kernel_rfl)]) (by
        rw [hC1.out]
        refine (mcopied_calls wx M1 (HA8.out.stay hk.inv.1) HSS.out).mono ?_
        rintro e w' ⟨S, he, hm, hf, hb⟩
        exact ⟨_, he, hb, cM S, rfl, S, rfl, hm.trans HMM.out, hf.p32, hf.t32, hf.cfg.low hk.inv.1.size⟩)⟩
    · exact .inr (.inl ⟨0, by decide, rfl, rfl, rfl, alloc_man _ _ _ _ _, fun _ _ => trivial⟩)
    · exact .inr (.inl ⟨1, by decide, rfl, rfl, rfl, alloc_man _ _ _ _ _, fun _ _ => trivial⟩)
    · exact .inr (.inl ⟨2, by decide, rfl, rfl, rfl, alloc_man _ _ _ _ _, fun _ _ => trivial⟩)
    · exact .inr (.inr ⟨0, C1, by decide, rfl, rfl, rfl, rfl, by rw [HC1.out.1]; rfl, fun g D hg hD hDs => store14 rfl hg (hk.slot 26 (by kernel_rfl)) hD hDs HC1.out.1 HC1.out.2⟩)
    · exact .inr (.inr ⟨1, C1, by decide, rfl, rfl, rfl, rfl, by rw [HC1.out.1]; rfl, fun g D hg hD hDs => store14 rfl hg (hk.slot 27 (by kernel_rfl)) hD hDs HC1.out.1 HC1.out.2⟩)
    · obtain ⟨C, e29, S, hC, hm, hf⟩ := hk.slot 29 (by kernel_rfl)
      have h69 : C.size = 69 := by rw [hC]; exact cM_size hf.p32 hf.t32
      exact .inr (.inr ⟨2, C, by decide, rfl, rfl, rfl, ⟨S, hC, hm, hf⟩, by rw [h69]; rfl, fun g D hg hD hDs => store14 rfl hg e29 hD hDs h69 (by rw [hC]; exact cM_one _)⟩)
  intro a w9 hb9 hsame hall hbox
  obtain ⟨p2, D2, e2, hp2, hD2, hX2, hn2⟩ := hbox 0 (by decide)
  obtain ⟨p3, D3, e3, hp3, hD3, hX3, hn3⟩ := hbox 1 (by decide)
  obtain ⟨p4, D4, e4, hp4, hD4, hX4, hn4⟩ := hbox 2 (by decide)
  obtain rfl : D2 = C1 := hX2
  obtain rfl : D3 = D2 := hX3
  obtain ⟨S4, hS4, hm4, hF4⟩ : tS w8.heap.size manM D4 w9 := hX4
  subst hS4
  have HNE : Hid (p2 ≠ p3 ∧ p2 ≠ p4 ∧ p3 ≠ p4) := by
    refine ⟨fun h => ?_, fun h => ?_, fun h => ?_⟩
    · refine hn2 1 (by decide) (by decide) ?_; show a.eval (.tmp 3) = _; rw [h]; exact e3
    · refine hn2 2 (by decide) (by decide) ?_; show a.eval (.tmp 4) = _; rw [h]; exact e4
    · refine hn3 2 (by decide) (by decide) ?_; show a.eval (.tmp 4) = _; rw [h]; exact e4
  have he := act_same hsame [26, 27, 28, 29, 2, 3, 4] (by kernel_rfl)
  simp only [List.foldl_cons, List.foldl_nil] at he
  rw [show a.eval (.tmp 2) = _ from e2, show a.eval (.tmp 3) = _ from e3, show a.eval (.tmp 4) = _ from e4] at he
  generalize a.eval (.tmp 26) = y26 at he
  generalize a.eval (.tmp 27) = y27 at he
  generalize a.eval (.tmp 28) = y28 at he
  generalize a.eval (.tmp 29) = y29 at he
  simp only [put_lit] at he
  dsimp only [List.set_cons_zero, List.set_cons_succ] at he
  subst he
  have H1 : Hid (InM w9 p1 M1) := HI8.out.keep hb9
  have H2 : Hid (InM w9 p2 M1) := by rw [hC1.out] at hD2; exact ⟨hD2, HI8.out.p32, HI8.out.t32⟩
  have H3 : Hid (InM w9 p3 M1) := by rw [hC1.out] at hD3; exact ⟨hD3, HI8.out.p32, HI8.out.t32⟩
  have H4 : Hid (InM w9 p4 S4) := ⟨hD4, hF4.p32, hF4.t32⟩
  have HF9 := Lib.hid hF4.cfg
  have HM4 := Lib.hid hm4
  have HGE : Hid (w8.heap.size ≤ p2 ∧ w8.heap.size ≤ p3 ∧ w8.heap.size ≤ p4 ∧ p1 < w8.heap.size) := ⟨hp2, hp3, hp4, HI8.out.lt⟩
  have H8 : Hid (Below w8.heap.size w8 w9) := hb9
  clear hsame hall hbox e2 e3 e4 hp2 hp3 hp4 hD2 hD3 hD4 hn2 hn3 hn4 hm4 hF4 hb9 HI8
  -- region 7, 8
  have f1 := mf1 p2
  have g0 := mf0 p3
  obtain ⟨ZT, hZT⟩ : ∃ T, Hid (T = (zeros32.map vb).toArray) := ⟨_, rfl⟩
  rw [← hZT.out] at HZT
  have HZC : Hid (ZT.size = 32 ∧ ZT.all (·.oneCell') = true) := by rw [hZT.out]; exact tag_cells _ rfl
  go_upto_region 8 with (first | ((with_reducible refine wpList_value (o := ⟨some 30, .build _ _, _, _, _, _⟩) (by with_unfolding_all rfl) (HZT.out _ _ _ _ _ _) ?_)) | ((with_reducible refine wpList_storeM (o := ⟨none, .store _ (.tmp 31) (.tmp 30), _, _, _, _⟩) (C := cM M1) tagRow.info (.tmp 31) (.tmp 30) (by with_unfolding_all rfl) (by with_unfolding_all rfl) (by with_unfolding_all rfl) (by with_unfolding_all rfl) (by with_unfolding_all rfl) HZC.out.1 H2.out.blk (by rw [H2.out.size]; decide) HZC.out.2 ?_); intro wa hbwa hSwa; have HBwa := Lib.hid hbwa; have HSwa := Lib.hid hSwa; clear hbwa hSwa))
  obtain ⟨MA, hMA⟩ : ∃ M : ManV, Hid (M = { M1 with prev := zeros32 }) := ⟨_, rfl⟩
  have K2 : Hid (InM wa p2 MA) := by
    rw [Hid, hMA.out]
    refine ⟨HBwa.out.trans ?_, rfl, H2.out.t32⟩
    rw [hZT.out, show splA (cM M1) 1 _ = cM { M1 with prev := zeros32 } from spl_prev H2.out.p32 rfl]
  have K1 := Lib.hid (H1.out.off HSwa.out (by have := HGE.out; omega))
  have K3 := Lib.hid (H3.out.off HSwa.out (by have := HNE.out.1; omega))
  have K4 := Lib.hid (H4.out.off HSwa.out (by have := HNE.out.2.1; omega))
  have KF := Lib.hid (HF9.out.offM HSwa.out H2.out.blk)
  have KB : Hid (Below w8.heap.size w8 wa) := H8.out.trans (HSwa.out.below H8.out.size (fun k hk => by have := HGE.out; omega))
  have u0 := K3.out.ver
  have z0 : wa.frozen? ⟨p3, 0, none⟩ = false := by simp [World.frozen?, K3.out.blk]
  clear H1 H2 H3 H4 H8 HF9 HBwa HSwa f1
  go_upto_region 9 with fail
  obtain ⟨wb, hwb⟩ : ∃ x, x = wa.setCell ⟨p3, 0, none⟩ (.int .i64 1) := ⟨_, rfl⟩
  rw [← hwb]
  obtain ⟨MB, hMB⟩ : ∃ M : ManV, Hid (M = { M1 with ver := j1 }) := ⟨_, rfl⟩
  have hsb : Save (· ≠ p3) wa wb := by rw [hwb]; exact Save.set
  have L3 : Hid (InM wb p3 MB) := by rw [Hid, hwb, hMB.out]; exact K3.out.setVer j1
  have L1 := Lib.hid (K1.out.off hsb (by have := HGE.out; omega))
  have L2 := Lib.hid (K2.out.off hsb (by have := HNE.out.1; omega))
  have L4 := Lib.hid (K4.out.off hsb (by have := HNE.out.2.2; omega))
  have LF := Lib.hid (KF.out.offM hsb K3.out.blk)
  have LB : Hid (Below w8.heap.size w8 wb) := KB.out.trans (hsb.below KB.out.size (fun k hk => by have := HGE.out; omega))
  clear hwb hsb u0 z0 g0 K1 K2 K3 K4 KF KB
  -- region 9
  have h4c : S4.cfg.cfg = cfg14 := by rw [show S4.cfg.cfg = S4.man.cfg from rfl, HM4.out]; rfl
  have hws4 : S4.cfg.ws = [win14] := congrArg Cfg.wins h4c
  obtain ⟨kw, ow, hka, hkB, hkb, hkz, hku, hkf⟩ := LF.out.win1 hws4 j2
  have hix := (LF.out.win).index etW 0 (by rw [hws4]; decide)
  have d0 := L4.out.d0
  rw [hka, hws4] at hix d0
  have hix' : ∀ w, (Instr.indexAt 22 (.slice (some ⟨kw, ow, none⟩) 1 S4.cfg.wc) (.int .i64 0)).run Tryz.prog w = .ok (.pointer (some ⟨kw, ow, none⟩)) w := fun w => by have := hix w; simpa [ad] using this
  have d0' : wb.cell? ⟨p4, 34, none⟩ = some (.slice (some ⟨kw, ow, none⟩) 1 S4.cfg.wc) := d0
  have f3 := mf3 p4
  clear hix d0
  go_upto_region 10 with fail
  obtain ⟨wc, hwc⟩ : ∃ x, x = wb.setCell ⟨kw, ow + 1, none⟩ (.int .i64 j2.1) := ⟨_, rfl⟩
  rw [show wb.setCell ⟨kw, ow + 1, none⟩ (.int .i64 2) = wc from hwc.symm]
  rw [← hwc] at hkf
  have hsc : Save (· ≠ kw) wb wc := by rw [hwc]; exact Save.set
  have hpw : ∀ {g : Nat} {M : ManV}, InM wb g M → g ≠ kw := fun {g M} h => by
    rintro rfl
    obtain ⟨cs, hc⟩ := hkb
    rw [h.blk] at hc
    injection hc with hc; injection hc with _ hc; exact absurd hc neMW
  obtain ⟨MC, hMC⟩ : ∃ M : ManV, Hid (M = { S4 with cfg := { S4.cfg with ws := [⟨win14.len, j2⟩] } }) := ⟨_, rfl⟩
  have M1' := Lib.hid (L1.out.off hsc (hpw L1.out))
  have M2' := Lib.hid (L2.out.off hsc (hpw L2.out))
  have M3' := Lib.hid (L3.out.off hsc (hpw L3.out))
  have M4' : Hid (InM wc p4 MC) := by
    have h9 := L4.out.off hsc (hpw L4.out)
    rw [Hid, hMC.out]
    refine ⟨h9.blk.trans ?_, h9.p32, h9.t32⟩
    have : cM S4 = cM { S4 with cfg := { S4.cfg with ws := [⟨win14.len, j2⟩] } } := by
      unfold cM ManV.cs cCfg
      rw [hws4]; rfl
    rw [this]
  have MF : Hid (FreshV w8.heap.size wc MC.cfg) := by rw [hMC.out]; exact hkf
  have MB' : Hid (Below w8.heap.size w8 wc) := LB.out.trans (hsc.below LB.out.size (fun k hk => by omega))
  have HMC : Hid (MC.man = manC) := by
    rw [Hid, hMC.out]
    have h1 : S4.man.cfg.parts = S4.cfg.ps.map PtV.pt := rfl
    have h2 : S4.man.cfg.chans = S4.cfg.cs := rfl
    show (⟨S4.man.ver, S4.man.prev, S4.man.trial, ⟨[⟨win14.len, j2⟩], S4.cfg.ps.map PtV.pt, S4.cfg.cs⟩, S4.man.tag⟩ : Man) = manC
    rw [← h1, ← h2, HM4.out]; rfl
  clear hwc hsc hpw hka hkB hkb hkz hku hkf hix' d0' f3 h4c hws4 L1 L2 L3 L4 LF LB HM4
  -- region 10
  obtain ⟨wd, hwd⟩ : ∃ wk, wk = wc.alloc (.cells #[.int .u8 107, .int .u8 101, .int .u8 121] 5 (3, 4)) := ⟨_, rfl⟩
  have bk : Below wc.heap.size wc wd := by rw [hwd]; exact (Below.refl _ _).alloc (Nat.le_refl _) _
  have HKR : Hid (Row wd (some ⟨wc.heap.size, 0, none⟩) keyS 3) := by rw [Hid, hwd]; exact row_blk keyS (World.alloc_heap_new wc _) rfl (by decide)
  have HS5 := Lib.hid (mshown_calls wd)
  have HBD := Lib.hid bk
  clear bk
  go_wp2_with fail
  rw [← hwd]
  clear hwd
  refine (HS5.out).mono ?_
  rintro e we ⟨S5, rfl, hm5, hF5, hbe⟩
  obtain ⟨C5, hC5⟩ : ∃ C, Hid (C = cM S5) := ⟨_, rfl⟩
  have hss : SmallV S5.cfg := by
    have h1 : S5.cfg.cfg = cfg14 := by rw [show S5.cfg.cfg = S5.man.cfg from rfl, hm5]; rfl
    exact small_can (by rw [canV_cfg, h1]; kernel_rfl)
  have hk := mcheck_calls we _ keyS 3 (HKR.out.stay hbe) (by decide) S5 hF5.at hss none [] 0 (Cit.Own.nil 5 0 we).isRow
  rw [← hC5.out, hm5, awk_e] at hk
  rw [← hC5.out]
  have HCK := Lib.hid hk
  have HBE := Lib.hid (HBD.out.trans (hbe.mono HBD.out.size))
  clear hk hm5 hF5 hbe hss HS5 HBD
  go_wp2_with fail
  refine (HCK.out).mono ?_
  rintro e wf ⟨U, rfl, _, hUF, hbf⟩
  obtain ⟨CU, hCU⟩ : ∃ C, Hid (C = cM U) := ⟨_, rfl⟩
  have HCU : Hid (CU.size = 69 ∧ CU.all (·.oneCell') = true) := by rw [hCU.out]; exact ⟨cM_size hUF.p32 hUF.t32, cM_one _⟩
  rw [← hCU.out]
  have HBF := Lib.hid (HBE.out.trans (hbf.mono HBE.out.size))
  have HNW := Lib.hid (heap_alloc_new wf (.cells Z 55))
  clear hUF hbf HCK HBE
  go_upto_region 11 with (first | ((with_reducible refine wpList_value (o := ⟨some 5, .alloc _, _, _, _, _⟩) (by with_unfolding_all rfl) (HAM.out _ _ _ _ _ _) ?_)) | ((with_reducible refine wpList_storeB (o := ⟨none, .store _ (.tmp 5) (.tmp 43), _, _, _, _⟩) rowM (.tmp 5) (.tmp 43) (by with_unfolding_all rfl) (by with_unfolding_all rfl) (by with_unfolding_all rfl) (by with_unfolding_all rfl) (by with_unfolding_all rfl) HNW.out HZS.out HCU.out.1 HCU.out.2 ?_); intro wg hbwg hSwg; have HBwg := Lib.hid hbwg; have HSwg := Lib.hid hSwg; clear hbwg hSwg))
  have HBG : Hid (Below wc.heap.size wc wg) := by
    have h1 : Below wf.heap.size wf (wf.alloc (.cells Z 55)) := (Below.refl _ _).alloc (Nat.le_refl _) _
    exact HBF.out.trans ((h1.trans (HSwg.out.below (by simp) (fun k hk => by omega))).mono HBF.out.size)
  clear HBwg HSwg HNW HBF
  -- region 11
  have HS7 := Lib.hid (mshown_calls wg)
  go_wp2_with fail
  refine (HS7.out).mono ?_
  rintro e wh ⟨S7, rfl, hm7, hF7, hbh⟩
  obtain ⟨C7, hC7⟩ : ∃ C, Hid (C = cM S7) := ⟨_, rfl⟩
  have HF7 := Lib.hid hF7
  have HM7 := Lib.hid hm7
  have HC7 : Hid (C7.size = 69 ∧ C7.all (·.oneCell') = true) := by rw [hC7.out]; exact ⟨cM_size hF7.p32 hF7.t32, cM_one _⟩
  rw [← hC7.out]
  have HBH := Lib.hid (HBG.out.trans (hbh.mono HBG.out.size))
  have HS8 := Lib.hid (mshown_calls wh)
  clear hm7 hF7 hbh HS7 HBG
  go_wp2_with fail
  refine (HS8.out).mono ?_
  rintro e wi ⟨S8, rfl, hm8, hF8, hbi⟩
  obtain ⟨C8, hC8⟩ : ∃ C, Hid (C = cM S8) := ⟨_, rfl⟩
  have HF7i : Hid (FreshV wg.heap.size wi S7.cfg) := HF7.out.cfg.stay hbi
  have HF8 := Lib.hid hF8
  have HM8 := Lib.hid hm8
  have HC8 : Hid (C8.size = 69 ∧ C8.all (·.oneCell') = true) := by rw [hC8.out]; exact ⟨cM_size hF8.p32 hF8.t32, cM_one _⟩
  rw [← hC8.out]
  have HBI := Lib.hid (HBH.out.trans (hbi.mono HBH.out.size))
  have HN7 : Hid (((wi.alloc (.cells Z 55)).alloc (.cells Z 55)).heap[wi.heap.size]? = some (.cells Z 55 (0, 0))) := (Below.heap_alloc _ _ _ (by simp)).trans (heap_alloc_new _ _)
  have HN8 : Hid (((wi.alloc (.cells Z 55)).alloc (.cells Z 55)).heap[wi.heap.size + 1]? = some (.cells Z 55 (0, 0))) := by
    have := heap_alloc_new (wi.alloc (.cells Z 55)) (.cells Z 55); rw [Hid]; simpa using this
  have HIS : Hid (((wi.alloc (.cells Z 55)).alloc (.cells Z 55)).heap.size = wi.heap.size + 2) := by simp [Hid]
  have HIB : Hid (Below wi.heap.size wi ((wi.alloc (.cells Z 55)).alloc (.cells Z 55))) := ((Below.refl _ _).alloc (Nat.le_refl _) _).alloc (by simp) _
  have HN9 : Hid (∀ wj, Save (· ≠ wi.heap.size) ((wi.alloc (.cells Z 55)).alloc (.cells Z 55)) wj → wj.heap[wi.heap.size + 1]? = some (.cells Z 55 (0, 0))) := fun wj hs => (hs.block (wi.heap.size + 1) (by have := HIS.out; omega) (by show wi.heap.size + 1 ≠ wi.heap.size; omega)).trans HN8.out
  have HAM8 : Hid (∀ (ρ : Operand → Value) (d : Option Tmp) (ty : TypeId) (ps : String) (af : Array Edge), (execOp ρ { dst := d, op := Op.alloc 55, type := ty, pos := ps, after := af, guard := none }).run Tryz.prog (wi.alloc (.cells Z 55)) = .ok (.value (.pointer (some ⟨wi.heap.size + 1, 0, none⟩))) ((wi.alloc (.cells Z 55)).alloc (.cells Z 55))) := fun ρ d ty ps af => by
    have := HAM.out ρ d ty ps af (wi.alloc (.cells Z 55)); rw [World.size_alloc] at this; exact this
  clear hm8 hF8 hbi HS8 HBH
  go_upto_region 12 with (first | ((with_reducible refine wpList_value (o := ⟨some 7, .alloc _, _, _, _, _⟩) (by with_unfolding_all rfl) (HAM.out _ _ _ _ _ _) ?_)) | ((with_reducible refine wpList_value (o := ⟨some 8, .alloc _, _, _, _, _⟩) (by with_unfolding_all rfl) (HAM8.out _ _ _ _ _) ?_)) | (((with_reducible refine wpList_storeB (o := ⟨none, .store _ (.tmp 7) (.tmp 45), _, _, _, _⟩) rowM (.tmp 7) (.tmp 45) (by with_unfolding_all rfl) (by with_unfolding_all rfl) (by with_unfolding_all rfl) (by with_unfolding_all rfl) (by with_unfolding_all rfl) HN7.out HZS.out HC7.out.1 HC7.out.2 ?_); intro wj hbwj hSwj; have HBwj := Lib.hid hbwj; have HSwj := Lib.hid hSwj; clear hbwj hSwj); ((refine wpList_storeB (o := ⟨none, .store _ (.tmp 8) (.tmp 46), _, _, _, _⟩) rowM (.tmp 8) (.tmp 46) (by with_unfolding_all rfl) (by with_unfolding_all rfl) (by with_unfolding_all rfl) (by with_unfolding_all rfl) (by with_unfolding_all rfl) (HN9.out _ HSwj.out) HZS.out HC8.out.1 HC8.out.2 ?_); intro wk hbwk hSwk; have HBwk := Lib.hid hbwk; have HSwk := Lib.hid hSwk; clear hbwk hSwk)))
  obtain ⟨p7, hp7⟩ : ∃ p, p = wi.heap.size := ⟨_, rfl⟩
  have HP7 := Lib.hid hp7
  have HLT : Hid (wi.heap.size + 1 < wj.heap.size) := by have := HSwj.out.size; have := HIS.out; rw [Hid]; omega
  have K7 : Hid (InM wk p7 S7) := by
    refine ⟨?_, HF7.out.p32, HF7.out.t32⟩
    rw [hp7, ← hC7.out]
    exact (HSwk.out.block wi.heap.size (by have := HLT.out; omega) (by show wi.heap.size ≠ wi.heap.size + 1; omega)).trans HBwj.out
  have K8 : Hid (InM wk (p7 + 1) S8) := by
    refine ⟨?_, HF8.out.p32, HF8.out.t32⟩
    rw [hp7, ← hC8.out]
    exact HBwk.out
  have KB : Hid (Below wi.heap.size wi wk) := (HIB.out.trans (HSwj.out.below HIB.out.size (fun k hk => by omega))).trans (HSwk.out.below (Nat.le_trans HIB.out.size HSwj.out.size) (fun k hk => by show k ≠ wi.heap.size + 1; omega))
  rw [← hp7]
  clear HBwj HSwj HBwk HSwk HN7 HN8 HN9 HIB HIS hp7
  have f0 := mf0 p7
  have f2 := mf2 (p7 + 1)
  have u0 := K7.out.ver
  have z0 : wk.frozen? ⟨p7, 0, none⟩ = false := by simp [World.frozen?, K7.out.blk]
  go_upto_region 13 with fail
  obtain ⟨wl, hwl⟩ : ∃ x, x = wk.setCell ⟨p7, 0, none⟩ (.int .i64 0) := ⟨_, rfl⟩
  rw [← hwl]
  obtain ⟨M7, hM7⟩ : ∃ M : ManV, Hid (M = { S7 with ver := j0 }) := ⟨_, rfl⟩
  have hsl : Save (· ≠ p7) wk wl := by rw [hwl]; exact Save.set
  have N7 : Hid (InM wl p7 M7) := by rw [Hid, hwl, hM7.out]; exact K7.out.setVer j0
  have N8 := Lib.hid (K8.out.off hsl (by omega))
  have NB : Hid (Below wi.heap.size wi wl) := KB.out.trans (hsl.below KB.out.size (fun k hk => by have := HP7.out; omega))
  have u1 := N8.out.trial
  have z1 : wl.frozen? ⟨p7 + 1, 33, none⟩ = false := by simp [World.frozen?, N8.out.blk]
  clear hwl hsl u0 z0 K7 K8 KB
  go_upto_region 14 with fail
  obtain ⟨wm, hwm⟩ : ∃ x, x = wl.setCell ⟨p7 + 1, 33, none⟩ (.int .i64 9) := ⟨_, rfl⟩
  rw [← hwm]
  obtain ⟨M8, hM8⟩ : ∃ M : ManV, Hid (M = { S8 with trial := j9 }) := ⟨_, rfl⟩
  have hsm : Save (· ≠ p7 + 1) wl wm := by rw [hwm]; exact Save.set
  have R7 := Lib.hid (N7.out.off hsm (by omega))
  have R8 : Hid (InM wm (p7 + 1) M8) := by rw [Hid, hwm, hM8.out]; exact N8.out.setTrial j9
  have RB : Hid (Below wi.heap.size wi wm) := NB.out.trans (hsm.below NB.out.size (fun k hk => by have := HP7.out; omega))
  clear hwm hsm u1 z1 f0 f2 N7 N8 NB
  have hcm : Below wc.heap.size wc wm := HBI.out.trans (RB.out.mono HBI.out.size)
  have h8m : Below w8.heap.size w8 wm := MB'.out.trans (hcm.mono MB'.out.size)
  have R1 := Lib.hid (M1'.out.keep hcm)
  have R2 := Lib.hid (M2'.out.keep hcm)
  have R3 := Lib.hid (M3'.out.keep hcm)
  have R4 := Lib.hid (M4'.out.keep hcm)
  have A1 : Hid (M1.At wm) := HA8.out.stay h8m
  have A2 : Hid (MA.At wm) := by rw [hMA.out]; exact ⟨rfl, A1.out.t32, A1.out.cfg⟩
  have A3 : Hid (MB.At wm) := by rw [hMB.out]; exact ⟨A1.out.p32, A1.out.t32, A1.out.cfg⟩
  have A4 : Hid (MC.At wm) := ⟨R4.out.p32, R4.out.t32, MF.out.at.stay hcm⟩
  have A7 : Hid (M7.At wm) := by rw [hM7.out]; exact ⟨HF7.out.p32, HF7.out.t32, HF7i.out.at.stay RB.out⟩
  have A8 : Hid (M8.At wm) := by rw [hM8.out]; exact ⟨HF8.out.p32, HF8.out.t32, HF8.out.cfg.at.stay RB.out⟩
  have EA : MA.man = manA := by rw [hMA.out]; show ({ M1.man with prev := zeros32 } : Man) = manA; rw [HMM.out]; rfl
  have EB : MB.man = manB := by rw [hMB.out]; show ({ M1.man with ver := j1 } : Man) = manB; rw [HMM.out]; rfl
  have E7 : M7.man = manD := by rw [hM7.out]; show ({ S7.man with ver := j0 } : Man) = manD; rw [HM7.out]; rfl
  have E8 : M8.man = manF := by rw [hM8.out]; show ({ S8.man with trial := j9 } : Man) = manF; rw [HM8.out]; rfl
  have SA : SmallV MA.cfg := by rw [hMA.out]; exact HSS.out
  have SB : SmallV MB.cfg := by rw [hMB.out]; exact HSS.out
  have SC : SmallV MC.cfg := by
    have h1 : MC.cfg.cfg = cfg14c := by rw [show MC.cfg.cfg = MC.man.cfg from rfl, HMC.out]; rfl
    exact small_can (by rw [canV_cfg, h1]; kernel_rfl)
  obtain ⟨CA, hCA⟩ : ∃ C, Hid (C = cM MA) := ⟨_, rfl⟩
  obtain ⟨CB, hCB⟩ : ∃ C, Hid (C = cM MB) := ⟨_, rfl⟩
  obtain ⟨CC, hCC⟩ : ∃ C, Hid (C = cM MC) := ⟨_, rfl⟩
  obtain ⟨C9, hC9⟩ : ∃ C, Hid (C = cM M1) := ⟨_, rfl⟩
  obtain ⟨CD, hCD⟩ : ∃ C, Hid (C = cM M7) := ⟨_, rfl⟩
  obtain ⟨CF, hCF⟩ : ∃ C, Hid (C = cM M8) := ⟨_, rfl⟩
  have T1 : Hid (∀ q : After wm, Calls Tryz.prog 70 #[.agg C9, .bool true] q.to fun e w' => e = .returned (.int .i64 0) ∧ Below q.to.heap.size q.to w') := fun q => by
    have := mtold_calls q.to M1 (A1.out.stay q.bel) HSS.out true
    rw [if_pos rfl, HMM.out, awk_m, ← hC9.out] at this; exact this
  have T2 : Hid (∀ q : After wm, Calls Tryz.prog 70 #[.agg C9, .bool false] q.to fun e w' => e = .returned (.int .i64 141) ∧ Below q.to.heap.size q.to w') := fun q => by
    have := mtold_calls q.to M1 (A1.out.stay q.bel) HSS.out false
    rw [if_neg (by decide), HMM.out, awk_u, ← hC9.out] at this; exact this
  have T3 : Hid (∀ q : After wm, Calls Tryz.prog 70 #[.agg CA, .bool true] q.to fun e w' => e = .returned (.int .i64 142) ∧ Below q.to.heap.size q.to w') := fun q => by
    have := mtold_calls q.to MA (A2.out.stay q.bel) SA true
    rw [if_pos rfl, EA, awk_a, ← hCA.out] at this; exact this
  have T4 : Hid (∀ q : After wm, Calls Tryz.prog 70 #[.agg CB, .bool true] q.to fun e w' => e = .returned (.int .i64 143) ∧ Below q.to.heap.size q.to w') := fun q => by
    have := mtold_calls q.to MB (A3.out.stay q.bel) SB true
    rw [if_pos rfl, EB, awk_b, ← hCB.out] at this; exact this
  have T5 : Hid (∀ q : After wm, Calls Tryz.prog 70 #[.agg CC, .bool true] q.to fun e w' => e = .returned (.int .i64 90) ∧ Below q.to.heap.size q.to w') := fun q => by
    have := mtold_calls q.to MC (A4.out.stay q.bel) SC true
    rw [if_pos rfl, HMC.out, awk_c, ← hCC.out] at this; exact this
  have T7 : Hid (∀ q : After wm, Calls Tryz.prog 17 #[.agg CD] q.to fun e w' => e = .returned (.bool false) ∧ Below q.to.heap.size q.to w') := fun q => by
    have := mcan_calls q.to M7 (A7.out.stay q.bel)
    rw [canM_man, E7, awk_d, ← hCD.out] at this; exact this
  have T8 : Hid (∀ q : After wm, Calls Tryz.prog 17 #[.agg CF] q.to fun e w' => e = .returned (.bool false) ∧ Below q.to.heap.size q.to w') := fun q => by
    have := mcan_calls q.to M8 (A8.out.stay q.bel)
    rw [canM_man, E8, awk_f, ← hCF.out] at this; exact this
  have W1 : ∀ q : After wm, (Instr.loadAt 55 (.pointer (some ⟨p1, 0, none⟩))).run Tryz.prog q.to = .ok (.agg C9) q.to := fun q => by rw [hC9.out]; exact (R1.out.keep q.bel).whole
  have W2 : ∀ q : After wm, (Instr.loadAt 55 (.pointer (some ⟨p2, 0, none⟩))).run Tryz.prog q.to = .ok (.agg CA) q.to := fun q => by rw [hCA.out]; exact (R2.out.keep q.bel).whole
  have W3 : ∀ q : After wm, (Instr.loadAt 55 (.pointer (some ⟨p3, 0, none⟩))).run Tryz.prog q.to = .ok (.agg CB) q.to := fun q => by rw [hCB.out]; exact (R3.out.keep q.bel).whole
  have W4 : ∀ q : After wm, (Instr.loadAt 55 (.pointer (some ⟨p4, 0, none⟩))).run Tryz.prog q.to = .ok (.agg CC) q.to := fun q => by rw [hCC.out]; exact (R4.out.keep q.bel).whole
  have W7 : ∀ q : After wm, (Instr.loadAt 55 (.pointer (some ⟨p7, 0, none⟩))).run Tryz.prog q.to = .ok (.agg CD) q.to := fun q => by rw [hCD.out]; exact (R7.out.keep q.bel).whole
  have W8 : ∀ q : After wm, (Instr.loadAt 55 (.pointer (some ⟨p7 + 1, 0, none⟩))).run Tryz.prog q.to = .ok (.agg CF) q.to := fun q => by rw [hCF.out]; exact (R8.out.keep q.bel).whole
  have HBM : Hid (Below w.heap.size w wm) := HB8.out.trans (h8m.mono HB8.out.size)
  clear hcm h8m EA EB E7 E8 SA SB SC
  go_upto_region 14 with fail
  refine wp_region_vals0 (awr p1 p2 p3 p4 p7 C9 CA CB CC CD CF) (awro p1 p2 p3 p4 p7 C9 CA CB CC CD CF) [1, 2, 3, 4, 6, 7, 8] (by kernel_rfl) ⟨rfl, rfl, rfl, rfl, rfl, rfl, rfl, trivial⟩ ?_ ?_
  · refine opsAll_cons ?_ (opsAll_cons ?_ (opsAll_cons ?_ (opsAll_cons ?_ (opsAll_cons ?_ (opsAll_cons ?_ (opsAll_cons ?_ (opsAll_cons ?_ (opsAll_cons ?_ (opsAll_cons ?_ (opsAll_cons ?_ (opsAll_cons ?_ (opsAll_cons ?_ (opsAll_cons ?_ (opsAll_cons ?_ (opsAll_cons ?_ (opsAll_cons ?_ (opsAll_cons ?_ (opsAll_cons ?_ (opsAll_cons ?_ (opsAll_cons ?_ (opsAll_cons ?_ (opsAll_cons ?_ (opsAll_cons ?_ (opsAll_cons ?_ (opsAll_cons ?_ (opsAll_cons ?_ (opsAll_cons ?_ (opsAll_cons ?_ (opsAll_cons ?_ (opsAll_cons ?_ (opsAll_cons ?_ (opsAll_cons ?_ (opsAll_cons ?_ (opsAll_cons ?_ (opsAll_cons ?_ (opsAll_cons ?_ (opsAll_cons ?_ opsAll_nil)))))))))))))))))))))))))))))))))))))
    all_goals intro a hk
    · -- slot 49
      exact .inl ⟨wanted_free rfl, q_load (.tmp 1) rfl (show a.eval (.tmp 1) = (.pointer (some ⟨p1, 0, none⟩)) from hk.old 1 (by kernel_rfl) (by kernel_rfl)) (v := (.agg C9)) (fun q => W1 q) rfl⟩
    · -- slot 50
      exact .inl ⟨wanted_free rfl, q_call rfl rfl #[(.agg C9), (.bool true)] (fun w => by kernel_rfl) (by simp only [List.map_toArray, List.map_cons, List.map_nil, show ∀ v, a.eval (.const v) = v from fun _ => rfl, (show a.eval (.tmp 49) = (.agg C9) from hk.slot 49 (by kernel_rfl))]) (v := (.int .i64 0)) (fun q => T1.out q) rfl⟩
    · -- slot 51
      exact .inl ⟨wanted_free rfl, q_bin rfl (show a.eval (.tmp 50) = (.int .i64 0) from hk.slot 50 (by kernel_rfl)) rfl (v := .bool (((0 : Int) == 0))) (fun w => by kernel_rfl) (congrArg Value.bool (rfl))⟩
    · -- slot 52
      exact .inl ⟨wanted_free rfl, q_move (.tmp 51) rfl (show a.eval (.tmp 51) = (.bool true) from hk.slot 51 (by kernel_rfl))⟩
    · -- slot 53
      exact .inl ⟨wanted_by 52 true (by kernel_rfl) (show a.eval (.tmp 52) = (.bool true) from hk.slot 52 (by kernel_rfl)), q_load (.tmp 1) rfl (show a.eval (.tmp 1) = (.pointer (some ⟨p1, 0, none⟩)) from hk.old 1 (by kernel_rfl) (by kernel_rfl)) (v := (.agg C9)) (fun q => W1 q) rfl⟩
    · -- slot 54
      exact .inl ⟨wanted_by 52 true (by kernel_rfl) (show a.eval (.tmp 52) = (.bool true) from hk.slot 52 (by kernel_rfl)), q_call rfl rfl #[(.agg C9), (.bool false)] (fun w => by kernel_rfl) (by simp only [List.map_toArray, List.map_cons, List.map_nil, show ∀ v, a.eval (.const v) = v from fun _ => rfl, (show a.eval (.tmp 53) = (.agg C9) from hk.slot 53 (by kernel_rfl))]) (v := (.int .i64 141)) (fun q => T2.out q) rfl⟩
    · -- slot 55
      exact .inl ⟨wanted_by 52 true (by kernel_rfl) (show a.eval (.tmp 52) = (.bool true) from hk.slot 52 (by kernel_rfl)), q_bin rfl (show a.eval (.tmp 54) = (.int .i64 141) from hk.slot 54 (by kernel_rfl)) rfl (v := .bool (((141 : Int) == 141))) (fun w => by kernel_rfl) (congrArg Value.bool (rfl))⟩
    · -- slot 56
      exact .inl ⟨wanted_free rfl, q_pick rfl true (show a.eval (.tmp 52) = (.bool true) from hk.slot 52 (by kernel_rfl)) (show a.eval (.tmp 55) = (.bool true) from hk.slot 55 (by kernel_rfl))⟩
    · -- slot 57
      exact .inl ⟨wanted_free rfl, q_move (.tmp 56) rfl (show a.eval (.tmp 56) = (.bool (true || false)) from hk.slot 56 (by kernel_rfl))⟩
    · -- slot 58
      exact .inl ⟨wanted_by 57 true (by kernel_rfl) (show a.eval (.tmp 57) = (.bool (true || false)) from hk.slot 57 (by kernel_rfl)), q_load (.tmp 2) rfl (show a.eval (.tmp 2) = (.pointer (some ⟨p2, 0, none⟩)) from hk.old 2 (by kernel_rfl) (by kernel_rfl)) (v := (.agg CA)) (fun q => W2 q) rfl⟩
    · -- slot 59
      exact .inl ⟨wanted_by 57 true (by kernel_rfl) (show a.eval (.tmp 57) = (.bool (true || false)) from hk.slot 57 (by kernel_rfl)), q_call rfl rfl #[(.agg CA), (.bool true)] (fun w => by kernel_rfl) (by simp only [List.map_toArray, List.map_cons, List.map_nil, show ∀ v, a.eval (.const v) = v from fun _ => rfl, (show a.eval (.tmp 58) = (.agg CA) from hk.slot 58 (by kernel_rfl))]) (v := (.int .i64 142)) (fun q => T3.out q) rfl⟩
    · -- slot 60
      exact .inl ⟨wanted_by 57 true (by kernel_rfl) (show a.eval (.tmp 57) = (.bool (true || false)) from hk.slot 57 (by kernel_rfl)), q_bin rfl (show a.eval (.tmp 59) = (.int .i64 142) from hk.slot 59 (by kernel_rfl)) rfl (v := .bool (((142 : Int) == 142))) (fun w => by kernel_rfl) (congrArg Value.bool (rfl))⟩
    · -- slot 61
      exact .inl ⟨wanted_free rfl, q_pick rfl true (show a.eval (.tmp 57) = (.bool (true || false)) from hk.slot 57 (by kernel_rfl)) (show a.eval (.tmp 60) = (.bool true) from hk.slot 60 (by kernel_rfl))⟩
    · -- slot 62
      exact .inl ⟨wanted_free rfl, q_move (.tmp 61) rfl (show a.eval (.tmp 61) = (.bool ((true || false) || false)) from hk.slot 61 (by kernel_rfl))⟩
    · -- slot 63
      exact .inl ⟨wanted_by 62 true (by kernel_rfl) (show a.eval (.tmp 62) = (.bool ((true || false) || false)) from hk.slot 62 (by kernel_rfl)), q_load (.tmp 3) rfl (show a.eval (.tmp 3) = (.pointer (some ⟨p3, 0, none⟩)) from hk.old 3 (by kernel_rfl) (by kernel_rfl)) (v := (.agg CB)) (fun q => W3 q) rfl⟩
    · -- slot 64
      exact .inl ⟨wanted_by 62 true (by kernel_rfl) (show a.eval (.tmp 62) = (.bool ((true || false) || false)) from hk.slot 62 (by kernel_rfl)), q_call rfl rfl #[(.agg CB), (.bool true)] (fun w => by kernel_rfl) (by simp only [List.map_toArray, List.map_cons, List.map_nil, show ∀ v, a.eval (.const v) = v from fun _ => rfl, (show a.eval (.tmp 63) = (.agg CB) from hk.slot 63 (by kernel_rfl))]) (v := (.int .i64 143)) (fun q => T4.out q) rfl⟩
    · -- slot 65
      exact .inl ⟨wanted_by 62 true (by kernel_rfl) (show a.eval (.tmp 62) = (.bool ((true || false) || false)) from hk.slot 62 (by kernel_rfl)), q_bin rfl (show a.eval (.tmp 64) = (.int .i64 143) from hk.slot 64 (by kernel_rfl)) rfl (v := .bool (((143 : Int) == 143))) (fun w => by kernel_rfl) (congrArg Value.bool (rfl))⟩
    · -- slot 66
      exact .inl ⟨wanted_free rfl, q_pick rfl true (show a.eval (.tmp 62) = (.bool ((true || false) || false)) from hk.slot 62 (by kernel_rfl)) (show a.eval (.tmp 65) = (.bool true) from hk.slot 65 (by kernel_rfl))⟩
    · -- slot 67
      exact .inl ⟨wanted_free rfl, q_move (.tmp 66) rfl (show a.eval (.tmp 66) = (.bool (((true || false) || false) || false)) from hk.slot 66 (by kernel_rfl))⟩
    · -- slot 68
      exact .inl ⟨wanted_by 67 true (by kernel_rfl) (show a.eval (.tmp 67) = (.bool (((true || false) || false) || false)) from hk.slot 67 (by kernel_rfl)), q_load (.tmp 4) rfl (show a.eval (.tmp 4) = (.pointer (some ⟨p4, 0, none⟩)) from hk.old 4 (by kernel_rfl) (by kernel_rfl)) (v := (.agg CC)) (fun q => W4 q) rfl⟩
    · -- slot 69
      exact .inl ⟨wanted_by 67 true (by kernel_rfl) (show a.eval (.tmp 67) = (.bool (((true || false) || false) || false)) from hk.slot 67 (by kernel_rfl)), q_call rfl rfl #[(.agg CC), (.bool true)] (fun w => by kernel_rfl) (by simp only [List.map_toArray, List.map_cons, List.map_nil, show ∀ v, a.eval (.const v) = v from fun _ => rfl, (show a.eval (.tmp 68) = (.agg CC) from hk.slot 68 (by kernel_rfl))]) (v := (.int .i64 90)) (fun q => T5.out q) rfl⟩
    · -- slot 70
      exact .inl ⟨wanted_by 67 true (by kernel_rfl) (show a.eval (.tmp 67) = (.bool (((true || false) || false) || false)) from hk.slot 67 (by kernel_rfl)), q_bin rfl (show a.eval (.tmp 69) = (.int .i64 90) from hk.slot 69 (by kernel_rfl)) rfl (v := .bool (((90 : Int) == 90))) (fun w => by kernel_rfl) (congrArg Value.bool (rfl))⟩
    · -- slot 71
      exact .inl ⟨wanted_free rfl, q_pick rfl true (show a.eval (.tmp 67) = (.bool (((true || false) || false) || false)) from hk.slot 67 (by kernel_rfl)) (show a.eval (.tmp 70) = (.bool true) from hk.slot 70 (by kernel_rfl))⟩
    · -- slot 72
      exact .inl ⟨wanted_free rfl, q_move (.tmp 71) rfl (show a.eval (.tmp 71) = (.bool ((((true || false) || false) || false) || false)) from hk.slot 71 (by kernel_rfl))⟩
    · -- slot 73
      exact .inl ⟨wanted_by 72 true (by kernel_rfl) (show a.eval (.tmp 72) = (.bool ((((true || false) || false) || false) || false)) from hk.slot 72 (by kernel_rfl)), q_move (.tmp 6) rfl (show a.eval (.tmp 6) = (.int .i64 140) from hk.old 6 (by kernel_rfl) (by kernel_rfl))⟩
    · -- slot 74
      exact .inl ⟨wanted_by 72 true (by kernel_rfl) (show a.eval (.tmp 72) = (.bool ((((true || false) || false) || false) || false)) from hk.slot 72 (by kernel_rfl)), q_bin rfl (show a.eval (.tmp 73) = (.int .i64 140) from hk.slot 73 (by kernel_rfl)) rfl (v := .bool (((140 : Int) == 140))) (fun w => by kernel_rfl) (congrArg Value.bool (rfl))⟩
    · -- slot 75
      exact .inl ⟨wanted_free rfl, q_pick rfl true (show a.eval (.tmp 72) = (.bool ((((true || false) || false) || false) || false)) from hk.slot 72 (by kernel_rfl)) (show a.eval (.tmp 74) = (.bool true) from hk.slot 74 (by kernel_rfl))⟩
    · -- slot 76
      exact .inl ⟨wanted_free rfl, q_move (.tmp 75) rfl (show a.eval (.tmp 75) = (.bool (((((true || false) || false) || false) || false) || false)) from hk.slot 75 (by kernel_rfl))⟩
    · -- slot 77
      exact .inl ⟨wanted_by 76 true (by kernel_rfl) (show a.eval (.tmp 76) = (.bool (((((true || false) || false) || false) || false) || false)) from hk.slot 76 (by kernel_rfl)), q_load (.tmp 7) rfl (show a.eval (.tmp 7) = (.pointer (some ⟨p7, 0, none⟩)) from hk.old 7 (by kernel_rfl) (by kernel_rfl)) (v := (.agg CD)) (fun q => W7 q) rfl⟩
    · -- slot 78
      exact .inl ⟨wanted_by 76 true (by kernel_rfl) (show a.eval (.tmp 76) = (.bool (((((true || false) || false) || false) || false) || false)) from hk.slot 76 (by kernel_rfl)), q_call rfl rfl #[(.agg CD)] (fun w => by kernel_rfl) (by simp only [List.map_toArray, List.map_cons, List.map_nil, (show a.eval (.tmp 77) = (.agg CD) from hk.slot 77 (by kernel_rfl))]) (v := (.bool false)) (fun q => T7.out q) rfl⟩
    · -- slot 79
      exact .inl ⟨wanted_by 76 true (by kernel_rfl) (show a.eval (.tmp 76) = (.bool (((((true || false) || false) || false) || false) || false)) from hk.slot 76 (by kernel_rfl)), q_not rfl _ (show a.eval (.tmp 78) = (.bool false) from hk.slot 78 (by kernel_rfl)) rfl⟩
    · -- slot 80
      exact .inl ⟨wanted_free rfl, q_pick rfl true (show a.eval (.tmp 76) = (.bool (((((true || false) || false) || false) || false) || false)) from hk.slot 76 (by kernel_rfl)) (show a.eval (.tmp 79) = (.bool (!false)) from hk.slot 79 (by kernel_rfl))⟩
    · -- slot 81
      exact .inl ⟨wanted_free rfl, q_move (.tmp 80) rfl (show a.eval (.tmp 80) = (.bool ((((((true || false) || false) || false) || false) || false) && (!false))) from hk.slot 80 (by kernel_rfl))⟩
    · -- slot 82
      exact .inl ⟨wanted_by 81 true (by kernel_rfl) (show a.eval (.tmp 81) = (.bool ((((((true || false) || false) || false) || false) || false) && (!false))) from hk.slot 81 (by kernel_rfl)), q_load (.tmp 8) rfl (show a.eval (.tmp 8) = (.pointer (some ⟨(p7 + 1), 0, none⟩)) from hk.old 8 (by kernel_rfl) (by kernel_rfl)) (v := (.agg CF)) (fun q => W8 q) rfl⟩
    · -- slot 83
      exact .inl ⟨wanted_by 81 true (by kernel_rfl) (show a.eval (.tmp 81) = (.bool ((((((true || false) || false) || false) || false) || false) && (!false))) from hk.slot 81 (by kernel_rfl)), q_call rfl rfl #[(.agg CF)] (fun w => by kernel_rfl) (by simp only [List.map_toArray, List.map_cons, List.map_nil, (show a.eval (.tmp 82) = (.agg CF) from hk.slot 82 (by kernel_rfl))]) (v := (.bool false)) (fun q => T8.out q) rfl⟩
    · -- slot 84
      exact .inl ⟨wanted_by 81 true (by kernel_rfl) (show a.eval (.tmp 81) = (.bool ((((((true || false) || false) || false) || false) || false) && (!false))) from hk.slot 81 (by kernel_rfl)), q_not rfl _ (show a.eval (.tmp 83) = (.bool false) from hk.slot 83 (by kernel_rfl)) rfl⟩
    · -- slot 85
      exact .inl ⟨wanted_free rfl, q_pick rfl true (show a.eval (.tmp 81) = (.bool ((((((true || false) || false) || false) || false) || false) && (!false))) from hk.slot 81 (by kernel_rfl)) (show a.eval (.tmp 84) = (.bool (!false)) from hk.slot 84 (by kernel_rfl))⟩
    · -- slot 0
      exact .inl ⟨wanted_free rfl, q_assign (.tmp 85) rfl (show a.eval (.tmp 85) = (.bool (((((((true || false) || false) || false) || false) || false) && (!false)) && (!false))) from hk.slot 85 (by kernel_rfl))⟩
  intro a ⟨wz, hbz⟩ hsame hall
  have he := act_same hsame [49, 50, 51, 52, 53, 54, 55, 56, 57, 58, 59, 60, 61, 62, 63, 64, 65, 66, 67, 68, 69, 70, 71, 72, 73, 74, 75, 76, 77, 78, 79, 80, 81, 82, 83, 84, 85, 0] (by kernel_rfl)
  simp only [List.foldl_cons, List.foldl_nil] at he
  rw [show a.eval (.tmp 0) = (.bool true) from (hall 0 (by kernel_rfl)).trans (rfl)] at he
  generalize a.eval (.tmp 49) = x49 at he
  generalize a.eval (.tmp 50) = x50 at he
  generalize a.eval (.tmp 51) = x51 at he
  generalize a.eval (.tmp 52) = x52 at he
  generalize a.eval (.tmp 53) = x53 at he
  generalize a.eval (.tmp 54) = x54 at he
  generalize a.eval (.tmp 55) = x55 at he
  generalize a.eval (.tmp 56) = x56 at he
  generalize a.eval (.tmp 57) = x57 at he
  generalize a.eval (.tmp 58) = x58 at he
  generalize a.eval (.tmp 59) = x59 at he
  generalize a.eval (.tmp 60) = x60 at he
  generalize a.eval (.tmp 61) = x61 at he
  generalize a.eval (.tmp 62) = x62 at he
  generalize a.eval (.tmp 63) = x63 at he
  generalize a.eval (.tmp 64) = x64 at he
  generalize a.eval (.tmp 65) = x65 at he
  generalize a.eval (.tmp 66) = x66 at he
  generalize a.eval (.tmp 67) = x67 at he
  generalize a.eval (.tmp 68) = x68 at he
  generalize a.eval (.tmp 69) = x69 at he
  generalize a.eval (.tmp 70) = x70 at he
  generalize a.eval (.tmp 71) = x71 at he
  generalize a.eval (.tmp 72) = x72 at he
  generalize a.eval (.tmp 73) = x73 at he
  generalize a.eval (.tmp 74) = x74 at he
  generalize a.eval (.tmp 75) = x75 at he
  generalize a.eval (.tmp 76) = x76 at he
  generalize a.eval (.tmp 77) = x77 at he
  generalize a.eval (.tmp 78) = x78 at he
  generalize a.eval (.tmp 79) = x79 at he
  generalize a.eval (.tmp 80) = x80 at he
  generalize a.eval (.tmp 81) = x81 at he
  generalize a.eval (.tmp 82) = x82 at he
  generalize a.eval (.tmp 83) = x83 at he
  generalize a.eval (.tmp 84) = x84 at he
  generalize a.eval (.tmp 85) = x85 at he
  simp only [put_lit] at he
  dsimp only [List.set_cons_zero, List.set_cons_succ] at he
  subst he
  clear hsame hall
  go_wp2_with fail
  go_ret
  exact ⟨rfl, HBM.out.trans (hbz.mono HBM.out.size)⟩
end Go.Proofs.YtlholdllibghbaaGreat
