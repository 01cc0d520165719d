/- citadellaw14.copied, shown, told: walked. -/
import Derived.Test.YtlholdllibghbaaGreatManChk
import Derived.Test.YtlholdllibghbaaGreatG14
import Derived.Test.YtlholdllibghbaaGreatG15
import Derived.Lib.SlBytesConst
namespace Go.Proofs.YtlholdllibghbaaGreat
open Go Go.RowKit Go.Cit

set_option maxRecDepth 100000 in
set_option maxHeartbeats 4000000 in
theorem mcopied_calls (w : World) (M : ManV) (h : M.At w) (hs : SmallV M.cfg) : Calls Tryz.prog 14 #[.agg (cM M)] w fun e w' => ∃ S : ManV, e = .returned (.agg (cM S)) ∧ S.man = M.man ∧ FreshM w.heap.size w' S ∧ Below w.heap.size w w' := by
  have HAM := Lib.hid (fun ρ d ty ps af w => alloc_man ρ d ty ps (af := af) w)
  obtain ⟨Z, hZ⟩ : ∃ Z, Hid (Z = cM zM) := ⟨_, rfl⟩
  rw [← hZ.out] at HAM
  obtain ⟨C, hC⟩ : ∃ C, Hid (C = cM M) := ⟨_, rfl⟩
  obtain ⟨w0, hw0⟩ : ∃ w0, w0 = (w.alloc (.cells C 55)).alloc (.cells Z 55) := ⟨_, rfl⟩
  have B1 : Below (w.alloc (.cells C 55)).heap.size (w.alloc (.cells C 55)) w0 := by rw [hw0]; exact (Below.refl _ _).alloc (Nat.le_refl _) _
  have B0 : Below w.heap.size w w0 := ((Below.refl _ w).alloc (Nat.le_refl _) _).trans (B1.mono (by simp))
  have hI : InM w0 w.heap.size M := by rw [hC.out] at B1; exact (InM.new w h).keep B1
  obtain ⟨g, hg⟩ : ∃ g, g = w.heap.size + 1 := ⟨_, rfl⟩
  have hgb : w0.heap[g]? = some (.cells Z 55 (0, 0)) := by
    rw [hw0, hg]; have := heap_alloc_new (w.alloc (.cells C 55)) (.cells Z 55); simpa using this
  have HGW : Hid (g = w.heap.size + 1) := hg
  have HG := Lib.hid hgb
  have HGS : Hid (w0.heap.size = w.heap.size + 2) := by rw [Hid, hw0]; simp
  have d0 := hI.d0
  have d1 := hI.d1
  have d2 := hI.d2
  have HI0 := Lib.hid hI
  have HB0 := Lib.hid B0
  have HP32 := Lib.hid h.p32
  have HT32 := Lib.hid h.t32
  have HZS : Hid (Z.size = 69) := by rw [Hid, hZ.out]; rfl
  have HCC := Lib.hid (copied_calls w0 M.cfg (h.cfg.stay B0) hs)
  have f3 := mf3 w.heap.size
  rw [← hC.out]
  clear hgb hI h B0 B1 hs
  go_enter Tryz.func14, Tryz.ntmps14
  go_upto_region 1 with ((with_reducible refine wpList_value (o := ⟨some 2, .alloc _, _, _, _, _⟩) (by with_unfolding_all rfl) (HAM.out _ _ _ _ _ _) ?_))
  rw [← hw0, show (w.alloc (.cells C 55)).heap.size = g by rw [hg]; simp]
  clear hw0 hg
  go_wp2_with fail
  refine (HCC.out).mono ?_
  rintro e w1 ⟨U, rfl, hU, hO, hb1⟩
  have HI1 := Lib.hid (HI0.out.keep hb1)
  have HG1 := Lib.hid (blk_stay HG.out hb1)
  have HB1 := Lib.hid (HB0.out.trans (hb1.mono HB0.out.size))
  have HF1 := Lib.hid hO.fresh
  have HU := Lib.hid hU
  have HCU : Hid ((#[.slice U.wa U.ws.length U.wc, .slice U.pa U.ps.length U.pc, .slice U.ca U.cs.length U.cc] : Array Value).all (·.oneCell') = true) := cU_one U
  clear d0 d1 d2 HCC hU hO hb1 HG HI0 HB0
  go_upto_region 2 with ((with_reducible refine wpList_storeM (o := ⟨none, .store _ (.tmp 6) (.tmp 5), _, _, _, _⟩) (C := cM M) rowC.info (.tmp 6) (.tmp 5) (by with_unfolding_all rfl) (by with_unfolding_all rfl) (by with_unfolding_all rfl) (by with_unfolding_all rfl) (by with_unfolding_all rfl) rfl HI1.out.blk (by rw [HI1.out.size]; decide) HCU.out ?_); intro w2 hbw2 hSw2; have HBw2 := Lib.hid hbw2; have HSw2 := Lib.hid hSw2; clear hbw2 hSw2)
  obtain ⟨M2, hM2⟩ : ∃ M2 : ManV, Hid (M2 = { M with cfg := U }) := ⟨_, rfl⟩
  have HI2 : Hid (InM w2 w.heap.size M2) := by
    rw [Hid, hM2.out]
    refine ⟨HBw2.out.trans ?_, HP32.out, HT32.out⟩
    rw [show splA (cM M) 34 _ = cM { M with cfg := U } from spl_cfg HP32.out U]
  have HMM : Hid (M2.man = M.man) := by rw [Hid, hM2.out]; exact man_cfg HU.out
  have hg9 : g < w1.heap.size := (Array.getElem?_eq_some_iff.1 HG1.out).1
  have HG2 : Hid (w2.heap[g]? = some (.cells Z 55 (0, 0))) := (HSw2.out.block g hg9 (by have := HGW.out; omega)).trans HG1.out
  have HB2 : Hid (Below w.heap.size w w2) := HB1.out.trans (HSw2.out.below HB1.out.size (fun k hk => by omega))
  have HF2 : Hid (FreshV w0.heap.size w2 U) := HF1.out.saveB HSw2.out (fun k hk => by have := HGS.out; omega)
  obtain ⟨C2, hC2⟩ : ∃ C, Hid (C = cM M2) := ⟨_, rfl⟩
  have hw := HI2.out.whole
  rw [← hC2.out] at hw
  have HL2 := Lib.hid hw
  have HC2 : Hid (C2.size = 69 ∧ C2.all (·.oneCell') = true) := by rw [hC2.out]; exact ⟨HI2.out.size, cM_one _⟩
  clear hw hg9 HI1 HG1 HB1 HF1 HCU
  go_wp2_with (first | (with_reducible refine wpList_load_op (o := ⟨some 7, .load 55 (.tmp 1), _, _, _, _⟩) (by with_unfolding_all rfl) (by with_unfolding_all rfl) (by with_unfolding_all rfl) HL2.out ?_) | ((with_reducible refine wpList_storeB (o := ⟨none, .store _ (.tmp 2) (.tmp 7), _, _, _, _⟩) rowM (.tmp 2) (.tmp 7) (by with_unfolding_all rfl) (by with_unfolding_all rfl) (by with_unfolding_all rfl) (by with_unfolding_all rfl) (by with_unfolding_all rfl) HG2.out HZS.out HC2.out.1 HC2.out.2 ?_); intro w4 hbw4 hSw4; have HBw4 := Lib.hid hbw4; have HSw4 := Lib.hid hSw4; clear hbw4 hSw4))
  refine bodyPost_ret (resB1 rowM rfl rfl HBw4.out HC2.out.1) rfl ⟨M2, by rw [hC2.out], HMM.out, ⟨HI2.out.p32, HI2.out.t32, ?_⟩, ?_⟩
  · have := HF2.out.saveB HSw4.out (fun k hk => by have := HGW.out; have := HGS.out; omega)
    rw [hM2.out]; exact this.low (by have := HGS.out; omega)
  · exact HB2.out.trans (HSw4.out.below HB2.out.size (fun k hk => by have := HGW.out; omega))

def j0 : I64 := ⟨0, by decide⟩
def j1 : I64 := ⟨1, by decide⟩
def j2 : I64 := ⟨2, by decide⟩
def j16 : I64 := ⟨16, by decide⟩
def win14 : Win := ⟨j2, j1⟩
def cfg14 : Cfg := ⟨[win14], [⟨j1, ⟨j0, j16⟩, false, []⟩], []⟩
def keyS : List UInt8 := [107, 101, 121]
def man14 : Man := sealK keyS ⟨j1, zeros32, j1, cfg14, zeros32⟩
theorem conv_key (w : World) (C : Array Value) (n c : Nat) : (convert 40 40 (.slice (some ⟨w.heap.size, 0, none⟩) n c)).run Tryz.prog (w.alloc (.cells C 5)) = .ok (.slice (some ⟨w.heap.size, 0, none⟩) n c) (w.alloc (.cells C 5 (C.size, C.size + 1))) := Lib.run_convert_bytes_const (P := Tryz.prog) w 40 5 C n c Tryz.underlying40 Tryz.underlying5
def fullM (V : CfgV) : ManV := ⟨j1, zeros32, j1, V, zeros32⟩
theorem build_full (ρ : Operand → Value) (x : Operand) (V : CfgV) (e : ρ x = .agg #[.slice V.wa V.ws.length V.wc, .slice V.pa V.ps.length V.pc, .slice V.ca V.cs.length V.cc]) (d : Option Tmp) (ty : TypeId) (ps : String) {af} (w : World) (hc : ∀ v, ρ (.const v) = v) :
    (execOp ρ { dst := d, op := Op.build 55 #[(0, .const (.int .i64 1)), (2, .const (.int .i64 1)), (3, x)], type := ty, pos := ps, after := af, guard := none }).run Tryz.prog w = .ok (.value (.agg (cM (fullM V)))) w := by
  unfold execOp
  simp only [List.map_toArray, List.map_cons, List.map_nil, e, hc]
  kernel_rfl
set_option maxRecDepth 100000 in
set_option maxHeartbeats 4000000 in
theorem mshown_calls (w : World) : Calls Tryz.prog 69 #[] w fun e w' => ∃ S : ManV, e = .returned (.agg (cM S)) ∧ S.man = man14 ∧ FreshM w.heap.size w' S ∧ Below w.heap.size w w' := by
  have HAM := Lib.hid (fun ρ d ty ps af w => alloc_man ρ d ty ps (af := af) w)
  obtain ⟨Z, hZ⟩ : ∃ Z, Hid (Z = cM zM) := ⟨_, rfl⟩
  rw [← hZ.out] at HAM
  have HZS : Hid (Z.size = 69) := by rw [Hid, hZ.out]; rfl
  obtain ⟨w0, hw0⟩ : ∃ w0, w0 = w.alloc (.cells Z 55) := ⟨_, rfl⟩
  have B0 : Below w.heap.size w w0 := by rw [hw0]; exact (Below.refl _ w).alloc (Nat.le_refl _) _
  obtain ⟨g, hg⟩ : ∃ g, g = w.heap.size := ⟨_, rfl⟩
  have HG : Hid (w0.heap[g]? = some (.cells Z 55 (0, 0))) := by rw [Hid, hw0, hg]; exact heap_alloc_new _ _
  have HGW : Hid (g = w.heap.size) := hg
  have HB0 := Lib.hid B0
  clear B0
  go_enter Tryz.func69, Tryz.ntmps69
  go_upto_region 1 with ((with_reducible refine wpList_value (o := ⟨some 0, .alloc _, _, _, _, _⟩) (by with_unfolding_all rfl) (HAM.out _ _ _ _ _ _) ?_))
  rw [← hw0, ← hg]
  clear hw0 hg
  go_upto_region 2 with (first
    | ((with_reducible refine wpList_value (o := ⟨some 3, .buildSlice _ _ _, _, _, _, _⟩) (by with_unfolding_all rfl) (build1c etW (.tmp 2) (.agg #[.int .i64 2, .int .i64 1]) #[.int .i64 2, .int .i64 1] rfl (by with_unfolding_all rfl) (by with_unfolding_all rfl) (by with_unfolding_all rfl) (by decide) _) ?_)))
  obtain ⟨N, hN⟩ : ∃ N, N = w0.heap.size := ⟨_, rfl⟩
  rw [← hN]
  obtain ⟨wa, hwa⟩ : ∃ wa, wa = w0.alloc (.cells #[.int .i64 2, .int .i64 1] 77) := ⟨_, rfl⟩
  obtain ⟨wb, hwb⟩ : ∃ wb, wb = wa.alloc (.cells #[.int .i64 1, .int .i64 0, .int .i64 16, .bool false, .slice none 0 0] 46) := ⟨_, rfl⟩
  obtain ⟨wc, hwc⟩ : ∃ wc, wc = wb.alloc (.cells #[.slice (some ⟨N, 0, none⟩) 1 1, .slice (some ⟨N + 1, 0, none⟩) 1 1, .slice none 0 0] 26) := ⟨_, rfl⟩
  obtain ⟨wd, hwd⟩ : ∃ wd, wd = wc.alloc (.cells #[.int .u8 107, .int .u8 101, .int .u8 121] 5 (3, 4)) := ⟨_, rfl⟩
  have sa : wa.heap.size = N + 1 := by rw [hwa, hN]; simp
  have sb : wb.heap.size = N + 1 + 1 := by rw [hwb]; simp [sa]
  have sc : wc.heap.size = N + 1 + 1 + 1 := by rw [hwc]; simp [sb]
  have ba : Below w0.heap.size w0 wa := by rw [hwa]; exact (Below.refl _ _).alloc (Nat.le_refl _) _
  have bb : Below wa.heap.size wa wb := by rw [hwb]; exact (Below.refl _ _).alloc (Nat.le_refl _) _
  have bc : Below wb.heap.size wb wc := by rw [hwc]; exact (Below.refl _ _).alloc (Nat.le_refl _) _
  have bd : Below wc.heap.size wc wd := by rw [hwd]; exact (Below.refl _ _).alloc (Nat.le_refl _) _
  have xa : wa.heap[N]? = some (.cells #[.int .i64 2, .int .i64 1] 77 (0, 0)) := by rw [hwa, hN]; exact heap_alloc_new _ _
  have xb : wb.heap[N + 1]? = some (.cells #[.int .i64 1, .int .i64 0, .int .i64 16, .bool false, .slice none 0 0] 46 (0, 0)) := by rw [hwb, ← sa]; exact heap_alloc_new _ _
  have xc : wc.heap[N + 1 + 1]? = some (.cells #[.slice (some ⟨N, 0, none⟩) 1 1, .slice (some ⟨N + 1, 0, none⟩) 1 1, .slice none 0 0] 26 (0, 0)) := by rw [hwc, ← sb]; exact heap_alloc_new _ _
  have ya := blk_stay (blk_stay (blk_stay xa bb) bc) bd
  have yb := blk_stay (blk_stay xb bc) bd
  have yc := blk_stay xc bd
  obtain ⟨c0, c1, c2⟩ := cU_in (V := ⟨some ⟨N, 0, none⟩, [win14], 1, some ⟨N + 1, 0, none⟩, [⟨j1, ⟨j0, j16⟩, false, none, [], 0⟩], 1, none, [], 0⟩) (show wd.heap[N + 1 + 1]? = some (.cells #[.slice (some ⟨N, 0, none⟩) 1 1, .slice (some ⟨N + 1, 0, none⟩) 1 1, .slice none 0 0] 26 (0, 0)) from yc)
  have hB : Below w0.heap.size w0 wd := ((ba.trans (bb.mono ba.size)).trans (bc.mono (Nat.le_trans ba.size bb.size))).trans (bd.mono (Nat.le_trans (Nat.le_trans ba.size bb.size) bc.size))
  have hK : Row wd (some ⟨wc.heap.size, 0, none⟩) keyS 3 := by rw [hwd]; exact row_blk keyS (World.alloc_heap_new wc _) rfl (by decide)
  obtain ⟨V, hV⟩ : ∃ V : CfgV, Hid (V = ⟨some ⟨N, 0, none⟩, [win14], 1, some ⟨N + 1, 0, none⟩, [⟨j1, ⟨j0, j16⟩, false, none, [], 0⟩], 1, none, [], 0⟩) := ⟨_, rfl⟩
  have hVA : V.At wd := by
    rw [hV.out]
    refine ⟨(vown_of_blk (f := cWin) (n := 2) (B := 0) (l := [win14]) cWin_len (Nat.zero_le _) (by decide) ya rfl).vec cWin_len, (vown_of_blk (f := cPt) (n := 5) (B := 0) (l := [⟨j1, ⟨j0, j16⟩, false, none, [], 0⟩]) cPt_len (Nat.zero_le _) (by simp) yb rfl).vec cPt_len, Vec.nil_ _, fun y hy => ?_⟩
    obtain rfl : y = ⟨j1, ⟨j0, j16⟩, false, none, [], 0⟩ := by simpa using hy
    exact (Cit.Own.nil 5 0 wd).isRow
  have hVS : SmallV V := by rw [hV.out]; exact small_of_len (by simp) (by simp) (by simp) (by simp)
  have hVC : V.cfg = cfg14 := by rw [hV.out]; rfl
  have hs := mseal_calls wd _ keyS 3 hK (by decide) (fullM V) ⟨rfl, rfl, hVA⟩ hVS
  rw [show (fullM V).man = ⟨j1, zeros32, j1, cfg14, zeros32⟩ by unfold fullM ManV.man; rw [hVC], show sealK keyS ⟨j1, zeros32, j1, cfg14, zeros32⟩ = man14 from rfl, sc] at hs
  have hbf := fun ρ x (e : ρ x = .agg #[.slice (some ⟨N, 0, none⟩) 1 1, .slice (some ⟨N + 1, 0, none⟩) 1 1, .slice none 0 0]) d ty ps af w hc => build_full ρ x V (by rw [hV.out]; exact e) d ty ps (af := af) w hc
  obtain ⟨CF, hCF⟩ : ∃ C, Hid (C = cM (fullM V)) := ⟨_, rfl⟩
  rw [← hCF.out] at hs hbf
  have HS := Lib.hid hs
  have HBF := Lib.hid hbf
  have HGD := Lib.hid (blk_stay HG.out hB)
  have HBD := Lib.hid (HB0.out.trans (hB.mono HB0.out.size))
  have SC := Lib.hid sc
  have HNN := Lib.hid hN
  rw [← hwa, ← hwb, ← hwc]
  clear sa sb ba bb bc bd xa xb xc ya yb yc hB hK hVA hVS hVC hs hbf hwa hwb hwc HG HB0 hN sc
  have hwd' := hwd
  have hcv := conv_key
  rw [hwd] at c0 c1 c2
  go_wp2_with (first | ((with_reducible refine wpList_value (o := ⟨some 11, .build _ _, _, _, _, _⟩) (by with_unfolding_all rfl) (HBF.out _ _ (by with_unfolding_all rfl) _ _ _ _ _ (fun _ => rfl)) ?_)))
  rw [← hwd, SC.out]
  clear hwd hwd' c0 c1 c2
  refine (HS.out).mono ?_
  rintro e w5 ⟨S, rfl, hm, hp, ht, hf, hb5⟩
  have HSM := Lib.hid (And.intro hm (And.intro hp (And.intro ht hf)))
  have HG5 := Lib.hid (blk_stay HGD.out hb5)
  have HB5 := Lib.hid (HBD.out.trans (hb5.mono HBD.out.size))
  have HWD : Hid (g < wd.heap.size) := (Array.getElem?_eq_some_iff.1 HGD.out).1
  obtain ⟨CS, hCS⟩ : ∃ C, Hid (C = cM S) := ⟨_, rfl⟩
  have HCS : Hid (CS.size = 69 ∧ CS.all (·.oneCell') = true) := by rw [hCS.out]; exact ⟨cM_size HSM.out.2.1 HSM.out.2.2.1, cM_one _⟩
  rw [← hCS.out]
  clear hm hp ht hf hb5 HS HGD
  go_wp2_with ((with_reducible refine wpList_storeB (o := ⟨none, .store _ (.tmp 0) (.tmp 12), _, _, _, _⟩) rowM (.tmp 0) (.tmp 12) (by with_unfolding_all rfl) (by with_unfolding_all rfl) (by with_unfolding_all rfl) (by with_unfolding_all rfl) (by with_unfolding_all rfl) HG5.out HZS.out HCS.out.1 HCS.out.2 ?_); intro w6 hbw6 hSw6; have HBw6 := Lib.hid hbw6; have HSw6 := Lib.hid hSw6; clear hbw6 hSw6)
  refine bodyPost_ret (resB1 rowM rfl rfl HBw6.out HCS.out.1) rfl ⟨S, by rw [hCS.out], HSM.out.1, ⟨HSM.out.2.1, HSM.out.2.2.1, ?_⟩, ?_⟩
  · exact (HSM.out.2.2.2.saveB HSw6.out (fun k hk => by have := HWD.out; omega)).low (by have := HWD.out; have := HGW.out; omega)
  · exact HB5.out.trans (HSw6.out.below HB5.out.size (fun k hk => by have := HGW.out; omega))
set_option maxRecDepth 100000 in
set_option maxHeartbeats 8000000 in
theorem mtold_calls (w : World) (M : ManV) (h : M.At w) (hs : SmallV M.cfg) (s : Bool) : Calls Tryz.prog 70 #[.agg (cM M), .bool s] w fun e w' => e = .returned (.int .i64 (checkE keyS man14 (mprintK (if s then sealK keyS M.man else M.man)))) ∧ Below w.heap.size w w' := by
  have HAM := Lib.hid (fun ρ d ty ps af w => alloc_man ρ d ty ps (af := af) w)
  obtain ⟨Z, hZ⟩ : ∃ Z, Hid (Z = cM zM) := ⟨_, rfl⟩
  rw [← hZ.out] at HAM
  have HZS : Hid (Z.size = 69) := by rw [Hid, hZ.out]; rfl
  obtain ⟨C, hC⟩ : ∃ C, Hid (C = cM M) := ⟨_, rfl⟩
  obtain ⟨w0, hw0⟩ : ∃ w0, w0 = w.alloc (.cells C 55) := ⟨_, rfl⟩
  have B0 : Below w.heap.size w w0 := by rw [hw0]; exact (Below.refl _ w).alloc (Nat.le_refl _) _
  have hI : InM w0 w.heap.size M := by rw [hw0, hC.out]; exact InM.new w h
  have HI0 := Lib.hid hI
  have HB0 := Lib.hid B0
  have HM := Lib.hid (h.stay B0)
  obtain ⟨R, hR⟩ : ∃ R, Hid (R = checkE keyS man14 (mprintK (if s then sealK keyS M.man else M.man))) := ⟨_, rfl⟩
  rw [← hR.out]
  obtain ⟨wk, hwk⟩ : ∃ wk, wk = w0.alloc (.cells #[.int .u8 107, .int .u8 101, .int .u8 121] 5 (3, 4)) := ⟨_, rfl⟩
  have HKR : Hid (Row wk (some ⟨w0.heap.size, 0, none⟩) keyS 3) := by rw [Hid, hwk]; exact row_blk keyS (World.alloc_heap_new w0 _) rfl (by decide)
  have bk : Below w0.heap.size w0 wk := by rw [hwk]; exact (Below.refl _ _).alloc (Nat.le_refl _) _
  have HIK := Lib.hid (hI.keep bk)
  have HMK := Lib.hid ((h.stay B0).stay bk)
  have HBK := Lib.hid (B0.trans (bk.mono B0.size))
  have hcv := conv_key
  rw [← hC.out]
  have HW0 : Hid (w.heap.size < w0.heap.size) := hI.lt
  clear hI h B0 bk HI0 HB0 HM
  go_enter Tryz.func70, Tryz.ntmps70
  go_upto_region 1 with fail
  rw [← hw0]
  clear hw0
  go_upto_region 2 with fail
  rw [← hwk]
  clear hwk hcv
  cases s with
  | false =>
    go_upto_region 4 with fail
    obtain ⟨M2, hM2⟩ : ∃ M2, Hid (M2 = M) := ⟨_, rfl⟩
    obtain ⟨C2, hC2⟩ : ∃ C, Hid (C = cM M2) := ⟨_, rfl⟩
    obtain ⟨w2, hw2⟩ : ∃ w2, w2 = wk := ⟨_, rfl⟩
    rw [← hw2] at HKR HIK HMK HBK ⊢
    have HI2 : Hid (InM w2 w.heap.size M2) := by rw [hM2.out]; exact HIK.out
    have HM2 : Hid (M2.At w2) := by rw [hM2.out]; exact HMK.out
    have HMM : Hid (M2.man = if false = true then sealK keyS M.man else M.man) := by rw [Hid, hM2.out]; rfl
    have HB2 := HBK
    have HK2 := HKR
    clear hw2
    have hp := mprint_calls w2 M2 HM2.out
    rw [← hC2.out] at hp
    obtain ⟨F, hF⟩ : ∃ F, Hid (F = mprintB M2) := ⟨_, rfl⟩
    rw [← hF.out] at hp
    have HP := Lib.hid hp
    have hw := HI2.out.whole
    rw [← hC2.out] at hw
    have HL2 := Lib.hid hw
    clear hp hw
    go_wp2_with ((with_reducible refine wpList_load_op (o := ⟨some 17, .load 55 (.tmp 2), _, _, _, _⟩) (by with_unfolding_all rfl) (by with_unfolding_all rfl) (by with_unfolding_all rfl) HL2.out ?_))
    refine (HP.out).mono ?_
    rintro e w3 ⟨a3, c3, rfl, hr3, hb3⟩
    have HR3 := Lib.hid hr3.row
    have HK3 := Lib.hid (HK2.out.stay hb3)
    have HB3 := Lib.hid (HB2.out.trans (hb3.mono HB2.out.size))
    have HS := Lib.hid (mshown_calls w3)
    clear hr3 hb3 HP HL2
    go_wp2_with fail
    refine (HS.out).mono ?_
    rintro e w4 ⟨S, rfl, hSm, hSF, hb4⟩
    obtain ⟨CS, hCS⟩ : ∃ C, Hid (C = cM S) := ⟨_, rfl⟩
    have hss : SmallV S.cfg := by have h1 : S.cfg.cfg = cfg14 := by rw [show S.cfg.cfg = S.man.cfg from rfl, hSm]; rfl
                                  exact small_can (by rw [canV_cfg, h1]; kernel_rfl)
    have hk := mcheck_calls w4 _ keyS 3 (HK3.out.stay hb4) (by decide) S hSF.at hss a3 F c3 (HR3.out.stay hb4)
    rw [← hCS.out, hSm] at hk
    rw [← hCS.out]
    have HE : Hid (checkE keyS man14 F = R) := by rw [Hid, hR.out, hF.out, mprintB_man, HMM.out]
    rw [HE.out] at hk
    have HCK := Lib.hid hk
    have HB4 := Lib.hid (HB3.out.trans (hb4.mono HB3.out.size))
    clear hSm hSF hss hk hb4 HS
    go_wp2_with fail
    refine (HCK.out).mono ?_
    rintro e w5 ⟨U, rfl, _, hUF, hb5⟩
    obtain ⟨CU, hCU⟩ : ∃ C, Hid (C = cM U) := ⟨_, rfl⟩
    have HCU : Hid (CU.size = 69 ∧ CU.all (·.oneCell') = true) := by rw [hCU.out]; exact ⟨cM_size hUF.p32 hUF.t32, cM_one _⟩
    rw [← hCU.out]
    have HB5 := Lib.hid (HB4.out.trans (hb5.mono HB4.out.size))
    have HNW := Lib.hid (heap_alloc_new w5 (.cells Z 55))
    clear hUF hb5 HCK
    go_wp2_with (first | ((with_reducible refine wpList_value (o := ⟨some 8, .alloc _, _, _, _, _⟩) (by with_unfolding_all rfl) (HAM.out _ _ _ _ _ _) ?_)) | ((with_reducible refine wpList_storeB (o := ⟨none, .store _ (.tmp 8) (.tmp 26), _, _, _, _⟩) rowM (.tmp 8) (.tmp 26) (by with_unfolding_all rfl) (by with_unfolding_all rfl) (by with_unfolding_all rfl) (by with_unfolding_all rfl) (by with_unfolding_all rfl) HNW.out HZS.out HCU.out.1 HCU.out.2 ?_); intro w6 hbw6 hSw6; have HBw6 := Lib.hid hbw6; have HSw6 := Lib.hid hSw6; clear hbw6 hSw6))
    go_ret
    refine ⟨rfl, HB5.out.trans ?_⟩
    have h1 : Below w5.heap.size w5 (w5.alloc (.cells Z 55)) := (Below.refl _ _).alloc (Nat.le_refl _) _
    exact (h1.trans (HSw6.out.below (by simp) (fun k hk => by omega))).mono HB5.out.size
  | true =>
    have hsl := mseal_calls wk _ keyS 3 HKR.out (by decide) M HMK.out hs
    rw [← hC.out] at hsl
    have HSL := Lib.hid hsl
    have hw := HIK.out.whole
    rw [← hC.out] at hw
    have HLK := Lib.hid hw
    have HCSZ : Hid (C.size = 69) := by rw [Hid, hC.out]; exact HIK.out.size
    clear hsl hw
    go_wp2_with ((with_reducible refine wpList_load_op (o := ⟨some 14, .load 55 (.tmp 2), _, _, _, _⟩) (by with_unfolding_all rfl) (by with_unfolding_all rfl) (by with_unfolding_all rfl) HLK.out ?_))
    refine (HSL.out).mono ?_
    rintro e w1 ⟨M2, rfl, hm, hp, ht, hf, hb1⟩
    have HI1 := Lib.hid (HIK.out.keep hb1)
    have hbk := HI1.out.blk
    rw [← hC.out] at hbk
    have HBL := Lib.hid hbk
    obtain ⟨C2, hC2⟩ : ∃ C, Hid (C = cM M2) := ⟨_, rfl⟩
    have HC2S : Hid (C2.size = 69 ∧ C2.all (·.oneCell') = true) := by rw [hC2.out]; exact ⟨cM_size hp ht, cM_one _⟩
    have HF1 := Lib.hid (And.intro hp (And.intro ht hf))
    have HMM : Hid (M2.man = if true = true then sealK keyS M.man else M.man) := by rw [Hid, hm]; rfl
    have HK1 := Lib.hid (HKR.out.stay hb1)
    have HB1 := Lib.hid (HBK.out.trans (hb1.mono HBK.out.size))
    have HWK : Hid (w.heap.size < wk.heap.size) := HIK.out.lt
    rw [← hC2.out]
    clear hbk hm hp ht hf hb1 HSL HLK HI1
    go_upto_region 4 with ((with_reducible refine wpList_storeB (o := ⟨none, .store _ (.tmp 2) (.tmp 15), _, _, _, _⟩) rowM (.tmp 2) (.tmp 15) (by with_unfolding_all rfl) (by with_unfolding_all rfl) (by with_unfolding_all rfl) (by with_unfolding_all rfl) (by with_unfolding_all rfl) HBL.out HCSZ.out HC2S.out.1 HC2S.out.2 ?_); intro w2 hbw2 hSw2; have HBw2 := Lib.hid hbw2; have HSw2 := Lib.hid hSw2; clear hbw2 hSw2)
    have HI2 : Hid (InM w2 w.heap.size M2) := ⟨by rw [← hC2.out]; exact HBw2.out, HF1.out.1, HF1.out.2.1⟩
    have HM2 : Hid (M2.At w2) := ⟨HF1.out.1, HF1.out.2.1, (HF1.out.2.2.saveB HSw2.out (fun k hk => by have := HWK.out; omega)).at⟩
    have HK2 : Hid (Row w2 (some ⟨w0.heap.size, 0, none⟩) keyS 3) := HK1.out.save HSw2.out (fun j hj => by simp [Go.Cit.blk] at hj; have := HW0.out; omega)
    have HB2 := Lib.hid (HB1.out.trans (HSw2.out.below HB1.out.size (fun k hk => by omega)))
    clear HBw2 HSw2 HF1 HK1 HB1 HBL
    have hp := mprint_calls w2 M2 HM2.out
    rw [← hC2.out] at hp
    obtain ⟨F, hF⟩ : ∃ F, Hid (F = mprintB M2) := ⟨_, rfl⟩
    rw [← hF.out] at hp
    have HP := Lib.hid hp
    have hw := HI2.out.whole
    rw [← hC2.out] at hw
    have HL2 := Lib.hid hw
    clear hp hw
    go_wp2_with ((with_reducible refine wpList_load_op (o := ⟨some 17, .load 55 (.tmp 2), _, _, _, _⟩) (by with_unfolding_all rfl) (by with_unfolding_all rfl) (by with_unfolding_all rfl) HL2.out ?_))
    refine (HP.out).mono ?_
    rintro e w3 ⟨a3, c3, rfl, hr3, hb3⟩
    have HR3 := Lib.hid hr3.row
    have HK3 := Lib.hid (HK2.out.stay hb3)
    have HB3 := Lib.hid (HB2.out.trans (hb3.mono HB2.out.size))
    have HS := Lib.hid (mshown_calls w3)
    clear hr3 hb3 HP HL2
    go_wp2_with fail
    refine (HS.out).mono ?_
    rintro e w4 ⟨S, rfl, hSm, hSF, hb4⟩
    obtain ⟨CS, hCS⟩ : ∃ C, Hid (C = cM S) := ⟨_, rfl⟩
    have hss : SmallV S.cfg := by have h1 : S.cfg.cfg = cfg14 := by rw [show S.cfg.cfg = S.man.cfg from rfl, hSm]; rfl
                                  exact small_can (by rw [canV_cfg, h1]; kernel_rfl)
    have hk := mcheck_calls w4 _ keyS 3 (HK3.out.stay hb4) (by decide) S hSF.at hss a3 F c3 (HR3.out.stay hb4)
    rw [← hCS.out, hSm] at hk
    rw [← hCS.out]
    have HE : Hid (checkE keyS man14 F = R) := by rw [Hid, hR.out, hF.out, mprintB_man, HMM.out]
    rw [HE.out] at hk
    have HCK := Lib.hid hk
    have HB4 := Lib.hid (HB3.out.trans (hb4.mono HB3.out.size))
    clear hSm hSF hss hk hb4 HS
    go_wp2_with fail
    refine (HCK.out).mono ?_
    rintro e w5 ⟨U, rfl, _, hUF, hb5⟩
    obtain ⟨CU, hCU⟩ : ∃ C, Hid (C = cM U) := ⟨_, rfl⟩
    have HCU : Hid (CU.size = 69 ∧ CU.all (·.oneCell') = true) := by rw [hCU.out]; exact ⟨cM_size hUF.p32 hUF.t32, cM_one _⟩
    rw [← hCU.out]
    have HB5 := Lib.hid (HB4.out.trans (hb5.mono HB4.out.size))
    have HNW := Lib.hid (heap_alloc_new w5 (.cells Z 55))
    clear hUF hb5 HCK
    go_wp2_with (first | ((with_reducible refine wpList_value (o := ⟨some 8, .alloc _, _, _, _, _⟩) (by with_unfolding_all rfl) (HAM.out _ _ _ _ _ _) ?_)) | ((with_reducible refine wpList_storeB (o := ⟨none, .store _ (.tmp 8) (.tmp 26), _, _, _, _⟩) rowM (.tmp 8) (.tmp 26) (by with_unfolding_all rfl) (by with_unfolding_all rfl) (by with_unfolding_all rfl) (by with_unfolding_all rfl) (by with_unfolding_all rfl) HNW.out HZS.out HCU.out.1 HCU.out.2 ?_); intro w6 hbw6 hSw6; have HBw6 := Lib.hid hbw6; have HSw6 := Lib.hid hSw6; clear hbw6 hSw6))
    go_ret
    refine ⟨rfl, HB5.out.trans ?_⟩
    have h1 : Below w5.heap.size w5 (w5.alloc (.cells Z 55)) := (Below.refl _ _).alloc (Nat.le_refl _) _
    exact (h1.trans (HSw6.out.below (by simp) (fun k hk => by omega))).mono HB5.out.size
end Go.Proofs.YtlholdllibghbaaGreat
