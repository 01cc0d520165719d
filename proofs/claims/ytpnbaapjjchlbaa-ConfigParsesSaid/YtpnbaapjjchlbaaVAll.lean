/- valid.overlap, rules, All, Check, Fits: walked. -/
import Derived.Test.YtpnbaapjjchlbaaPairs
import Derived.Laws.EntriesVeiled
namespace Go.Cit
open Go Go.RowKit
/-- []T{x}: the operation. -/
theorem build1 {P : Program} {T E : TypeId} {n by_ : Nat} {z : Value} (hE : ElemType P T E n by_ z) {ρ : Operand → Value} {o : Oper} (x : Operand) (v : Value) (ho : o.op = .buildSlice T 1 #[(0, x)]) (hx : ρ x = v) (hv : v.cells.size = n) (hn : n ≤ 1000) (w : World) :
    (execOp ρ o).run P w = .ok (.value (.slice (some ⟨w.heap.size, 0, none⟩) 1 1)) (w.alloc (.cells v.cells E)) := by
  have hf := hE.few
  have h := run_vbuild hE (ρ := ρ) (o := o) [x] [v] 1 ho (by simp [hx]) rfl (by decide) (by intro u hu; rw [List.mem_singleton] at hu; rw [hu]; exact hv) (by omega) w
  simpa using h
@[reducible] def cZ (n : Int) : List Value := [.int .i64 n]
theorem cZ_len : ∀ x, (cZ x).length = 1 := fun _ => rfl
theorem cZ_one : ∀ x, ∀ u ∈ cZ x, u.oneCell' = true := by intro x u hu; obtain rfl : u = .int .i64 x := by simpa using hu
                                                          rfl
end Go.Cit
namespace Go.Proofs.Ytpnbaapjjchlbaa
open Go Go.RowKit Go.Cit Go.Shelf

def okRegs (ps : List PtV) : List Reg := (ps.filter fun x => mayR x.reg).map (·.reg)
theorem okRegs_take (ps : List PtV) (k : Nat) (h : k < ps.length) : okRegs (ps.take (k + 1)) = okRegs (ps.take k) ++ (if mayR ps[k].reg then [ps[k].reg] else []) := by
  unfold okRegs
  rw [List.take_succ_eq_append_getElem h, List.filter_append, List.map_append]
  cases hm : mayR ps[k].reg <;> simp [hm]
theorem okRegs_len (ps : List PtV) : (okRegs ps).length ≤ ps.length := by unfold okRegs; rw [List.length_map]; exact List.length_filter_le _ _
def overlapBad (ps : List PtV) : Bool := decide (regAll (okRegs ps) ≠ 0)
set_option maxRecDepth 100000 in
set_option maxHeartbeats 2000000 in
theorem overlap_calls (w : World) (V : CfgV) (h : V.At w) (hs : SmallV V) : Calls Try.prog 131 #[.agg #[.slice V.wa V.ws.length V.wc, .slice V.pa V.ps.length V.pc, .slice V.ca V.cs.length V.cc]] w fun e w' => e = .returned (.bool (overlapBad V.ps)) ∧ Below w.heap.size w w' := by
  obtain ⟨R, HR⟩ : ∃ R, Hid (R = overlapBad V.ps) := ⟨_, rfl⟩
  rw [← HR.out]
  obtain ⟨w0, hw0⟩ : ∃ w0, w0 = w.alloc (.cells #[.slice V.wa V.ws.length V.wc, .slice V.pa V.ps.length V.pc, .slice V.ca V.cs.length V.cc] 26) := ⟨_, rfl⟩
  have B0 : Below w.heap.size w w0 := by rw [hw0]; exact (Below.refl _ w).alloc (Nat.le_refl _) _
  have hI : InBox w0 w.heap.size V := by rw [hw0]; exact inBox_new w V _
  have hlen := h.pts.len_le
  have hl100 := hs.pts
  have HV := Lib.hid (h.stay B0)
  have HI := Lib.hid (And.intro hI B0)
  obtain ⟨c0, c1, c2⟩ := hI
  clear h B0
  go_enter Try.func131, Try.ntmps131
  go_wp2_with fail
  rw [← hw0]
  clear hw0
  go_wp2_with fail
  go_loopw [3, 9] (fun s i wr => ∃ (k : Nat) (a : Option Addr) (L : List Reg) (c : Nat), Hid (L = okRegs (V.ps.take k)) ∧ L.length ≤ k ∧ k ≤ V.ps.length ∧ s = .slice a L.length c ∧ i = .int .i64 k ∧ VOwn cReg 2 40 w0.heap.size wr a L c ∧ Below w0.heap.size w0 wr) (fun _ i _ => V.ps.length - (intOf i).toNat)
  case atStart => exact ⟨0, none, [], 0, rfl, by simp, by omega, rfl, rfl, VOwn.nil_ _ _ _ _ _, Below.refl _ _⟩
  case round =>
    obtain ⟨k, a, L, c, HL, hLk, hk, rfl, rfl, hO, B⟩ := hrel
    by_cases hlt : k < V.ps.length
    · have i0 := HV.out.pts.index etP k hlt
      obtain ⟨u0, u1, u2, u3, u4⟩ := pts_cells HV.out.pts B k hlt
      have HT := Lib.hid (okRegs_take V.ps k hlt)
      obtain ⟨x, hx⟩ : ∃ x : PtV, Hid (x = V.ps[k]) := ⟨V.ps[k], rfl⟩
      rw [← hx.out] at u0 u1 u2 u3 u4 HT
      have HC := Lib.hid (rmay_calls (wr.alloc (.cells #[.int .i64 x.id.1, .int .i64 x.reg.base.1, .int .i64 x.reg.size.1, .bool x.keep, .slice x.a x.img.length x.c] 43)) x.reg)
      have HN : Hid ((wr.alloc (.cells #[.int .i64 x.id.1, .int .i64 x.reg.base.1, .int .i64 x.reg.size.1, .bool x.keep, .slice x.a x.img.length x.c] 43)).heap[wr.heap.size]? = some (.cells #[.int .i64 x.id.1, .int .i64 x.reg.base.1, .int .i64 x.reg.size.1, .bool x.keep, .slice x.a x.img.length x.c] 43 (0, 0))) := heap_alloc_new _ _
      have Ba : Below wr.heap.size wr (wr.alloc (.cells #[.int .i64 x.id.1, .int .i64 x.reg.base.1, .int .i64 x.reg.size.1, .bool x.keep, .slice x.a x.img.length x.c] 43)) := (Below.refl _ wr).alloc (Nat.le_refl _) _
      have HB := Lib.hid (And.intro B Ba)
      have HO := Lib.hid hO
      clear B Ba hO
      cases hq : mayR x.reg with
      | false =>
        rw [hq] at HC HT
        have HL2 : Hid (L = okRegs (V.ps.take (k + 1))) := by rw [Hid, HT.out, HL.out]; simp
        clear hq
        go_wp2_with fail
        refine (HC.out).mono ?_
        rintro e w2 ⟨rfl, hb2⟩
        have Bw := HB.out.2.trans (hb2.mono HB.out.2.size)
        have HO2 := Lib.hid (HO.out.stay Bw)
        have HB2 := Lib.hid (HB.out.1.trans (Bw.mono HB.out.1.size))
        clear hb2 Bw
        go_wp2_with fail
        go_roundw
        case rel => exact ⟨k + 1, a, L, c, HL2.out, by omega, by omega, rfl, by go_num, HO2.out, HB2.out⟩
        case measure => simp [intOf]; omega
      | true =>
        rw [hq] at HC HT
        have HL2 : Hid (L ++ [x.reg] = okRegs (V.ps.take (k + 1))) := by rw [Hid, HT.out, HL.out]; simp
        clear hq
        go_wp2_with fail
        refine (HC.out).mono ?_
        rintro e w2 ⟨rfl, hb2⟩
        have Bw := HB.out.2.trans (hb2.mono HB.out.2.size)
        have HO2 := Lib.hid (HO.out.stay Bw)
        have HB2 := Lib.hid (HB.out.1.trans (Bw.mono HB.out.1.size))
        have e2 := (hb2.block wr.heap.size (by simp)).trans HN.out
        have k1 := cells_of e2 1 rfl
        have k2 := cells_of e2 2 rfl
        clear hb2 Bw e2
        go_wp2_with (first
          | ((with_reducible refine wpList_value (o := ⟨some 19, .buildSlice _ _ _, _, _, _, _⟩) (by with_unfolding_all rfl) (build1 etR (.tmp 18) (.agg #[.int .i64 x.reg.base.1, .int .i64 x.reg.size.1]) (by with_unfolding_all rfl) (by with_unfolding_all rfl) (by with_unfolding_all rfl) (by decide) _) ?_))
          | ((with_reducible refine wpList_vapp1 (o := ⟨some 20, .call _, _, _, _, _⟩) etR cReg_len cReg_one (y := x.reg) (.tmp 16) (.tmp 19) (by with_unfolding_all rfl) (by with_unfolding_all rfl) HO2.out (by with_unfolding_all rfl) (by omega) HB2.out.size (by with_unfolding_all rfl) (by with_unfolding_all rfl) ?_); intro a4 c4 w4 hO4 hg4 hn4; have HO4 := Lib.hid hO4; have HB4 := Lib.hid (HB2.out.trans (HO2.out.grown hg4 HB2.out.size)); clear hO4 hg4 hn4))
        go_roundw
        case rel => exact ⟨k + 1, a4, L ++ [x.reg], c4, HL2.out, by simp; omega, by omega, by simp, by go_num, HO4.out, HB4.out⟩
        case measure => simp [intOf]; omega
    · have hk2 : k = V.ps.length := by omega
      have HLE : Hid (R = decide (regAll L ≠ 0)) := by rw [Hid, HR.out, overlapBad, HL.out, hk2, List.take_length]
      have HC := Lib.hid (rall_calls wr a L c (hO.vec cReg_len))
      obtain ⟨z, hz⟩ : ∃ z, Hid (z = regAll L) := ⟨_, rfl⟩
      rw [← hz.out] at HC HLE
      have HB := Lib.hid (HI.out.2.trans (B.mono HI.out.2.size))
      clear hk2 hO B
      go_wp2_with fail
      refine (HC.out).mono ?_
      rintro e w2 ⟨rfl, hb2⟩
      have HB2 := Lib.hid (HB.out.trans (hb2.mono HB.out.size))
      clear hb2
      go_wp2_with fail
      go_ret
      exact ⟨ret_bool (by rw [HLE.out, Bool.eq_iff_iff]; simp), HB2.out⟩

/-! The rules. -/
def ruleCells : Array Value := #[.int .i64 90, .func (.func 128) #[] #[], .int .i64 120, .func (.func 129) #[] #[], .int .i64 80, .func (.func 130) #[] #[], .int .i64 121, .func (.func 131) #[] #[], .int .i64 100, .func (.func 132) #[] #[]]
theorem rowRules : RowType Try.prog 81 10 := ⟨⟨_, Try.underlying81, rfl⟩, by kernel_rfl⟩
set_option maxRecDepth 100000 in
theorem rules_calls (w : World) : Calls Try.prog 58 #[] w fun e w' => e = .returned (.agg ruleCells) ∧ Below w.heap.size w w' := by
  go_enter Try.func58, Try.ntmps58
  go_wp2_with fail
  refine bodyPost_ret (resB1 rowRules rfl (by rfl) (heap_alloc_new _ _) rfl) rfl ⟨rfl, (Below.refl _ w).alloc (Nat.le_refl _) _⟩
theorem rx0 (a b c d e a' b' c' d' e' : Value) (w : World) : (Instr.index 81 (.agg #[a, a', b, b', c, c', d, d', e, e']) (.int .i64 0)).run Try.prog w = .ok (.agg #[a, a']) w := by kernel_rfl
theorem rx1 (a b c d e a' b' c' d' e' : Value) (w : World) : (Instr.index 81 (.agg #[a, a', b, b', c, c', d, d', e, e']) (.int .i64 1)).run Try.prog w = .ok (.agg #[b, b']) w := by kernel_rfl
theorem rx2 (a b c d e a' b' c' d' e' : Value) (w : World) : (Instr.index 81 (.agg #[a, a', b, b', c, c', d, d', e, e']) (.int .i64 2)).run Try.prog w = .ok (.agg #[c, c']) w := by kernel_rfl
theorem rx3 (a b c d e a' b' c' d' e' : Value) (w : World) : (Instr.index 81 (.agg #[a, a', b, b', c, c', d, d', e, e']) (.int .i64 3)).run Try.prog w = .ok (.agg #[d, d']) w := by kernel_rfl
theorem rx4 (a b c d e a' b' c' d' e' : Value) (w : World) : (Instr.index 81 (.agg #[a, a', b, b', c, c', d, d', e, e']) (.int .i64 4)).run Try.prog w = .ok (.agg #[e, e']) w := by kernel_rfl

/-- What is wrong, rule by rule. -/
def bads (V : CfgV) : List (Int × Bool) := [(90, windowsBad V), (120, partsBad V.ps), (80, regionsBad V.ps), (121, overlapBad V.ps), (100, channelsBad V)]
def errsTo (V : CfgV) (k : Nat) : List Int := (((bads V).take k).filter (·.2)).map (·.1)
def errs (V : CfgV) : List Int := errsTo V 5
theorem errsTo_succ (V : CfgV) (k : Nat) (h : k < (bads V).length) : errsTo V (k + 1) = errsTo V k ++ (if (bads V)[k].2 then [(bads V)[k].1] else []) := by
  unfold errsTo
  rw [List.take_succ_eq_append_getElem h, List.filter_append, List.map_append]
  cases hb : (bads V)[k].2 <;> simp [hb]
theorem errsTo_len (V : CfgV) (k : Nat) : (errsTo V k).length ≤ 5 := by
  unfold errsTo
  rw [List.length_map]
  refine Nat.le_trans (List.length_filter_le _ _) ?_
  rw [List.length_take]
  exact Nat.min_le_right _ _

set_option maxRecDepth 100000 in
set_option maxHeartbeats 4000000 in
theorem vall_calls (w : World) (V : CfgV) (h : V.At w) (hs : SmallV V) : Calls Try.prog 20 #[.agg #[.slice V.wa V.ws.length V.wc, .slice V.pa V.ps.length V.pc, .slice V.ca V.cs.length V.cc]] w fun e w' => ∃ a c, e = .returned (.slice a (errs V).length c) ∧ VOwn cZ 1 33 w.heap.size w' a (errs V) c ∧ Below w.heap.size w w' := by
  obtain ⟨R, HR⟩ : ∃ R, Hid (R = errs V) := ⟨_, rfl⟩
  rw [← HR.out]
  obtain ⟨w0, hw0⟩ : ∃ w0, w0 = w.alloc (.cells #[.slice V.wa V.ws.length V.wc, .slice V.pa V.ps.length V.pc, .slice V.ca V.cs.length V.cc] 26) := ⟨_, rfl⟩
  have B0 : Below w.heap.size w w0 := by rw [hw0]; exact (Below.refl _ w).alloc (Nat.le_refl _) _
  have hI : InBox w0 w.heap.size V := by rw [hw0]; exact inBox_new w V _
  have HV := Lib.hid (h.stay B0)
  have HI := Lib.hid hI
  have HB0 := Lib.hid B0
  clear h B0 hI
  have x0 := rx0
  have x1 := rx1
  have x2 := rx2
  have x3 := rx3
  have x4 := rx4
  go_enter Try.func20, Try.ntmps20
  go_wp2_with fail
  rw [← hw0]
  clear hw0
  refine (rules_calls w0).mono ?_
  rintro e w1 ⟨rfl, hb1⟩
  have HB1 := Lib.hid hb1
  clear hb1
  unfold ruleCells
  go_wp2_with fail
  go_loopw [3, 7] (fun s i wr => ∃ (k : Nat) (a : Option Addr) (L : List Int) (c : Nat), Hid (L = errsTo V k) ∧ L.length ≤ k ∧ k ≤ 5 ∧ s = .slice a L.length c ∧ i = .int .i64 k ∧ VOwn cZ 1 33 w0.heap.size wr a L c ∧ Below w0.heap.size w0 wr) (fun _ i _ => 5 - (intOf i).toNat)
  case atStart => exact ⟨0, none, [], 0, rfl, by simp, by omega, rfl, rfl, VOwn.nil_ _ _ _ _ _, HB1.out⟩
  case round =>
    obtain ⟨k, a, L, c, HL, hLk, hk, rfl, rfl, hO, B⟩ := hrel
    have HIA : Hid (∀ C T, InBox (wr.alloc (.cells C T)) w.heap.size V) := fun C T => (HI.out.keep B).keep ((Below.refl _ wr).alloc (Nat.le_refl _) _)
    have HVA : Hid (∀ C T, V.At (wr.alloc (.cells C T))) := fun C T => (HV.out.stay B).stay ((Below.refl _ wr).alloc (Nat.le_refl _) _)
    have HB := Lib.hid B
    have HO := Lib.hid hO
    have HLK := Lib.hid hLk
    clear B hO hLk
    by_cases hk0 : k = 0
    · subst hk0
      have HT := Lib.hid (errsTo_succ V 0 (show 0 < 5 by decide))
      have HC := Lib.hid (windows_calls (wr.alloc (.cells #[.int .i64 90, .func (.func 128) #[] #[]] 80)) V (HVA.out _ _) hs)
      have HN : Hid ((wr.alloc (.cells #[.int .i64 90, .func (.func 128) #[] #[]] 80)).heap[wr.heap.size]? = some (.cells #[.int .i64 90, .func (.func 128) #[] #[]] 80 (0, 0))) := heap_alloc_new _ _
      have HBa : Hid (Below wr.heap.size wr (wr.alloc (.cells #[.int .i64 90, .func (.func 128) #[] #[]] 80))) := (Below.refl _ wr).alloc (Nat.le_refl _) _
      obtain ⟨c0, c1, c2⟩ := HIA.out #[.int .i64 90, .func (.func 128) #[] #[]] 80
      cases hq : windowsBad V with
      | false =>
        rw [hq] at HC
        have HL2 : Hid (L = errsTo V 1) := by rw [Hid, HT.out, HL.out]; simp [bads, hq]
        clear hq
        go_wp2_with fail
        refine (HC.out).mono ?_
        rintro e w2 ⟨rfl, hb2⟩
        have Bw := HBa.out.trans (hb2.mono HBa.out.size)
        have HO2 := Lib.hid (HO.out.stay Bw)
        have HB2 := Lib.hid (HB.out.trans (Bw.mono HB.out.size))
        clear hb2 Bw
        go_wp2_with fail
        go_roundw
        case rel => exact ⟨1, a, L, c, HL2.out, by have := HLK.out; omega, by omega, rfl, by go_num, HO2.out, HB2.out⟩
        case measure => simp [intOf]
      | true =>
        rw [hq] at HC
        have HL2 : Hid (L ++ [90] = errsTo V 1) := by rw [Hid, HT.out, HL.out]; simp [bads, hq]
        clear hq
        go_wp2_with fail
        refine (HC.out).mono ?_
        rintro e w2 ⟨rfl, hb2⟩
        have Bw := HBa.out.trans (hb2.mono HBa.out.size)
        have HO2 := Lib.hid (HO.out.stay Bw)
        have HB2 := Lib.hid (HB.out.trans (Bw.mono HB.out.size))
        have e2 := (hb2.block wr.heap.size (by simp)).trans HN.out
        have k0 := cells_of e2 0 rfl
        clear hb2 Bw e2
        go_wp2_with ((with_reducible refine wpList_vapp1 (o := ⟨some 18, .call _, _, _, _, _⟩) etE cZ_len cZ_one (y := 90) (.tmp 14) (.tmp 17) (by with_unfolding_all rfl) (by with_unfolding_all rfl) HO2.out (by with_unfolding_all rfl) (by have := HLK.out; omega) HB2.out.size (by with_unfolding_all rfl) (by with_unfolding_all rfl) ?_); intro a4 c4 w4 hO4 hg4 hn4; have HO4 := Lib.hid hO4; have HB4 := Lib.hid (HB2.out.trans (HO2.out.grown hg4 HB2.out.size)); clear hO4 hg4 hn4)
        go_roundw
        case rel => exact ⟨1, a4, L ++ [90], c4, HL2.out, by have := HLK.out; rw [List.length_append, List.length_singleton]; omega, by omega, by simp, by go_num, HO4.out, HB4.out⟩
        case measure => simp [intOf]
    by_cases hk1 : k = 1
    · subst hk1
      have HT := Lib.hid (errsTo_succ V 1 (show 1 < 5 by decide))
      have HC := Lib.hid (parts_calls (wr.alloc (.cells #[.int .i64 120, .func (.func 129) #[] #[]] 80)) V (HVA.out _ _))
      have HN : Hid ((wr.alloc (.cells #[.int .i64 120, .func (.func 129) #[] #[]] 80)).heap[wr.heap.size]? = some (.cells #[.int .i64 120, .func (.func 129) #[] #[]] 80 (0, 0))) := heap_alloc_new _ _
      have HBa : Hid (Below wr.heap.size wr (wr.alloc (.cells #[.int .i64 120, .func (.func 129) #[] #[]] 80))) := (Below.refl _ wr).alloc (Nat.le_refl _) _
      obtain ⟨c0, c1, c2⟩ := HIA.out #[.int .i64 120, .func (.func 129) #[] #[]] 80
      cases hq : partsBad V.ps with
      | false =>
        rw [hq] at HC
        have HL2 : Hid (L = errsTo V 2) := by rw [Hid, HT.out, HL.out]; simp [bads, hq]
        clear hq
        go_wp2_with fail
        refine (HC.out).mono ?_
        rintro e w2 ⟨rfl, hb2⟩
        have Bw := HBa.out.trans (hb2.mono HBa.out.size)
        have HO2 := Lib.hid (HO.out.stay Bw)
        have HB2 := Lib.hid (HB.out.trans (Bw.mono HB.out.size))
        clear hb2 Bw
        go_wp2_with fail
        go_roundw
        case rel => exact ⟨2, a, L, c, HL2.out, by have := HLK.out; omega, by omega, rfl, by go_num, HO2.out, HB2.out⟩
        case measure => simp [intOf]
      | true =>
        rw [hq] at HC
        have HL2 : Hid (L ++ [120] = errsTo V 2) := by rw [Hid, HT.out, HL.out]; simp [bads, hq]
        clear hq
        go_wp2_with fail
        refine (HC.out).mono ?_
        rintro e w2 ⟨rfl, hb2⟩
        have Bw := HBa.out.trans (hb2.mono HBa.out.size)
        have HO2 := Lib.hid (HO.out.stay Bw)
        have HB2 := Lib.hid (HB.out.trans (Bw.mono HB.out.size))
        have e2 := (hb2.block wr.heap.size (by simp)).trans HN.out
        have k0 := cells_of e2 0 rfl
        clear hb2 Bw e2
        go_wp2_with ((with_reducible refine wpList_vapp1 (o := ⟨some 18, .call _, _, _, _, _⟩) etE cZ_len cZ_one (y := 120) (.tmp 14) (.tmp 17) (by with_unfolding_all rfl) (by with_unfolding_all rfl) HO2.out (by with_unfolding_all rfl) (by have := HLK.out; omega) HB2.out.size (by with_unfolding_all rfl) (by with_unfolding_all rfl) ?_); intro a4 c4 w4 hO4 hg4 hn4; have HO4 := Lib.hid hO4; have HB4 := Lib.hid (HB2.out.trans (HO2.out.grown hg4 HB2.out.size)); clear hO4 hg4 hn4)
        go_roundw
        case rel => exact ⟨2, a4, L ++ [120], c4, HL2.out, by have := HLK.out; rw [List.length_append, List.length_singleton]; omega, by omega, by simp, by go_num, HO4.out, HB4.out⟩
        case measure => simp [intOf]
    by_cases hk2 : k = 2
    · subst hk2
      have HT := Lib.hid (errsTo_succ V 2 (show 2 < 5 by decide))
      have HC := Lib.hid (regions_calls (wr.alloc (.cells #[.int .i64 80, .func (.func 130) #[] #[]] 80)) V (HVA.out _ _))
      have HN : Hid ((wr.alloc (.cells #[.int .i64 80, .func (.func 130) #[] #[]] 80)).heap[wr.heap.size]? = some (.cells #[.int .i64 80, .func (.func 130) #[] #[]] 80 (0, 0))) := heap_alloc_new _ _
      have HBa : Hid (Below wr.heap.size wr (wr.alloc (.cells #[.int .i64 80, .func (.func 130) #[] #[]] 80))) := (Below.refl _ wr).alloc (Nat.le_refl _) _
      obtain ⟨c0, c1, c2⟩ := HIA.out #[.int .i64 80, .func (.func 130) #[] #[]] 80
      cases hq : regionsBad V.ps with
      | false =>
        rw [hq] at HC
        have HL2 : Hid (L = errsTo V 3) := by rw [Hid, HT.out, HL.out]; simp [bads, hq]
        clear hq
        go_wp2_with fail
        refine (HC.out).mono ?_
        rintro e w2 ⟨rfl, hb2⟩
        have Bw := HBa.out.trans (hb2.mono HBa.out.size)
        have HO2 := Lib.hid (HO.out.stay Bw)
        have HB2 := Lib.hid (HB.out.trans (Bw.mono HB.out.size))
        clear hb2 Bw
        go_wp2_with fail
        go_roundw
        case rel => exact ⟨3, a, L, c, HL2.out, by have := HLK.out; omega, by omega, rfl, by go_num, HO2.out, HB2.out⟩
        case measure => simp [intOf]
      | true =>
        rw [hq] at HC
        have HL2 : Hid (L ++ [80] = errsTo V 3) := by rw [Hid, HT.out, HL.out]; simp [bads, hq]
        clear hq
        go_wp2_with fail
        refine (HC.out).mono ?_
        rintro e w2 ⟨rfl, hb2⟩
        have Bw := HBa.out.trans (hb2.mono HBa.out.size)
        have HO2 := Lib.hid (HO.out.stay Bw)
        have HB2 := Lib.hid (HB.out.trans (Bw.mono HB.out.size))
        have e2 := (hb2.block wr.heap.size (by simp)).trans HN.out
        have k0 := cells_of e2 0 rfl
        clear hb2 Bw e2
        go_wp2_with ((with_reducible refine wpList_vapp1 (o := ⟨some 18, .call _, _, _, _, _⟩) etE cZ_len cZ_one (y := 80) (.tmp 14) (.tmp 17) (by with_unfolding_all rfl) (by with_unfolding_all rfl) HO2.out (by with_unfolding_all rfl) (by have := HLK.out; omega) HB2.out.size (by with_unfolding_all rfl) (by with_unfolding_all rfl) ?_); intro a4 c4 w4 hO4 hg4 hn4; have HO4 := Lib.hid hO4; have HB4 := Lib.hid (HB2.out.trans (HO2.out.grown hg4 HB2.out.size)); clear hO4 hg4 hn4)
        go_roundw
        case rel => exact ⟨3, a4, L ++ [80], c4, HL2.out, by have := HLK.out; rw [List.length_append, List.length_singleton]; omega, by omega, by simp, by go_num, HO4.out, HB4.out⟩
        case measure => simp [intOf]
    by_cases hk3 : k = 3
    · subst hk3
      have HT := Lib.hid (errsTo_succ V 3 (show 3 < 5 by decide))
      have HC := Lib.hid (overlap_calls (wr.alloc (.cells #[.int .i64 121, .func (.func 131) #[] #[]] 80)) V (HVA.out _ _) hs)
      have HN : Hid ((wr.alloc (.cells #[.int .i64 121, .func (.func 131) #[] #[]] 80)).heap[wr.heap.size]? = some (.cells #[.int .i64 121, .func (.func 131) #[] #[]] 80 (0, 0))) := heap_alloc_new _ _
      have HBa : Hid (Below wr.heap.size wr (wr.alloc (.cells #[.int .i64 121, .func (.func 131) #[] #[]] 80))) := (Below.refl _ wr).alloc (Nat.le_refl _) _
      obtain ⟨c0, c1, c2⟩ := HIA.out #[.int .i64 121, .func (.func 131) #[] #[]] 80
      cases hq : overlapBad V.ps with
      | false =>
        rw [hq] at HC
        have HL2 : Hid (L = errsTo V 4) := by rw [Hid, HT.out, HL.out]; simp [bads, hq]
        clear hq
        go_wp2_with fail
        refine (HC.out).mono ?_
        rintro e w2 ⟨rfl, hb2⟩
        have Bw := HBa.out.trans (hb2.mono HBa.out.size)
        have HO2 := Lib.hid (HO.out.stay Bw)
        have HB2 := Lib.hid (HB.out.trans (Bw.mono HB.out.size))
        clear hb2 Bw
        go_wp2_with fail
        go_roundw
        case rel => exact ⟨4, a, L, c, HL2.out, by have := HLK.out; omega, by omega, rfl, by go_num, HO2.out, HB2.out⟩
        case measure => simp [intOf]
      | true =>
        rw [hq] at HC
        have HL2 : Hid (L ++ [121] = errsTo V 4) := by rw [Hid, HT.out, HL.out]; simp [bads, hq]
        clear hq
        go_wp2_with fail
        refine (HC.out).mono ?_
        rintro e w2 ⟨rfl, hb2⟩
        have Bw := HBa.out.trans (hb2.mono HBa.out.size)
        have HO2 := Lib.hid (HO.out.stay Bw)
        have HB2 := Lib.hid (HB.out.trans (Bw.mono HB.out.size))
        have e2 := (hb2.block wr.heap.size (by simp)).trans HN.out
        have k0 := cells_of e2 0 rfl
        clear hb2 Bw e2
        go_wp2_with ((with_reducible refine wpList_vapp1 (o := ⟨some 18, .call _, _, _, _, _⟩) etE cZ_len cZ_one (y := 121) (.tmp 14) (.tmp 17) (by with_unfolding_all rfl) (by with_unfolding_all rfl) HO2.out (by with_unfolding_all rfl) (by have := HLK.out; omega) HB2.out.size (by with_unfolding_all rfl) (by with_unfolding_all rfl) ?_); intro a4 c4 w4 hO4 hg4 hn4; have HO4 := Lib.hid hO4; have HB4 := Lib.hid (HB2.out.trans (HO2.out.grown hg4 HB2.out.size)); clear hO4 hg4 hn4)
        go_roundw
        case rel => exact ⟨4, a4, L ++ [121], c4, HL2.out, by have := HLK.out; rw [List.length_append, List.length_singleton]; omega, by omega, by simp, by go_num, HO4.out, HB4.out⟩
        case measure => simp [intOf]
    by_cases hk4 : k = 4
    · subst hk4
      have HT := Lib.hid (errsTo_succ V 4 (show 4 < 5 by decide))
      have HC := Lib.hid (channels_calls (wr.alloc (.cells #[.int .i64 100, .func (.func 132) #[] #[]] 80)) V (HVA.out _ _) hs)
      have HN : Hid ((wr.alloc (.cells #[.int .i64 100, .func (.func 132) #[] #[]] 80)).heap[wr.heap.size]? = some (.cells #[.int .i64 100, .func (.func 132) #[] #[]] 80 (0, 0))) := heap_alloc_new _ _
      have HBa : Hid (Below wr.heap.size wr (wr.alloc (.cells #[.int .i64 100, .func (.func 132) #[] #[]] 80))) := (Below.refl _ wr).alloc (Nat.le_refl _) _
      obtain ⟨c0, c1, c2⟩ := HIA.out #[.int .i64 100, .func (.func 132) #[] #[]] 80
      cases hq : channelsBad V with
      | false =>
        rw [hq] at HC
        have HL2 : Hid (L = errsTo V 5) := by rw [Hid, HT.out, HL.out]; simp [bads, hq]
        clear hq
        go_wp2_with fail
        refine (HC.out).mono ?_
        rintro e w2 ⟨rfl, hb2⟩
        have Bw := HBa.out.trans (hb2.mono HBa.out.size)
        have HO2 := Lib.hid (HO.out.stay Bw)
        have HB2 := Lib.hid (HB.out.trans (Bw.mono HB.out.size))
        clear hb2 Bw
        go_wp2_with fail
        go_roundw
        case rel => exact ⟨5, a, L, c, HL2.out, by have := HLK.out; omega, by omega, rfl, by go_num, HO2.out, HB2.out⟩
        case measure => simp [intOf]
      | true =>
        rw [hq] at HC
        have HL2 : Hid (L ++ [100] = errsTo V 5) := by rw [Hid, HT.out, HL.out]; simp [bads, hq]
        clear hq
        go_wp2_with fail
        refine (HC.out).mono ?_
        rintro e w2 ⟨rfl, hb2⟩
        have Bw := HBa.out.trans (hb2.mono HBa.out.size)
        have HO2 := Lib.hid (HO.out.stay Bw)
        have HB2 := Lib.hid (HB.out.trans (Bw.mono HB.out.size))
        have e2 := (hb2.block wr.heap.size (by simp)).trans HN.out
        have k0 := cells_of e2 0 rfl
        clear hb2 Bw e2
        go_wp2_with ((with_reducible refine wpList_vapp1 (o := ⟨some 18, .call _, _, _, _, _⟩) etE cZ_len cZ_one (y := 100) (.tmp 14) (.tmp 17) (by with_unfolding_all rfl) (by with_unfolding_all rfl) HO2.out (by with_unfolding_all rfl) (by have := HLK.out; omega) HB2.out.size (by with_unfolding_all rfl) (by with_unfolding_all rfl) ?_); intro a4 c4 w4 hO4 hg4 hn4; have HO4 := Lib.hid hO4; have HB4 := Lib.hid (HB2.out.trans (HO2.out.grown hg4 HB2.out.size)); clear hO4 hg4 hn4)
        go_roundw
        case rel => exact ⟨5, a4, L ++ [100], c4, HL2.out, by have := HLK.out; rw [List.length_append, List.length_singleton]; omega, by omega, by simp, by go_num, HO4.out, HB4.out⟩
        case measure => simp [intOf]
    have hk5 : k = 5 := by omega
    subst hk5
    have HF : Hid (L = R) := by rw [Hid, HL.out, HR.out]; rfl
    go_wp2_with fail
    go_ret
    exact ⟨a, c, by rw [HF.out]; rfl, by have := HO.out.low HB0.out.size; rwa [HF.out] at this, HB0.out.trans (HB.out.mono HB0.out.size)⟩

end Go.Proofs.Ytpnbaapjjchlbaa
