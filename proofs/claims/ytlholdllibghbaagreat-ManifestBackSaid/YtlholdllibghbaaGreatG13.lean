/- Texts of the proof, one behind the other: VAll, VChk, Eq, Law11. No condition but those that each names. -/
import Derived.Test.YtlholdllibghbaaGreatG12
import Derived.Laws.EntriesVeiled
import Derived.Test.YtlholdllibghbaaGreatG00
import Derived.DeepKeys
import Derived.Laws.StructEq
import Derived.Laws.IdiomStrings
import Derived.Lib.Bytealg
/- valid.overlap, rules, All, Check, Fits: walked. -/
namespace Go.Cit
open Go Go.RowKit
theorem build1 {P : Program} {T E : TypeId} {n by_ : Nat} {z : Value} (hE : ElemType P T E n by_ z) {ρ : Operand → Value} {o : Oper} (x : Operand) (v : Value) (ho : o.op = .buildSlice T 1 #[(0, x)]) (hx : ρ x = v) (hv : v.cells.size = n) (hn : n ≤ 1000) (w : World) :
    (execOp ρ o).run P w = .ok (.value (.slice (some ⟨w.heap.size, 0, none⟩) 1 1)) (w.alloc (.cells v.cells E)) := by
  have hf := hE.few
  have h := run_vbuild hE (ρ := ρ) (o := o) [x] [v] 1 ho (by simp [hx]) rfl (by decide) (by intro u hu; rw [List.mem_singleton] at hu; rw [hu]; exact hv) (by omega) w
  simpa using h
@[reducible] def cZ (n : Int) : List Value := [.int .i64 n]
theorem cZ_len : ∀ x, (cZ x).length = 1 := fun _ => rfl
theorem cZ_one : ∀ x, ∀ u ∈ cZ x, u.oneCell' = true := by intro x u hu; obtain rfl : u = .int .i64 x := by simpa using hu
                                                          rfl
end Go.Cit
namespace Go.Proofs.YtlholdllibghbaaGreat
open Go Go.RowKit Go.Cit Go.Shelf

def okRegs (ps : List PtV) : List Reg := (ps.filter fun x => mayR x.reg).map (·.reg)
theorem okRegs_take (ps : List PtV) (k : Nat) (h : k < ps.length) : okRegs (ps.take (k + 1)) = okRegs (ps.take k) ++ (if mayR ps[k].reg then [ps[k].reg] else []) := by
  unfold okRegs
  rw [List.take_succ_eq_append_getElem h, List.filter_append, List.map_append]
  cases hm : mayR ps[k].reg <;> simp [hm]
def overlapBad (ps : List PtV) : Bool := decide (regAll (okRegs ps) ≠ 0)
set_option maxRecDepth 100000 in
set_option maxHeartbeats 2000000 in
theorem overlap_calls (w : World) (V : CfgV) (h : V.At w) (hs : SmallV V) : Calls Tryz.prog 228 #[.agg #[.slice V.wa V.ws.length V.wc, .slice V.pa V.ps.length V.pc, .slice V.ca V.cs.length V.cc]] w fun e w' => e = .returned (.bool (overlapBad V.ps)) ∧ Below w.heap.size w w' := by
  obtain ⟨R, HR⟩ : ∃ R, Hid (R = overlapBad V.ps) := ⟨_, rfl⟩
  rw [← HR.out]
  obtain ⟨w0, hw0⟩ : ∃ w0, w0 = w.alloc (.cells #[.slice V.wa V.ws.length V.wc, .slice V.pa V.ps.length V.pc, .slice V.ca V.cs.length V.cc] 26) := ⟨_, rfl⟩
  have B0 : Below w.heap.size w w0 := by rw [hw0]; exact (Below.refl _ w).alloc (Nat.le_refl _) _
  have hI : InBox w0 w.heap.size V := by rw [hw0]; exact inBox_new w V _
  have hlen := h.pts.len_le
  have hl100 := hs.pts
  have HV := Lib.hid (h.stay B0)
  have HI := Lib.hid (And.intro hI B0)
  obtain ⟨c0, c1, c2⟩ := hI
  clear h B0
  go_enter Tryz.func228, Tryz.ntmps228
  go_wp2_with fail
  rw [← hw0]
  clear hw0
  go_wp2_with fail
  go_loopw [3, 9] (fun s i wr => ∃ (k : Nat) (a : Option Addr) (L : List Reg) (c : Nat), Hid (L = okRegs (V.ps.take k)) ∧ L.length ≤ k ∧ k ≤ V.ps.length ∧ s = .slice a L.length c ∧ i = .int .i64 k ∧ VOwn cReg 2 44 w0.heap.size wr a L c ∧ Below w0.heap.size w0 wr) (fun _ i _ => V.ps.length - (intOf i).toNat)
  case atStart => exact ⟨0, none, [], 0, rfl, by simp, by omega, rfl, rfl, VOwn.nil_ _ _ _ _ _, Below.refl _ _⟩
  case round =>
    obtain ⟨k, a, L, c, HL, hLk, hk, rfl, rfl, hO, B⟩ := hrel
    by_cases hlt : k < V.ps.length
    · have i0 := HV.out.pts.index etP k hlt
      obtain ⟨u0, u1, u2, u3, u4⟩ := pts_cells HV.out.pts B k hlt
      have HT := Lib.hid (okRegs_take V.ps k hlt)
      obtain ⟨x, hx⟩ : ∃ x : PtV, Hid (x = V.ps[k]) := ⟨V.ps[k], rfl⟩
      rw [← hx.out] at u0 u1 u2 u3 u4 HT
      have HC := Lib.hid (rmay_calls (wr.alloc (.cells #[.int .i64 x.id.1, .int .i64 x.reg.base.1, .int .i64 x.reg.size.1, .bool x.keep, .slice x.a x.img.length x.c] 46)) x.reg)
      have HN : Hid ((wr.alloc (.cells #[.int .i64 x.id.1, .int .i64 x.reg.base.1, .int .i64 x.reg.size.1, .bool x.keep, .slice x.a x.img.length x.c] 46)).heap[wr.heap.size]? = some (.cells #[.int .i64 x.id.1, .int .i64 x.reg.base.1, .int .i64 x.reg.size.1, .bool x.keep, .slice x.a x.img.length x.c] 46 (0, 0))) := heap_alloc_new _ _
      have Ba : Below wr.heap.size wr (wr.alloc (.cells #[.int .i64 x.id.1, .int .i64 x.reg.base.1, .int .i64 x.reg.size.1, .bool x.keep, .slice x.a x.img.length x.c] 46)) := (Below.refl _ wr).alloc (Nat.le_refl _) _
      have HB := Lib.hid (And.intro B Ba)
      have HO := Lib.hid hO
      clear B Ba hO
      cases hq : mayR x.reg with
      | false =>
        rw [hq] at HC HT
        have HL2 : Hid (L = okRegs (V.ps.take (k + 1))) := by rw [Hid, HT.out, HL.out]; simp
        clear hq
        go_wp2_with fail
        refine (HC.out).mono ?_
        rintro e w2 ⟨rfl, hb2⟩
        have Bw := HB.out.2.trans (hb2.mono HB.out.2.size)
        have HO2 := Lib.hid (HO.out.stay Bw)
        have HB2 := Lib.hid (HB.out.1.trans (Bw.mono HB.out.1.size))
        clear hb2 Bw
        go_wp2_with fail
        go_roundw
        case rel => exact ⟨k + 1, a, L, c, HL2.out, by omega, by omega, rfl, by go_num, HO2.out, HB2.out⟩
        case measure => simp [intOf]; omega
      | true =>
        rw [hq] at HC HT
        have HL2 : Hid (L ++ [x.reg] = okRegs (V.ps.take (k + 1))) := by rw [Hid, HT.out, HL.out]; simp
        clear hq
        go_wp2_with fail
        refine (HC.out).mono ?_
        rintro e w2 ⟨rfl, hb2⟩
        have Bw := HB.out.2.trans (hb2.mono HB.out.2.size)
        have HO2 := Lib.hid (HO.out.stay Bw)
        have HB2 := Lib.hid (HB.out.1.trans (Bw.mono HB.out.1.size))
        have e2 := (hb2.block wr.heap.size (by simp)).trans HN.out
        have k1 := cells_of e2 1 rfl
        have k2 := cells_of e2 2 rfl
        clear hb2 Bw e2
        go_wp2_with (first
          | ((with_reducible refine wpList_value (o := ⟨some 19, .buildSlice _ _ _, _, _, _, _⟩) (by with_unfolding_all rfl) (build1 etR (.tmp 18) (.agg #[.int .i64 x.reg.base.1, .int .i64 x.reg.size.1]) (by with_unfolding_all rfl) (by with_unfolding_all rfl) (by with_unfolding_all rfl) (by decide) _) ?_))
          | ((with_reducible refine wpList_vapp1 (o := ⟨some 20, .call _, _, _, _, _⟩) etR cReg_len cReg_one (y := x.reg) (.tmp 16) (.tmp 19) (by with_unfolding_all rfl) (by with_unfolding_all rfl) HO2.out (by with_unfolding_all rfl) (by omega) HB2.out.size (by with_unfolding_all rfl) (by with_unfolding_all rfl) ?_); intro a4 c4 w4 hO4 hg4 hn4; have HO4 := Lib.hid hO4; have HB4 := Lib.hid (HB2.out.trans (HO2.out.grown hg4 HB2.out.size)); clear hO4 hg4 hn4))
        go_roundw
        case rel => exact ⟨k + 1, a4, L ++ [x.reg], c4, HL2.out, by simp; omega, by omega, by simp, by go_num, HO4.out, HB4.out⟩
        case measure => simp [intOf]; omega
    · have hk2 : k = V.ps.length := by omega
      have HLE : Hid (R = decide (regAll L ≠ 0)) := by rw [Hid, HR.out, overlapBad, HL.out, hk2, List.take_length]
      have HC := Lib.hid (rall_calls wr a L c (hO.vec cReg_len))
      obtain ⟨z, hz⟩ : ∃ z, Hid (z = regAll L) := ⟨_, rfl⟩
      rw [← hz.out] at HC HLE
      have HB := Lib.hid (HI.out.2.trans (B.mono HI.out.2.size))
      clear hk2 hO B
      go_wp2_with fail
      refine (HC.out).mono ?_
      rintro e w2 ⟨rfl, hb2⟩
      have HB2 := Lib.hid (HB.out.trans (hb2.mono HB.out.size))
      clear hb2
      go_wp2_with fail
      go_ret
      exact ⟨ret_bool (by rw [HLE.out, Bool.eq_iff_iff]; simp), HB2.out⟩

/-! The rules. -/
def ruleCells : Array Value := #[.int .i64 90, .func (.func 225) #[] #[], .int .i64 120, .func (.func 226) #[] #[], .int .i64 80, .func (.func 227) #[] #[], .int .i64 121, .func (.func 228) #[] #[], .int .i64 100, .func (.func 229) #[] #[]]
theorem rowRules : RowType Tryz.prog 222 10 := ⟨⟨_, Tryz.underlying222, rfl⟩, by kernel_rfl⟩
set_option maxRecDepth 100000 in
theorem rules_calls (w : World) : Calls Tryz.prog 179 #[] w fun e w' => e = .returned (.agg ruleCells) ∧ Below w.heap.size w w' := by
  go_enter Tryz.func179, Tryz.ntmps179
  go_wp2_with fail
  refine bodyPost_ret (resB1 rowRules rfl (by rfl) (heap_alloc_new _ _) rfl) rfl ⟨rfl, (Below.refl _ w).alloc (Nat.le_refl _) _⟩
theorem rx0 (a b c d e a' b' c' d' e' : Value) (w : World) : (Instr.index 222 (.agg #[a, a', b, b', c, c', d, d', e, e']) (.int .i64 0)).run Tryz.prog w = .ok (.agg #[a, a']) w := by kernel_rfl
theorem rx1 (a b c d e a' b' c' d' e' : Value) (w : World) : (Instr.index 222 (.agg #[a, a', b, b', c, c', d, d', e, e']) (.int .i64 1)).run Tryz.prog w = .ok (.agg #[b, b']) w := by kernel_rfl
theorem rx2 (a b c d e a' b' c' d' e' : Value) (w : World) : (Instr.index 222 (.agg #[a, a', b, b', c, c', d, d', e, e']) (.int .i64 2)).run Tryz.prog w = .ok (.agg #[c, c']) w := by kernel_rfl
theorem rx3 (a b c d e a' b' c' d' e' : Value) (w : World) : (Instr.index 222 (.agg #[a, a', b, b', c, c', d, d', e, e']) (.int .i64 3)).run Tryz.prog w = .ok (.agg #[d, d']) w := by kernel_rfl
theorem rx4 (a b c d e a' b' c' d' e' : Value) (w : World) : (Instr.index 222 (.agg #[a, a', b, b', c, c', d, d', e, e']) (.int .i64 4)).run Tryz.prog w = .ok (.agg #[e, e']) w := by kernel_rfl

def bads (V : CfgV) : List (Int × Bool) := [(90, windowsBad V), (120, partsBad V.ps), (80, regionsBad V.ps), (121, overlapBad V.ps), (100, channelsBad V)]
def errsTo (V : CfgV) (k : Nat) : List Int := (((bads V).take k).filter (·.2)).map (·.1)
def errs (V : CfgV) : List Int := errsTo V 5
theorem errsTo_succ (V : CfgV) (k : Nat) (h : k < (bads V).length) : errsTo V (k + 1) = errsTo V k ++ (if (bads V)[k].2 then [(bads V)[k].1] else []) := by
  unfold errsTo
  rw [List.take_succ_eq_append_getElem h, List.filter_append, List.map_append]
  cases hb : (bads V)[k].2 <;> simp [hb]
theorem errsTo_len (V : CfgV) (k : Nat) : (errsTo V k).length ≤ 5 := by
  unfold errsTo
  rw [List.length_map]
  refine Nat.le_trans (List.length_filter_le _ _) ?_
  rw [List.length_take]
  exact Nat.min_le_right _ _

set_option maxRecDepth 100000 in
set_option maxHeartbeats 4000000 in
theorem vall_calls (w : World) (V : CfgV) (h : V.At w) (hs : SmallV V) : Calls Tryz.prog 102 #[.agg #[.slice V.wa V.ws.length V.wc, .slice V.pa V.ps.length V.pc, .slice V.ca V.cs.length V.cc]] w fun e w' => ∃ a c, e = .returned (.slice a (errs V).length c) ∧ VOwn cZ 1 33 w.heap.size w' a (errs V) c ∧ Below w.heap.size w w' := by
  obtain ⟨R, HR⟩ : ∃ R, Hid (R = errs V) := ⟨_, rfl⟩
  rw [← HR.out]
  obtain ⟨w0, hw0⟩ : ∃ w0, w0 = w.alloc (.cells #[.slice V.wa V.ws.length V.wc, .slice V.pa V.ps.length V.pc, .slice V.ca V.cs.length V.cc] 26) := ⟨_, rfl⟩
  have B0 : Below w.heap.size w w0 := by rw [hw0]; exact (Below.refl _ w).alloc (Nat.le_refl _) _
  have hI : InBox w0 w.heap.size V := by rw [hw0]; exact inBox_new w V _
  have HV := Lib.hid (h.stay B0)
  have HI := Lib.hid hI
  have HB0 := Lib.hid B0
  clear h B0 hI
  have x0 := rx0
  have x1 := rx1
  have x2 := rx2
  have x3 := rx3
  have x4 := rx4
  go_enter Tryz.func102, Tryz.ntmps102
  go_wp2_with fail
  rw [← hw0]
  clear hw0
  refine (rules_calls w0).mono ?_
  rintro e w1 ⟨rfl, hb1⟩
  have HB1 := Lib.hid hb1
  clear hb1
  unfold ruleCells
  go_wp2_with fail
  go_loopw [3, 7] (fun s i wr => ∃ (k : Nat) (a : Option Addr) (L : List Int) (c : Nat), Hid (L = errsTo V k) ∧ L.length ≤ k ∧ k ≤ 5 ∧ s = .slice a L.length c ∧ i = .int .i64 k ∧ VOwn cZ 1 33 w0.heap.size wr a L c ∧ Below w0.heap.size w0 wr) (fun _ i _ => 5 - (intOf i).toNat)
  case atStart => exact ⟨0, none, [], 0, rfl, by simp, by omega, rfl, rfl, VOwn.nil_ _ _ _ _ _, HB1.out⟩
  case round =>
    obtain ⟨k, a, L, c, HL, hLk, hk, rfl, rfl, hO, B⟩ := hrel
    have HIA : Hid (∀ C T, InBox (wr.alloc (.cells C T)) w.heap.size V) := fun C T => (HI.out.keep B).keep ((Below.refl _ wr).alloc (Nat.le_refl _) _)
    have HVA : Hid (∀ C T, V.At (wr.alloc (.cells C T))) := fun C T => (HV.out.stay B).stay ((Below.refl _ wr).alloc (Nat.le_refl _) _)
    have HB := Lib.hid B
    have HO := Lib.hid hO
    have HLK := Lib.hid hLk
    clear B hO hLk
    by_cases hk0 : k = 0
    · subst hk0
      have HT := Lib.hid (errsTo_succ V 0 (show 0 < 5 by decide))
      have HC := Lib.hid (windows_calls (wr.alloc (.cells #[.int .i64 90, .func (.func 225) #[] #[]] 221)) V (HVA.out _ _) hs)
      have HN : Hid ((wr.alloc (.cells #[.int .i64 90, .func (.func 225) #[] #[]] 221)).heap[wr.heap.size]? = some (.cells #[.int .i64 90, .func (.func 225) #[] #[]] 221 (0, 0))) := heap_alloc_new _ _
      have HBa : Hid (Below wr.heap.size wr (wr.alloc (.cells #[.int .i64 90, .func (.func 225) #[] #[]] 221))) := (Below.refl _ wr).alloc (Nat.le_refl _) _
      obtain ⟨c0, c1, c2⟩ := HIA.out #[.int .i64 90, .func (.func 225) #[] #[]] 221
      cases hq : windowsBad V with
      | false =>
        rw [hq] at HC
        have HL2 : Hid (L = errsTo V 1) := by rw [Hid, HT.out, HL.out]; simp [bads, hq]
        clear hq
        go_wp2_with fail
        refine (HC.out).mono ?_
        rintro e w2 ⟨rfl, hb2⟩
        have Bw := HBa.out.trans (hb2.mono HBa.out.size)
        have HO2 := Lib.hid (HO.out.stay Bw)
        have HB2 := Lib.hid (HB.out.trans (Bw.mono HB.out.size))
        clear hb2 Bw
        go_wp2_with fail
        go_roundw
        case rel => exact ⟨1, a, L, c, HL2.out, by have := HLK.out; omega, by omega, rfl, by go_num, HO2.out, HB2.out⟩
        case measure => simp [intOf]
      | true =>
        rw [hq] at HC
        have HL2 : Hid (L ++ [90] = errsTo V 1) := by rw [Hid, HT.out, HL.out]; simp [bads, hq]
        clear hq
        go_wp2_with fail
        refine (HC.out).mono ?_
        rintro e w2 ⟨rfl, hb2⟩
        have Bw := HBa.out.trans (hb2.mono HBa.out.size)
        have HO2 := Lib.hid (HO.out.stay Bw)
        have HB2 := Lib.hid (HB.out.trans (Bw.mono HB.out.size))
        have e2 := (hb2.block wr.heap.size (by simp)).trans HN.out
        have k0 := cells_of e2 0 rfl
        clear hb2 Bw e2
        go_wp2_with ((with_reducible refine wpList_vapp1 (o := ⟨some 18, .call _, _, _, _, _⟩) etE cZ_len cZ_one (y := 90) (.tmp 14) (.tmp 17) (by with_unfolding_all rfl) (by with_unfolding_all rfl) HO2.out (by with_unfolding_all rfl) (by have := HLK.out; omega) HB2.out.size (by with_unfolding_all rfl) (by with_unfolding_all rfl) ?_); intro a4 c4 w4 hO4 hg4 hn4; have HO4 := Lib.hid hO4; have HB4 := Lib.hid (HB2.out.trans (HO2.out.grown hg4 HB2.out.size)); clear hO4 hg4 hn4)
        go_roundw
        case rel => exact ⟨1, a4, L ++ [90], c4, HL2.out, by have := HLK.out; rw [List.length_append, List.length_singleton]; omega, by omega, by simp, by go_num, HO4.out, HB4.out⟩
        case measure => simp [intOf]
    by_cases hk1 : k = 1
    · subst hk1
      have HT := Lib.hid (errsTo_succ V 1 (show 1 < 5 by decide))
      have HC := Lib.hid (parts_calls (wr.alloc (.cells #[.int .i64 120, .func (.func 226) #[] #[]] 221)) V (HVA.out _ _))
      have HN : Hid ((wr.alloc (.cells #[.int .i64 120, .func (.func 226) #[] #[]] 221)).heap[wr.heap.size]? = some (.cells #[.int .i64 120, .func (.func 226) #[] #[]] 221 (0, 0))) := heap_alloc_new _ _
      have HBa : Hid (Below wr.heap.size wr (wr.alloc (.cells #[.int .i64 120, .func (.func 226) #[] #[]] 221))) := (Below.refl _ wr).alloc (Nat.le_refl _) _
      obtain ⟨c0, c1, c2⟩ := HIA.out #[.int .i64 120, .func (.func 226) #[] #[]] 221
      cases hq : partsBad V.ps with
      | false =>
        rw [hq] at HC
        have HL2 : Hid (L = errsTo V 2) := by rw [Hid, HT.out, HL.out]; simp [bads, hq]
        clear hq
        go_wp2_with fail
        refine (HC.out).mono ?_
        rintro e w2 ⟨rfl, hb2⟩
        have Bw := HBa.out.trans (hb2.mono HBa.out.size)
        have HO2 := Lib.hid (HO.out.stay Bw)
        have HB2 := Lib.hid (HB.out.trans (Bw.mono HB.out.size))
        clear hb2 Bw
        go_wp2_with fail
        go_roundw
        case rel => exact ⟨2, a, L, c, HL2.out, by have := HLK.out; omega, by omega, rfl, by go_num, HO2.out, HB2.out⟩
        case measure => simp [intOf]
      | true =>
        rw [hq] at HC
        have HL2 : Hid (L ++ [120] = errsTo V 2) := by rw [Hid, HT.out, HL.out]; simp [bads, hq]
        clear hq
        go_wp2_with fail
        refine (HC.out).mono ?_
        rintro e w2 ⟨rfl, hb2⟩
        have Bw := HBa.out.trans (hb2.mono HBa.out.size)
        have HO2 := Lib.hid (HO.out.stay Bw)
        have HB2 := Lib.hid (HB.out.trans (Bw.mono HB.out.size))
        have e2 := (hb2.block wr.heap.size (by simp)).trans HN.out
        have k0 := cells_of e2 0 rfl
        clear hb2 Bw e2
        go_wp2_with ((with_reducible refine wpList_vapp1 (o := ⟨some 18, .call _, _, _, _, _⟩) etE cZ_len cZ_one (y := 120) (.tmp 14) (.tmp 17) (by with_unfolding_all rfl) (by with_unfolding_all rfl) HO2.out (by with_unfolding_all rfl) (by have := HLK.out; omega) HB2.out.size (by with_unfolding_all rfl) (by with_unfolding_all rfl) ?_); intro a4 c4 w4 hO4 hg4 hn4; have HO4 := Lib.hid hO4; have HB4 := Lib.hid (HB2.out.trans (HO2.out.grown hg4 HB2.out.size)); clear hO4 hg4 hn4)
        go_roundw
        case rel => exact ⟨2, a4, L ++ [120], c4, HL2.out, by have := HLK.out; rw [List.length_append, List.length_singleton]; omega, by omega, by simp, by go_num, HO4.out, HB4.out⟩
        case measure => simp [intOf]
    by_cases hk2 : k = 2
    · subst hk2
      have HT := Lib.hid (errsTo_succ V 2 (show 2 < 5 by decide))
      have HC := Lib.hid (regions_calls (wr.alloc (.cells #[.int .i64 80, .func (.func 227) #[] #[]] 221)) V (HVA.out _ _))
      have HN : Hid ((wr.alloc (.cells #[.int .i64 80, .func (.func 227) #[] #[]] 221)).heap[wr.heap.size]? = some (.cells #[.int .i64 80, .func (.func 227) #[] #[]] 221 (0, 0))) := heap_alloc_new _ _
      have HBa : Hid (Below wr.heap.size wr (wr.alloc (.cells #[.int .i64 80, .func (.func 227) #[] #[]] 221))) := (Below.refl _ wr).alloc (Nat.le_refl _) _
      obtain ⟨c0, c1, c2⟩ := HIA.out #[.int .i64 80, .func (.func 227) #[] #[]] 221
      cases hq : regionsBad V.ps with
      | false =>
        rw [hq] at HC
        have HL2 : Hid (L = errsTo V 3) := by rw [Hid, HT.out, HL.out]; simp [bads, hq]
        clear hq
        go_wp2_with fail
        refine (HC.out).mono ?_
        rintro e w2 ⟨rfl, hb2⟩
        have Bw := HBa.out.trans (hb2.mono HBa.out.size)
        have HO2 := Lib.hid (HO.out.stay Bw)
        have HB2 := Lib.hid (HB.out.trans (Bw.mono HB.out.size))
        clear hb2 Bw
        go_wp2_with fail
        go_roundw
        case rel => exact ⟨3, a, L, c, HL2.out, by have := HLK.out; omega, by omega, rfl, by go_num, HO2.out, HB2.out⟩
        case measure => simp [intOf]
      | true =>
        rw [hq] at HC
        have HL2 : Hid (L ++ [80] = errsTo V 3) := by rw [Hid, HT.out, HL.out]; simp [bads, hq]
        clear hq
        go_wp2_with fail
        refine (HC.out).mono ?_
        rintro e w2 ⟨rfl, hb2⟩
        have Bw := HBa.out.trans (hb2.mono HBa.out.size)
        have HO2 := Lib.hid (HO.out.stay Bw)
        have HB2 := Lib.hid (HB.out.trans (Bw.mono HB.out.size))
        have e2 := (hb2.block wr.heap.size (by simp)).trans HN.out
        have k0 := cells_of e2 0 rfl
        clear hb2 Bw e2
        go_wp2_with ((with_reducible refine wpList_vapp1 (o := ⟨some 18, .call _, _, _, _, _⟩) etE cZ_len cZ_one (y := 80) (.tmp 14) (.tmp 17) (by with_unfolding_all rfl) (by with_unfolding_all rfl) HO2.out (by with_unfolding_all rfl) (by have := HLK.out; omega) HB2.out.size (by with_unfolding_all rfl) (by with_unfolding_all rfl) ?_); intro a4 c4 w4 hO4 hg4 hn4; have HO4 := Lib.hid hO4; have HB4 := Lib.hid (HB2.out.trans (HO2.out.grown hg4 HB2.out.size)); clear hO4 hg4 hn4)
        go_roundw
        case rel => exact ⟨3, a4, L ++ [80], c4, HL2.out, by have := HLK.out; rw [List.length_append, List.length_singleton]; omega, by omega, by simp, by go_num, HO4.out, HB4.out⟩
        case measure => simp [intOf]
    by_cases hk3 : k = 3
    · subst hk3
      have HT := Lib.hid (errsTo_succ V 3 (show 3 < 5 by decide))
      have HC := Lib.hid (overlap_calls (wr.alloc (.cells #[.int .i64 121, .func (.func 228) #[] #[]] 221)) V (HVA.out _ _) hs)
      have HN : Hid ((wr.alloc (.cells #[.int .i64 121, .func (.func 228) #[] #[]] 221)).heap[wr.heap.size]? = some (.cells #[.int .i64 121, .func (.func 228) #[] #[]] 221 (0, 0))) := heap_alloc_new _ _
      have HBa : Hid (Below wr.heap.size wr (wr.alloc (.cells #[.int .i64 121, .func (.func 228) #[] #[]] 221))) := (Below.refl _ wr).alloc (Nat.le_refl _) _
      obtain ⟨c0, c1, c2⟩ := HIA.out #[.int .i64 121, .func (.func 228) #[] #[]] 221
      cases hq : overlapBad V.ps with
      | false =>
        rw [hq] at HC
        have HL2 : Hid (L = errsTo V 4) := by rw [Hid, HT.out, HL.out]; simp [bads, hq]
        clear hq
        go_wp2_with fail
        refine (HC.out).mono ?_
        rintro e w2 ⟨rfl, hb2⟩
        have Bw := HBa.out.trans (hb2.mono HBa.out.size)
        have HO2 := Lib.hid (HO.out.stay Bw)
        have HB2 := Lib.hid (HB.out.trans (Bw.mono HB.out.size))
        clear hb2 Bw
        go_wp2_with fail
        go_roundw
        case rel => exact ⟨4, a, L, c, HL2.out, by have := HLK.out; omega, by omega, rfl, by go_num, HO2.out, HB2.out⟩
        case measure => simp [intOf]
      | true =>
        rw [hq] at HC
        have HL2 : Hid (L ++ [121] = errsTo V 4) := by rw [Hid, HT.out, HL.out]; simp [bads, hq]
        clear hq
        go_wp2_with fail
        refine (HC.out).mono ?_
        rintro e w2 ⟨rfl, hb2⟩
        have Bw := HBa.out.trans (hb2.mono HBa.out.size)
        have HO2 := Lib.hid (HO.out.stay Bw)
        have HB2 := Lib.hid (HB.out.trans (Bw.mono HB.out.size))
        have e2 := (hb2.block wr.heap.size (by simp)).trans HN.out
        have k0 := cells_of e2 0 rfl
        clear hb2 Bw e2
        go_wp2_with ((with_reducible refine wpList_vapp1 (o := ⟨some 18, .call _, _, _, _, _⟩) etE cZ_len cZ_one (y := 121) (.tmp 14) (.tmp 17) (by with_unfolding_all rfl) (by with_unfolding_all rfl) HO2.out (by with_unfolding_all rfl) (by have := HLK.out; omega) HB2.out.size (by with_unfolding_all rfl) (by with_unfolding_all rfl) ?_); intro a4 c4 w4 hO4 hg4 hn4; have HO4 := Lib.hid hO4; have HB4 := Lib.hid (HB2.out.trans (HO2.out.grown hg4 HB2.out.size)); clear hO4 hg4 hn4)
        go_roundw
        case rel => exact ⟨4, a4, L ++ [121], c4, HL2.out, by have := HLK.out; rw [List.length_append, List.length_singleton]; omega, by omega, by simp, by go_num, HO4.out, HB4.out⟩
        case measure => simp [intOf]
    by_cases hk4 : k = 4
    · subst hk4
      have HT := Lib.hid (errsTo_succ V 4 (show 4 < 5 by decide))
      have HC := Lib.hid (channels_calls (wr.alloc (.cells #[.int .i64 100, .func (.func 229) #[] #[]] 221)) V (HVA.out _ _) hs)
      have HN : Hid ((wr.alloc (.cells #[.int .i64 100, .func (.func 229) #[] #[]] 221)).heap[wr.heap.size]? = some (.cells #[.int .i64 100, .func (.func 229) #[] #[]] 221 (0, 0))) := heap_alloc_new _ _
      have HBa : Hid (Below wr.heap.size wr (wr.alloc (.cells #[.int .i64 100, .func (.func 229) #[] #[]] 221))) := (Below.refl _ wr).alloc (Nat.le_refl _) _
      obtain ⟨c0, c1, c2⟩ := HIA.out #[.int .i64 100, .func (.func 229) #[] #[]] 221
      cases hq : channelsBad V with
      | false =>
        rw [hq] at HC
        have HL2 : Hid (L = errsTo V 5) := by rw [Hid, HT.out, HL.out]; simp [bads, hq]
        clear hq
        go_wp2_with fail
        refine (HC.out).mono ?_
        rintro e w2 ⟨rfl, hb2⟩
        have Bw := HBa.out.trans (hb2.mono HBa.out.size)
        have HO2 := Lib.hid (HO.out.stay Bw)
        have HB2 := Lib.hid (HB.out.trans (Bw.mono HB.out.size))
        clear hb2 Bw
        go_wp2_with fail
        go_roundw
        case rel => exact ⟨5, a, L, c, HL2.out, by have := HLK.out; omega, by omega, rfl, by go_num, HO2.out, HB2.out⟩
        case measure => simp [intOf]
      | true =>
        rw [hq] at HC
        have HL2 : Hid (L ++ [100] = errsTo V 5) := by rw [Hid, HT.out, HL.out]; simp [bads, hq]
        clear hq
        go_wp2_with fail
        refine (HC.out).mono ?_
        rintro e w2 ⟨rfl, hb2⟩
        have Bw := HBa.out.trans (hb2.mono HBa.out.size)
        have HO2 := Lib.hid (HO.out.stay Bw)
        have HB2 := Lib.hid (HB.out.trans (Bw.mono HB.out.size))
        have e2 := (hb2.block wr.heap.size (by simp)).trans HN.out
        have k0 := cells_of e2 0 rfl
        clear hb2 Bw e2
        go_wp2_with ((with_reducible refine wpList_vapp1 (o := ⟨some 18, .call _, _, _, _, _⟩) etE cZ_len cZ_one (y := 100) (.tmp 14) (.tmp 17) (by with_unfolding_all rfl) (by with_unfolding_all rfl) HO2.out (by with_unfolding_all rfl) (by have := HLK.out; omega) HB2.out.size (by with_unfolding_all rfl) (by with_unfolding_all rfl) ?_); intro a4 c4 w4 hO4 hg4 hn4; have HO4 := Lib.hid hO4; have HB4 := Lib.hid (HB2.out.trans (HO2.out.grown hg4 HB2.out.size)); clear hO4 hg4 hn4)
        go_roundw
        case rel => exact ⟨5, a4, L ++ [100], c4, HL2.out, by have := HLK.out; rw [List.length_append, List.length_singleton]; omega, by omega, by simp, by go_num, HO4.out, HB4.out⟩
        case measure => simp [intOf]
    have hk5 : k = 5 := by omega
    subst hk5
    have HF : Hid (L = R) := by rw [Hid, HL.out, HR.out]; rfl
    go_wp2_with fail
    go_ret
    exact ⟨a, c, by rw [HF.out]; rfl, by have := HO.out.low HB0.out.size; rwa [HF.out] at this, HB0.out.trans (HB.out.mono HB0.out.size)⟩

end Go.Proofs.YtlholdllibghbaaGreat

/- valid.Check, Fits: walked. -/
namespace Go.Proofs.YtlholdllibghbaaGreat
open Go Go.RowKit Go.Cit

def chkV (V : CfgV) : Int := (errs V).head?.getD 0
theorem errs_ne (V : CfgV) : ∀ e ∈ errs V, e ≠ 0 := by
  intro e he
  unfold errs errsTo at he
  obtain ⟨x, hx, rfl⟩ := List.mem_map.1 he
  have hx := List.mem_of_mem_take (List.mem_filter.1 hx).1
  simp [bads] at hx
  rcases hx with rfl | rfl | rfl | rfl | rfl <;> simp
theorem chkV_zero (V : CfgV) : (chkV V = 0) = (errs V = []) := by
  have h := errs_ne V
  unfold chkV
  cases he : errs V with
  | nil => simp
  | cons x l => simp; exact h x (by rw [he]; simp)
theorem errs_len (V : CfgV) : (errs V).length ≤ 5 := errsTo_len V 5
set_option maxRecDepth 100000 in
set_option maxHeartbeats 2000000 in
theorem vcheck_calls (w : World) (V : CfgV) (h : V.At w) (hs : SmallV V) : Calls Tryz.prog 36 #[.agg #[.slice V.wa V.ws.length V.wc, .slice V.pa V.ps.length V.pc, .slice V.ca V.cs.length V.cc]] w fun e w' => e = .returned (.int .i64 (chkV V)) ∧ Below w.heap.size w w' := by
  have B0 : Below w.heap.size w (w.alloc (.cells #[.slice V.wa V.ws.length V.wc, .slice V.pa V.ps.length V.pc, .slice V.ca V.cs.length V.cc] 26)) := (Below.refl _ w).alloc (Nat.le_refl _) _
  have HC := Lib.hid (vall_calls _ V (h.stay B0) hs)
  have HB0 := Lib.hid B0
  obtain ⟨L, hL⟩ : ∃ L, Hid (L = errs V) := ⟨_, rfl⟩
  have HR : Hid (chkV V = L.head?.getD 0) := by rw [Hid, hL.out]; rfl
  have HLL : L.length ≤ 5 := by rw [hL.out]; exact errs_len V
  obtain ⟨R, HR2⟩ : ∃ R, Hid (R = chkV V) := ⟨_, rfl⟩
  rw [← hL.out] at HC
  rw [← HR2.out] at HR ⊢
  clear h B0
  cases L with
  | nil =>
    have HRZ : Hid (R = 0) := by rw [Hid, HR.out]; rfl
    go_enter Tryz.func36, Tryz.ntmps36
    go_wp2_with fail
    refine (HC.out).mono ?_
    rintro e w2 ⟨a, c, rfl, hO, hb2⟩
    have HB2 := Lib.hid (HB0.out.trans (hb2.mono HB0.out.size))
    clear hO hb2
    go_wp2_with fail
    go_loopw [8] (fun s wr => s = .int .i64 0 ∧ wr = w2) (fun _ _ => 0)
    case atStart => exact ⟨rfl, rfl⟩
    case round =>
      obtain ⟨rfl, hwr⟩ := hrel
      subst hwr
      go_wp2_with fail
      go_ret
      exact ⟨ret_int HRZ.out.symm, HB2.out⟩
  | cons z L =>
    have HRZ : Hid (R = z) := by rw [Hid, HR.out]; rfl
    go_enter Tryz.func36, Tryz.ntmps36
    go_wp2_with fail
    refine (HC.out).mono ?_
    rintro e w2 ⟨a, c, rfl, hO, hb2⟩
    have HB2 := Lib.hid (HB0.out.trans (hb2.mono HB0.out.size))
    have hv := hO.vec cZ_len
    have i0 := hv.index etE 0 (by simp)
    have d0 := hv.field0 0 (by simp) (by decide) rfl
    rw [show ((0 : Nat) : Int) = 0 from rfl, Nat.zero_mul, List.length_cons] at i0
    rw [Nat.zero_mul] at d0
    clear hO hb2 hv
    go_wp2_with fail
    go_loopw [8] (fun s wr => s = .int .i64 0 ∧ wr = w2) (fun _ _ => 0)
    case atStart => exact ⟨rfl, rfl⟩
    case round =>
      obtain ⟨rfl, hwr⟩ := hrel
      subst hwr
      go_wp2_with fail
      go_ret
      exact ⟨ret_int HRZ.out.symm, HB2.out⟩

def fitsV (V : CfgV) : Bool := decide (errs V = [])
theorem fits_calls (w : World) (V : CfgV) (h : V.At w) (hs : SmallV V) : Calls Tryz.prog 11 #[.agg #[.slice V.wa V.ws.length V.wc, .slice V.pa V.ps.length V.pc, .slice V.ca V.cs.length V.cc]] w fun e w' => e = .returned (.bool (fitsV V)) ∧ Below w.heap.size w w' := by
  have B0 : Below w.heap.size w (w.alloc (.cells #[.slice V.wa V.ws.length V.wc, .slice V.pa V.ps.length V.pc, .slice V.ca V.cs.length V.cc] 26)) := (Below.refl _ w).alloc (Nat.le_refl _) _
  have HC := Lib.hid (vcheck_calls _ V (h.stay B0) hs)
  have HB0 := Lib.hid B0
  have HF : Hid (fitsV V = decide (chkV V = 0)) := by rw [Hid, fitsV]; exact decide_eq_decide.2 (by rw [chkV_zero])
  obtain ⟨R, HR⟩ : ∃ R, Hid (R = fitsV V) := ⟨_, rfl⟩
  obtain ⟨z, hz⟩ : ∃ z, Hid (z = chkV V) := ⟨_, rfl⟩
  rw [← HR.out, ← hz.out] at HF
  rw [← hz.out] at HC
  rw [← HR.out]
  clear h B0
  go_enter Tryz.func11, Tryz.ntmps11
  go_wp2_with fail
  refine (HC.out).mono ?_
  rintro e w2 ⟨rfl, hb2⟩
  have HB2 := Lib.hid (HB0.out.trans (hb2.mono HB0.out.size))
  clear hb2
  go_wp2_with fail
  go_ret
  exact ⟨ret_bool (by rw [HF.out]; rfl), HB2.out⟩
end Go.Proofs.YtlholdllibghbaaGreat

/- Arrays of bytes, of words, compared. No condition. -/
namespace Go.Cit
open Go Go.RowKit

theorem mapM_some {α β : Type} {f : α → Option β} {g : α → β} : ∀ l : List α, (∀ i ∈ l, f i = some (g i)) → l.mapM f = some (l.map g)
  | [], _ => rfl
  | i :: l, h => by
    rw [List.mapM_cons, h i (by simp), mapM_some l (fun j hj => h j (by simp [hj]))]
    rfl
section
variable {P : Program} {T E : TypeId} {n : Nat} {k : IntKind}
structure IntsType (P : Program) (T E : TypeId) (n : Nat) (k : IntKind) : Prop where
  arr : P.underlying T = some (.array n E)
  int : P.underlying E = some (.int k)
  cells : P.cellsOf T = n
  one : P.cellsOf E = 1
  key : P.keyTypeAt 2 T = true
  guard : P.eqGuardType P.depth T = false

theorem keyLits_ints (h : IntsType P T E n k) (zs : List Int) (hl : zs.length = n) (hw : ∀ z ∈ zs, (Lit.int k z).wf = true) : P.keyLits 2 T (zs.map (Value.int k)) = some (zs.map (Lit.int k)) := by
  unfold Program.keyLits
  simp only [h.arr]
  rw [if_pos (by rw [List.length_map, h.cells, hl])]
  have e : (List.range n).mapM (fun i => P.keyLits 1 E (((zs.map (Value.int k)).drop (i * P.cellsOf E)).take (P.cellsOf E))) = some ((List.range n).map fun i => [Lit.int k (zs.getD i 0)]) := by
    refine mapM_some _ fun i hi => ?_
    have hi' : i < zs.length := by rw [hl]; exact List.mem_range.1 hi
    rw [h.one, Nat.mul_one, List.drop_eq_getElem_cons (by simpa using hi'), List.take_succ_cons, List.take_zero]
    unfold Program.keyLits
    simp only [h.int]
    rw [List.getElem_map]
    simp only [hw _ (List.getElem_mem hi'), and_self, if_true]
    simp [hi']
  rw [e]
  simp only [Option.map_some, Option.some.injEq]
  have hfl : ∀ l : List Nat, (l.map fun i => [Lit.int k (zs.getD i 0)]).flatten = l.map fun i => Lit.int k (zs.getD i 0) := by
    intro l
    induction l with
    | nil => rfl
    | cons a l ih => rw [List.map_cons, List.flatten_cons, ih]; rfl
  rw [hfl]
  apply List.ext_getElem
  · simp [hl]
  · intro i h1 h2
    have hi : i < zs.length := by simpa using h2
    simp [hi]
theorem run_eq_ints (h : IntsType P T E n k) (zs ys : List Int) (hl : zs.length = n) (hm : ys.length = n) (hw : ∀ z ∈ zs, (Lit.int k z).wf = true) (hv : ∀ z ∈ ys, (Lit.int k z).wf = true) (w : World) :
    (Op.equalIn 10000 T (.agg (zs.map (Value.int k)).toArray) (.agg (ys.map (Value.int k)).toArray)).run P w = .ok (decide (zs = ys)) w := by
  have hf : ∀ l : List Int, l.length = n → (Value.agg (l.map (Value.int k)).toArray).formed P T = true := by
    intro l hl
    simp [Value.formed, h.arr, h.cells, hl]
  obtain ⟨r, hr, hiff⟩ := run_equalIn_deep (P := P) 9998 2 T h.key w 2 2 _ _ _ _ (hf zs hl) (hf ys hm) (by simpa [Value.cells] using keyLits_ints h zs hl hw) (by simpa [Value.cells] using keyLits_ints h ys hm hv)
  have hinj : (zs.map (Lit.int k) = ys.map (Lit.int k)) ↔ zs = ys := by
    constructor
    · intro e
      exact (List.map_inj_right (by intro a b hab; injection hab)).1 e
    · rintro rfl; rfl
  rw [hinj] at hiff
  rw [hr]
  congr 1
  rw [Bool.eq_iff_iff, decide_eq_true_iff]; exact hiff
end
section
variable {P : Program} {T E : TypeId} {n : Nat}
theorem run_eq_bytes (h : IntsType P T E n .u8) (l m : List UInt8) (hl : l.length = n) (hm : m.length = n) (w : World) :
    (Op.equalIn 10000 T (.agg (l.map vb).toArray) (.agg (m.map vb).toArray)).run P w = .ok (decide (l = m)) w := by
  have wf : ∀ l : List UInt8, ∀ z ∈ l.map (fun x => (x.toNat : Int)), (Lit.int .u8 z).wf = true := by
    intro l z hz
    obtain ⟨x, _, rfl⟩ := List.mem_map.1 hz
    have := b_lt x
    simp [Lit.wf, IntKind.min, IntKind.max, IntKind.bits, IntKind.signed]; omega
  have := run_eq_ints h (l.map fun x => (x.toNat : Int)) (m.map fun x => (x.toNat : Int)) (by simpa using hl) (by simpa using hm) (wf l) (wf m) w
  rw [List.map_map, List.map_map] at this
  refine this.trans ?_
  congr 1
  rw [Bool.eq_iff_iff, decide_eq_true_iff, decide_eq_true_iff]
  exact List.map_inj_right (by intro a b hab; exact UInt8.toNat_inj.1 (by omega))
end
section
variable {P : Program} {T : TypeId} {C D : Array Value} {r : Bool}
theorem run_eql_op (hg : P.eqGuardType P.depth T = false) (x y : Operand) (h : ∀ w, (Op.equalIn 10000 T (.agg C) (.agg D)).run P w = .ok r w) : ∀ w, (do eqGuard .eql T x y (.agg C) (.agg D); binOp .eql T (.agg C) (.agg D) : Sem Value).run P w = .ok (.bool r) w := by
  intro w
  rw [Sem.run_bind, run_eqGuard_agg w .eql T x y C D hg]
  simp only [Result.andThen_ok, run_eql_struct, h]
theorem run_neq_op (hg : P.eqGuardType P.depth T = false) (x y : Operand) (h : ∀ w, (Op.equalIn 10000 T (.agg C) (.agg D)).run P w = .ok r w) : ∀ w, (do eqGuard .neq T x y (.agg C) (.agg D); binOp .neq T (.agg C) (.agg D) : Sem Value).run P w = .ok (.bool (!r)) w := by
  intro w
  rw [Sem.run_bind, run_eqGuard_agg w .neq T x y C D hg]
  simp only [Result.andThen_ok, run_neq_struct, h]
end
end Go.Cit

/- Great, SamePart of chapter 11's law and reference: walked. -/
namespace Go.Proofs.YtlholdllibghbaaGreat
open Go Go.RowKit Go.Cit

theorem row_str {w : World} {a : Option Addr} {l : List UInt8} {cap : Nat} (h : Row w a l cap) : (convert 40 9 (.slice a l.length cap)).run Tryz.prog w = .ok (.string ⟨l.toArray⟩) w := by
  have he : Tryz.prog.underlying 5 = some (.int .u8) := Tryz.underlying5
  rcases Nat.eq_zero_or_pos l.length with h0 | h0
  · obtain rfl : l = [] := List.eq_nil_of_length_eq_zero h0
    cases a with
    | none =>
      rw [run_convert_bytes_string w _ _ 5 none _ cap btP.slice he Tryz.underlying9]
      simp [Conv.bytesToString, Sem.run_pure]; rfl
    | some x =>
      exact run_convert_bytes_back w _ _ 5 x cap [] btP.slice he Tryz.underlying9 (fun j hj => by simp at hj)
  · obtain ⟨b, o, rfl⟩ := h.spot (by intro h1; simp [h1] at h0)
    refine run_convert_bytes_back w _ _ 5 ⟨b, o, none⟩ cap l btP.slice he Tryz.underlying9 (fun j hj => ?_)
    have ea : (⟨b, o, none⟩ : Addr).add j = ad (some ⟨b, o, none⟩) j := by unfold Addr.add ad; split <;> simp_all
    rw [ea]; exact h.cell j hj

theorem eqIn_reg (a b c d : Int) (w : World) : (Op.equalIn 10000 44 (.agg #[.int .i64 a, .int .i64 b]) (.agg #[.int .i64 c, .int .i64 d])).run Tryz.prog w = .ok (decide (a = c ∧ b = d)) w := by
  have hS : Tryz.prog.underlying 44 = some (.struct (Tryz.prog.fieldsOf 44)) := by kernel_rfl
  have hp : Tryz.prog.stoodInHeld 44 = false := by kernel_rfl
  rw [show (10000 : Nat) = 9999 + 1 from rfl, run_equalIn_agg w 9999 _ _ _ hS hp]
  simp only [Program.fieldsOf, Tryz.underlying44]
  go_simp
  by_cases h1 : a = c <;> by_cases h2 : b = d <;> simp [h1, h2]
theorem eqIn_win (a b c d : Int) (w : World) : (Op.equalIn 10000 77 (.agg #[.int .i64 a, .int .i64 b]) (.agg #[.int .i64 c, .int .i64 d])).run Tryz.prog w = .ok (decide (a = c ∧ b = d)) w := by
  have hS : Tryz.prog.underlying 77 = some (.struct (Tryz.prog.fieldsOf 77)) := by kernel_rfl
  have hp : Tryz.prog.stoodInHeld 77 = false := by kernel_rfl
  rw [show (10000 : Nat) = 9999 + 1 from rfl, run_equalIn_agg w 9999 _ _ _ hS hp]
  simp only [Program.fieldsOf, Tryz.underlying77]
  go_simp
  by_cases h1 : a = c <;> by_cases h2 : b = d <;> simp [h1, h2]
set_option maxHeartbeats 1000000 in
theorem eqIn_ch (a b c d e a' b' c' d' e' : Int) (w : World) : (Op.equalIn 10000 48 (.agg #[.int .i64 a, .int .i64 b, .int .i64 c, .int .i64 d, .int .i64 e]) (.agg #[.int .i64 a', .int .i64 b', .int .i64 c', .int .i64 d', .int .i64 e'])).run Tryz.prog w = .ok (decide (a = a' ∧ b = b' ∧ c = c' ∧ d = d' ∧ e = e')) w := by
  have hS : Tryz.prog.underlying 48 = some (.struct (Tryz.prog.fieldsOf 48)) := by kernel_rfl
  have hp : Tryz.prog.stoodInHeld 48 = false := by kernel_rfl
  rw [show (10000 : Nat) = 9999 + 1 from rfl, run_equalIn_agg w 9999 _ _ _ hS hp]
  simp only [Program.fieldsOf, Tryz.underlying48]
  go_simp
  by_cases h1 : a = a' <;> by_cases h2 : b = b' <;> by_cases h3 : c = c' <;> by_cases h4 : d = d' <;> by_cases h5 : e = e' <;> simp [h1, h2, h3, h4, h5]
theorem gdR : Tryz.prog.eqGuardType Tryz.prog.depth 44 = false := by kernel_rfl
theorem gdW : Tryz.prog.eqGuardType Tryz.prog.depth 77 = false := by kernel_rfl
theorem gdC : Tryz.prog.eqGuardType Tryz.prog.depth 48 = false := by kernel_rfl

/-! Great. -/
def totI (ps : List PtV) : Nat := (ps.map fun x => x.img.length).sum
theorem totI_take (ps : List PtV) (k : Nat) (h : k < ps.length) : totI (ps.take (k + 1)) = totI (ps.take k) + ps[k].img.length := by
  rw [totI, totI, List.take_succ_eq_append_getElem h, List.map_append, List.sum_append]; simp
theorem totI_le (ps : List PtV) : ∀ x ∈ ps, x.img.length ≤ totI ps := by
  induction ps with
  | nil => intro x hx; simp at hx
  | cons y ps ih =>
    intro x hx
    simp only [totI, List.map_cons, List.sum_cons] at ih ⊢
    rcases List.mem_cons.1 hx with rfl | h
    · omega
    · have := ih x h; omega
def greatV (V : CfgV) : Bool := decide (40 < V.ws.length ∨ 20 < V.ps.length ∨ 40 < V.cs.length) || decide (8000 < totI V.ps)
theorem small_of {V : CfgV} (h : greatV V = false) : SmallV V := by
  unfold greatV at h
  rw [Bool.or_eq_false_iff, decide_eq_false_iff_not, decide_eq_false_iff_not] at h
  refine ⟨by omega, by omega, by omega, fun x hx => ?_⟩
  have := totI_le V.ps x hx
  omega
set_option maxRecDepth 100000 in
set_option maxHeartbeats 1000000 in
theorem cgreat_calls (w : World) (V : CfgV) (h : V.At w) (hb : ∀ x ∈ V.ps, x.img.length ≤ 140737488351232) : Calls Tryz.prog 8 #[.agg #[.slice V.wa V.ws.length V.wc, .slice V.pa V.ps.length V.pc, .slice V.ca V.cs.length V.cc]] w fun e w' => e = .returned (.bool (greatV V)) ∧ Below w.heap.size w w' := by
  obtain ⟨R, HR⟩ : ∃ R, Hid (R = greatV V) := ⟨_, rfl⟩
  rw [← HR.out]
  obtain ⟨w0, hw0⟩ : ∃ w0, w0 = w.alloc (.cells #[.slice V.wa V.ws.length V.wc, .slice V.pa V.ps.length V.pc, .slice V.ca V.cs.length V.cc] 26) := ⟨_, rfl⟩
  have B0 : Below w.heap.size w w0 := by rw [hw0]; exact (Below.refl _ w).alloc (Nat.le_refl _) _
  have hI : InBox w0 w.heap.size V := by rw [hw0]; exact inBox_new w V _
  have hl1 := h.win.len_le
  have hl2 := h.pts.len_le
  have hl3 := h.chs.len_le
  have HV := Lib.hid (h.stay B0)
  obtain ⟨c0, c1, c2⟩ := hI
  have HB0 := Lib.hid B0
  have HBG := Lib.hid hb
  clear h B0 hb
  by_cases hg : 40 < V.ws.length ∨ 20 < V.ps.length ∨ 40 < V.cs.length
  · have HF : Hid (R = true) := by rw [Hid, HR.out, greatV, decide_eq_true hg]; rfl
    have HG := Lib.hid hg
    clear hg
    go_enter Tryz.func8, Tryz.ntmps8
    go_wp2_with fail
    all_goals first
      | (rw [← hw0]; go_ret; exact ⟨ret_bool HF.out.symm, HB0.out⟩)
      | (exfalso; have := HG.out; omega)
  · have HF : Hid (R = decide (8000 < totI V.ps)) := by rw [Hid, HR.out, greatV, decide_eq_false hg]; rfl
    have h1 : V.ws.length ≤ 40 := by omega
    have h2 : V.ps.length ≤ 20 := by omega
    have h3 : V.cs.length ≤ 40 := by omega
    clear hg
    go_enter Tryz.func8, Tryz.ntmps8
    go_wp2_with fail
    rw [← hw0]
    clear hw0
    go_wp2_with fail
    go_loopw [3, 4] (fun n i wr => ∃ (k m : Nat), Hid (m = totI (V.ps.take k)) ∧ k ≤ V.ps.length ∧ m ≤ 140737488351232 * k ∧ n = .int .i64 m ∧ i = .int .i64 k ∧ Below w0.heap.size w0 wr) (fun _ i _ => V.ps.length - (intOf i).toNat)
    case atStart => exact ⟨0, 0, rfl, Nat.zero_le _, by omega, rfl, rfl, Below.refl _ _⟩
    case round =>
      obtain ⟨k, m, hm, hk, hmb, rfl, rfl, B⟩ := hrel
      have c0 := keep B c0
      have c1 := keep B c1
      have c2 := keep B c2
      by_cases hlt : k < V.ps.length
      · have i0 := HV.out.pts.index etP k hlt
        obtain ⟨u0, u1, u2, u3, u4⟩ := pts_cells HV.out.pts B k hlt
        have HT := Lib.hid (totI_take V.ps k hlt)
        have hb1 := HBG.out V.ps[k] (List.getElem_mem hlt)
        have hb2 : 140737488351232 * k ≤ 140737488351232 * 20 := by omega
        go_wp2_with fail
        go_roundw
        case rel => exact ⟨k + 1, m + V.ps[k].img.length, by rw [Hid, HT.out, hm.out], by omega, by omega, by go_num, by go_num, B⟩
        case measure => simp [intOf]; omega
      · have hk2 : k = V.ps.length := by omega
        have HE : Hid (R = decide (8000 < m)) := by rw [Hid, HF.out, hm.out, hk2, List.take_length]
        clear hk2
        go_wp2_with fail
        go_ret
        exact ⟨ret_bool (by rw [HE.out]; exact decide_eq_decide.2 (by omega)), HB0.out.trans (B.mono HB0.out.size)⟩

/-! SamePart. -/
theorem pt_eq_iff (x y : PtV) : x.pt = y.pt ↔ x.id.1 = y.id.1 ∧ (x.reg.base.1 = y.reg.base.1 ∧ x.reg.size.1 = y.reg.size.1) ∧ x.keep = y.keep ∧ x.img = y.img := by
  obtain ⟨a, ⟨b, c⟩, d, e, f, g⟩ := x
  obtain ⟨a', ⟨b', c'⟩, d', e', f', g'⟩ := y
  simp only [PtV.pt, Pt.mk.injEq, Reg.mk.injEq, Subtype.ext_iff]
end Go.Proofs.YtlholdllibghbaaGreat

