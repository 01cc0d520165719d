/- ValidParts: walked. -/
import Derived.Test.YtpnbaapjjchlbaaGood
import Derived.Test.YtpnbaapjjchlbaaPartBox
import Derived.Test.YtpnbaapjjchlbaaPairs
import Derived.Test.YtpnbaapjjchlbaaLawValidChecks
import Derived.Test.YtpnbaapjjchlbaaAwk12
import Derived.Test.YtpnbaapjjchlbaaLawValid1
namespace Go.Proofs.Ytpnbaapjjchlbaa
open Go Go.RowKit Go.Cit

def vp9B : Boxes := ⟨1, fun _ => 11, fun _ => 12, fun _ => 5, fun _ => 43, fun _ => #[.int .i64 0, .int .i64 0, .int .i64 0, .bool false, .slice none 0 0]⟩
theorem nevp9 {n : Nat} {o : Option Nat} (h1 : n ≠ 11) (h2 : n ≠ 12) (h3 : o ≠ some 5) : ∀ j, j < vp9B.nb → n ≠ vp9B.ia j ∧ n ≠ vp9B.is_ j ∧ o ≠ some (vp9B.d j) := fun _ _ => ⟨h1, h2, h3⟩
def vp9T (V : CfgV) (B k : Nat) (i : Int) (Q : Pt) (d : Nat) (v : Value) (w : World) : Prop := match d with
  | 52 => v = (.agg #[.slice V.wa V.ws.length V.wc, .slice V.pa V.ps.length V.pc, .slice V.ca V.cs.length V.cc])
  | 53 => v = (.pointer (some ⟨B, 1, none⟩))
  | 54 => v = (.slice V.pa V.ps.length V.pc)
  | 55 => v = (.int .i64 (k : Int))
  | 56 => v = (.pointer (some (ad V.pa (k * 5))))
  | 57 => v = (.pointer (some (ad V.pa (k * 5))))
  | 58 => v = (.int .i64 i)
  | 59 => isTup (Q) (true) v w
  | 51 => isTup (Q) (true) v w
  | 60 => isPt (Q) v w
  | 61 => v = (.bool true)
  | 6 => v = (.bool true)
  | _ => True
theorem vp9T_bx (V : CfgV) (B k : Nat) (i : Int) (Q : Pt) {d : Nat} {v : Value} {W w w' : World} (hG : bxG vp9B W w w') (hyp : vp9T V B k i Q d v w) : vp9T V B k i Q d v w' := by
  have hne : ∀ j, j < vp9B.nb → (5 : Nat) ≠ vp9B.ty j := fun _ _ => neUP
  unfold vp9T at *
  split at hyp <;> first | exact hyp | exact isTup_bx hne hG hyp | exact isPt_bx hne hG hyp

def vp10 (V : CfgV) (B k p1 : Nat) (z : PtV) (a1 : Option Addr) (c9 : Nat) : Nat → Value
  | 62 => (.bool true)
  | 63 => (.bool (!true))
  | 64 => (.bool (!true))
  | 65 => (bif (!(!true)) then (.pointer (some ⟨p1, 1, none⟩)) else undef)
  | 66 => (bif (!(!true)) then (.agg #[.int .i64 z.reg.base.1, .int .i64 z.reg.size.1]) else undef)
  | 67 => (bif (!(!true)) then (.pointer (some ⟨B, 1, none⟩)) else undef)
  | 68 => (bif (!(!true)) then (.slice V.pa V.ps.length V.pc) else undef)
  | 69 => (bif (!(!true)) then (.int .i64 (k : Int)) else undef)
  | 70 => (bif (!(!true)) then (.pointer (some (ad V.pa (k * 5)))) else undef)
  | 71 => (bif (!(!true)) then (.pointer (some ⟨(ad V.pa (k * 5)).block, (ad V.pa (k * 5)).off + 1, none⟩)) else undef)
  | 72 => (bif (!(!true)) then (.agg #[.int .i64 z.reg.base.1, .int .i64 z.reg.size.1]) else undef)
  | 73 => (bif (!(!true)) then (.bool false) else undef)
  | 74 => (.bool ((!true) || false))
  | 75 => (.bool ((!true) || false))
  | 76 => (bif (!((!true) || false)) then (.pointer (some ⟨p1, 4, none⟩)) else undef)
  | 77 => (bif (!((!true) || false)) then (.slice a1 z.img.length c9) else undef)
  | 78 => (bif (!((!true) || false)) then (.int .i64 (z.img.length : Int)) else undef)
  | 79 => (bif (!((!true) || false)) then (.pointer (some ⟨p1, 1, none⟩)) else undef)
  | 80 => (bif (!((!true) || false)) then (.pointer (some ⟨p1, 2, none⟩)) else undef)
  | 81 => (bif (!((!true) || false)) then (.int .i64 z.reg.size.1) else undef)
  | 82 => (bif (!((!true) || false)) then (.bool false) else undef)
  | 83 => (.bool (((!true) || false) || false))
  | 84 => (.bool (((!true) || false) || false))
  | 85 => (bif (!(((!true) || false) || false)) then (.pointer (some ⟨p1, 0, none⟩)) else undef)
  | 86 => (bif (!(((!true) || false) || false)) then (.int .i64 z.id.1) else undef)
  | 87 => (bif (!(((!true) || false) || false)) then (.bool false) else undef)
  | 88 => (.bool ((((!true) || false) || false) || false))
  | 89 => (.bool ((((!true) || false) || false) || false))
  | 90 => (bif (!((((!true) || false) || false) || false)) then (.pointer (some ⟨p1, 0, none⟩)) else undef)
  | 91 => (bif (!((((!true) || false) || false) || false)) then (.int .i64 z.id.1) else undef)
  | 92 => (bif (!((((!true) || false) || false) || false)) then (.bool false) else undef)
  | 93 => (.bool (((((!true) || false) || false) || false) || false))
  | _ => undef
def vp10o (_ : CfgV) (B k p1 : Nat) (_ : PtV) (_ : Option Addr) (_ : Nat) : Nat → Value
  | 1 => (.pointer (some ⟨B, 0, none⟩))
  | 4 => (.int .i64 (k : Int))
  | 5 => (.pointer (some ⟨p1, 0, none⟩))
  | 6 => (.bool true)
  | _ => undef

def vp16B : Boxes := ⟨1, fun _ => 11, fun _ => 12, fun _ => 8, fun _ => 43, fun _ => #[.int .i64 0, .int .i64 0, .int .i64 0, .bool false, .slice none 0 0]⟩
theorem nevp16 {n : Nat} {o : Option Nat} (h1 : n ≠ 11) (h2 : n ≠ 12) (h3 : o ≠ some 8) : ∀ j, j < vp16B.nb → n ≠ vp16B.ia j ∧ n ≠ vp16B.is_ j ∧ o ≠ some (vp16B.d j) := fun _ _ => ⟨h1, h2, h3⟩
def vp16T (V : CfgV) (B k : Nat) (i : Int) (Q : Pt) (h : Bool) (d : Nat) (v : Value) (w : World) : Prop := match d with
  | 107 => v = (.agg #[.slice V.wa V.ws.length V.wc, .slice V.pa V.ps.length V.pc, .slice V.ca V.cs.length V.cc])
  | 108 => v = (.pointer (some ⟨B, 0, none⟩))
  | 109 => v = (.slice V.wa V.ws.length V.wc)
  | 110 => v = (.int .i64 (k : Int))
  | 111 => v = (.pointer (some (ad V.wa (k * 2))))
  | 112 => v = (.pointer (some ⟨(ad V.wa (k * 2)).block, (ad V.wa (k * 2)).off + 1, none⟩))
  | 113 => v = (.int .i64 i)
  | 114 => isTup (Q) (h) v w
  | 106 => isTup (Q) (h) v w
  | 115 => isPt (Q) v w
  | 116 => v = (.bool h)
  | 9 => v = (.bool h)
  | _ => True
theorem vp16T_bx (V : CfgV) (B k : Nat) (i : Int) (Q : Pt) (h : Bool) {d : Nat} {v : Value} {W w w' : World} (hG : bxG vp16B W w w') (hyp : vp16T V B k i Q h d v w) : vp16T V B k i Q h d v w' := by
  have hne : ∀ j, j < vp16B.nb → (5 : Nat) ≠ vp16B.ty j := fun _ _ => neUP
  unfold vp16T at *
  split at hyp <;> first | exact hyp | exact isTup_bx hne hG hyp | exact isPt_bx hne hG hyp

def vp22B : Boxes := ⟨1, fun _ => 11, fun _ => 12, fun _ => 11, fun _ => 43, fun _ => #[.int .i64 0, .int .i64 0, .int .i64 0, .bool false, .slice none 0 0]⟩
theorem nevp22 {n : Nat} {o : Option Nat} (h1 : n ≠ 11) (h2 : n ≠ 12) (h3 : o ≠ some 11) : ∀ j, j < vp22B.nb → n ≠ vp22B.ia j ∧ n ≠ vp22B.is_ j ∧ o ≠ some (vp22B.d j) := fun _ _ => ⟨h1, h2, h3⟩
def vp22T (V : CfgV) (B k : Nat) (i : Int) (Q : Pt) (d : Nat) (v : Value) (w : World) : Prop := match d with
  | 134 => v = (.agg #[.slice V.wa V.ws.length V.wc, .slice V.pa V.ps.length V.pc, .slice V.ca V.cs.length V.cc])
  | 135 => v = (.pointer (some ⟨B, 2, none⟩))
  | 136 => v = (.slice V.ca V.cs.length V.cc)
  | 137 => v = (.int .i64 (k : Int))
  | 138 => v = (.pointer (some (ad V.ca (k * 5))))
  | 139 => v = (.pointer (some ⟨(ad V.ca (k * 5)).block, (ad V.ca (k * 5)).off + 1, none⟩))
  | 140 => v = (.int .i64 i)
  | 141 => isTup (Q) (true) v w
  | 133 => isTup (Q) (true) v w
  | 142 => isPt (Q) v w
  | 143 => v = (.bool true)
  | 12 => v = (.bool true)
  | _ => True
theorem vp22T_bx (V : CfgV) (B k : Nat) (i : Int) (Q : Pt) {d : Nat} {v : Value} {W w w' : World} (hG : bxG vp22B W w w') (hyp : vp22T V B k i Q d v w) : vp22T V B k i Q d v w' := by
  have hne : ∀ j, j < vp22B.nb → (5 : Nat) ≠ vp22B.ty j := fun _ _ => neUP
  unfold vp22T at *
  split at hyp <;> first | exact hyp | exact isTup_bx hne hG hyp | exact isPt_bx hne hG hyp

def vp23B : Boxes := ⟨1, fun _ => 11, fun _ => 12, fun _ => 13, fun _ => 43, fun _ => #[.int .i64 0, .int .i64 0, .int .i64 0, .bool false, .slice none 0 0]⟩
theorem nevp23 {n : Nat} {o : Option Nat} (h1 : n ≠ 11) (h2 : n ≠ 12) (h3 : o ≠ some 13) : ∀ j, j < vp23B.nb → n ≠ vp23B.ia j ∧ n ≠ vp23B.is_ j ∧ o ≠ some (vp23B.d j) := fun _ _ => ⟨h1, h2, h3⟩
def vp23T (V : CfgV) (B k : Nat) (i2 : Int) (Q2 : Pt) (d : Nat) (v : Value) (w : World) : Prop := match d with
  | 145 => v = (.agg #[.slice V.wa V.ws.length V.wc, .slice V.pa V.ps.length V.pc, .slice V.ca V.cs.length V.cc])
  | 146 => v = (.pointer (some ⟨B, 2, none⟩))
  | 147 => v = (.slice V.ca V.cs.length V.cc)
  | 148 => v = (.int .i64 (k : Int))
  | 149 => v = (.pointer (some (ad V.ca (k * 5))))
  | 150 => v = (.pointer (some ⟨(ad V.ca (k * 5)).block, (ad V.ca (k * 5)).off + 2, none⟩))
  | 151 => v = (.int .i64 i2)
  | 152 => isTup (Q2) (true) v w
  | 144 => isTup (Q2) (true) v w
  | 153 => isPt (Q2) v w
  | 154 => v = (.bool true)
  | 14 => v = (.bool true)
  | _ => True
theorem vp23T_bx (V : CfgV) (B k : Nat) (i2 : Int) (Q2 : Pt) {d : Nat} {v : Value} {W w w' : World} (hG : bxG vp23B W w w') (hyp : vp23T V B k i2 Q2 d v w) : vp23T V B k i2 Q2 d v w' := by
  have hne : ∀ j, j < vp23B.nb → (5 : Nat) ≠ vp23B.ty j := fun _ _ => neUP
  unfold vp23T at *
  split at hyp <;> first | exact hyp | exact isTup_bx hne hG hyp | exact isPt_bx hne hG hyp

theorem ptv_of {x y : PtV} (h : x.pt = y.pt) : ∃ a c, x = ⟨y.id, y.reg, y.keep, a, y.img, c⟩ := by
  obtain ⟨i, r, k, a, m, c⟩ := x
  obtain ⟨i2, r2, k2, a2, m2, c2⟩ := y
  simp only [PtV.pt, Pt.mk.injEq] at h
  obtain ⟨rfl, rfl, rfl, rfl⟩ := h
  exact ⟨a, c, rfl⟩
set_option maxRecDepth 100000 in
set_option maxHeartbeats 4000000 in
theorem validParts_out (w : World) (V : CfgV) (h : V.At w) (hb : ∀ x ∈ V.ps, x.img.length ≤ 140737488351232) (hg : greatV V = true ∨ errs V ≠ []) : Calls Try.prog 5 #[.agg #[.slice V.wa V.ws.length V.wc, .slice V.pa V.ps.length V.pc, .slice V.ca V.cs.length V.cc]] w fun e w' => e = .returned (.bool true) ∧ Below w.heap.size w w' := by
  obtain ⟨w0, hw0⟩ : ∃ w0, w0 = w.alloc (.cells #[.slice V.wa V.ws.length V.wc, .slice V.pa V.ps.length V.pc, .slice V.ca V.cs.length V.cc] 26) := ⟨_, rfl⟩
  have B0 : Below w.heap.size w w0 := by rw [hw0]; exact (Below.refl _ w).alloc (Nat.le_refl _) _
  have hI : InBox w0 w.heap.size V := by rw [hw0]; exact inBox_new w V _
  have HV := Lib.hid (h.stay B0)
  have HI := Lib.hid hI
  have HB0 := Lib.hid B0
  have HC := Lib.hid (cgreat_calls w0 V (h.stay B0) hb)
  obtain ⟨g, hgg⟩ : ∃ g, Hid (g = greatV V) := ⟨_, rfl⟩
  rw [← hgg.out] at HC hg
  have HG := Lib.hid hg
  clear h B0 hI hg
  cases g with
  | true =>
    go_enter Try.func5, Try.ntmps5
    go_wp2_with fail
    rw [← hw0]
    clear hw0
    refine (HC.out).mono ?_
    rintro e w1 ⟨rfl, hb1⟩
    have HB1 := Lib.hid (HB0.out.trans (hb1.mono HB0.out.size))
    have HAW := Lib.hid (awake_is w1)
    clear hb1
    go_wp2_with fail
    refine (HAW.out).mono ?_
    rintro e w2 ⟨rfl, hb2⟩
    have HB2 := Lib.hid (HB1.out.trans (hb2.mono HB1.out.size))
    clear hb2
    go_wp2_with fail
    go_ret
    exact ⟨rfl, HB2.out⟩
  | false =>
    have hs := small_of hgg.out.symm
    have HF : Hid (fitsV V = false) := by
      rw [Hid]; unfold fitsV
      rw [decide_eq_false_iff_not]
      rcases HG.out with h | h
      · exact absurd h (by decide)
      · exact h
    go_enter Try.func5, Try.ntmps5
    go_wp2_with fail
    rw [← hw0]
    clear hw0
    refine (HC.out).mono ?_
    rintro e w1 ⟨rfl, hb1⟩
    have hf := fits_calls w1 V (HV.out.stay hb1) hs
    rw [HF.out] at hf
    have HFC := Lib.hid hf
    obtain ⟨c0, c1, c2⟩ := HI.out.keep hb1
    have HB1 := Lib.hid (HB0.out.trans (hb1.mono HB0.out.size))
    clear hb1 hf
    go_wp2_with fail
    refine (HFC.out).mono ?_
    rintro e w2 ⟨rfl, hb2⟩
    have HB2 := Lib.hid (HB1.out.trans (hb2.mono HB1.out.size))
    have HAW := Lib.hid (awake_is w2)
    clear hb2 c0 c1 c2
    go_wp2_with fail
    refine (HAW.out).mono ?_
    rintro e w3 ⟨rfl, hb3⟩
    have HB3 := Lib.hid (HB2.out.trans (hb3.mono HB2.out.size))
    clear hb3
    go_wp2_with fail
    go_ret
    exact ⟨rfl, HB3.out⟩

set_option maxRecDepth 100000 in
set_option maxHeartbeats 8000000 in
theorem validParts_in (w : World) (V : CfgV) (h : V.At w) (hb : ∀ x ∈ V.ps, x.img.length ≤ 140737488351232) (hg : greatV V = false) (he : errs V = []) : Calls Try.prog 5 #[.agg #[.slice V.wa V.ws.length V.wc, .slice V.pa V.ps.length V.pc, .slice V.ca V.cs.length V.cc]] w fun e w' => e = .returned (.bool true) ∧ Below w.heap.size w w' := by
  have GO := Lib.hid (good_iff.1 he)
  have hs := small_of hg
  obtain ⟨w0, hw0⟩ : ∃ w0, w0 = w.alloc (.cells #[.slice V.wa V.ws.length V.wc, .slice V.pa V.ps.length V.pc, .slice V.ca V.cs.length V.cc] 26) := ⟨_, rfl⟩
  have B0 : Below w.heap.size w w0 := by rw [hw0]; exact (Below.refl _ w).alloc (Nat.le_refl _) _
  have hI : InBox w0 w.heap.size V := by rw [hw0]; exact inBox_new w V _
  have HV := Lib.hid (h.stay B0)
  have HI := Lib.hid hI
  have HB0 := Lib.hid B0
  have hc := cgreat_calls w0 V (h.stay B0) hb
  rw [hg] at hc
  have HC := Lib.hid hc
  have HE := Lib.hid he
  have hl2 := h.pts.len_le
  have hl1 := h.win.len_le
  have hl3 := h.chs.len_le
  clear h B0 hI hg hb hc he
  go_enter Try.func5, Try.ntmps5
  go_wp2_with fail
  rw [← hw0]
  clear hw0
  refine (HC.out).mono ?_
  rintro e w1 ⟨rfl, hb1⟩
  have hf := fits_calls w1 V (HV.out.stay hb1) hs
  rw [show fitsV V = true by unfold fitsV; rw [HE.out]; rfl] at hf
  have HFC := Lib.hid hf
  obtain ⟨c0, c1, c2⟩ := HI.out.keep hb1
  have HB1 := Lib.hid hb1
  clear hb1 hf HC
  go_wp2_with fail
  refine (HFC.out).mono ?_
  rintro e w2 ⟨rfl, hb2⟩
  have HB2 := Lib.hid (HB1.out.trans (hb2.mono HB1.out.size))
  have hm := smay_calls w2 V.wa V.ws V.wc ((HV.out.stay HB2.out).win)
  rw [GO.out.may] at hm
  have HM := Lib.hid hm
  clear hb2 c0 c1 c2 hm HFC HB1
  obtain ⟨c0, c1, c2⟩ := HI.out.keep HB2.out
  go_wp2_with fail
  refine (HM.out).mono ?_
  rintro e w3 ⟨rfl, hb2⟩
  have HB3 := Lib.hid (HB2.out.trans (hb2.mono HB2.out.size))
  have hm := chall_calls w3 V.ca V.cs V.cc ((HV.out.stay HB3.out).chs)
  rw [GO.out.chk] at hm
  have HM := Lib.hid hm
  clear hb2 c0 c1 c2 hm HB2
  obtain ⟨c0, c1, c2⟩ := HI.out.keep HB3.out
  go_wp2_with fail
  refine (HM.out).mono ?_
  rintro e w4 ⟨rfl, hb2⟩
  have HB4 := Lib.hid (HB3.out.trans (hb2.mono HB3.out.size))
  have hm := can_calls w4 V (HV.out.stay HB4.out)
  rw [GO.out.can] at hm
  have HM := Lib.hid hm
  clear hb2 c0 c1 c2 hm HB3
  obtain ⟨c0, c1, c2⟩ := HI.out.keep HB4.out
  go_wp2_with fail
  refine (HM.out).mono ?_
  rintro e w5 ⟨rfl, hb2⟩
  have HB5 := Lib.hid (HB4.out.trans (hb2.mono HB4.out.size))
  clear hb2 c0 c1 c2 HB4 HM
  obtain ⟨c0, c1, c2⟩ := HI.out.keep HB5.out
  have t0 : ((V.ps.length : Int) == 0) = false := by have := GO.out.few; rw [beq_eq_false_iff_ne]; omega
  go_wp2_with fail
  clear t0
  go_loopw [3, 4] (fun s i wr => ∃ (k : Nat) (a : Option Addr) (L : List Reg) (c : Nat), s = .slice a L.length c ∧ i = .int .i64 k ∧ k ≤ V.ps.length ∧ Hid (L = (V.ps.take k).map (·.reg)) ∧ VOwn cReg 2 40 w0.heap.size wr a L c ∧ Below w0.heap.size w0 wr) (fun _ i _ => V.ps.length - (intOf i).toNat)
  case atStart => exact ⟨0, none, [], 0, rfl, rfl, Nat.zero_le _, rfl, VOwn.nil_ _ _ _ _ _, HB5.out⟩
  case round =>
    obtain ⟨k, a, L, c, rfl, rfl, hk, HL, hO, B⟩ := hrel
    have HBw := Lib.hid B
    obtain ⟨c0, c1, c2⟩ := HI.out.keep B
    have HO := Lib.hid hO
    clear hO B
    by_cases hlt : k < V.ps.length
    · have i0 := HV.out.pts.index etP k hlt
      have u : ∀ q : After wr, _ := fun q => pts_cells HV.out.pts (HBw.out.trans (q.bel.mono HBw.out.size)) k hlt
      have HP := Lib.hid (GO.out.part k hlt)
      have HK := Lib.hid (hasP_mem (ps := V.ps) k hlt)
      have HR := Lib.hid (GO.out.reg V.ps[k] (List.getElem_mem hlt))
      have HD := Lib.hid (GO.out.ids V.ps[k] (List.getElem_mem hlt))
      have HT : Hid ((V.ps.take (k + 1)).map (·.reg) = (V.ps.take k).map (·.reg) ++ [V.ps[k].reg]) := by rw [Hid, List.take_succ_eq_append_getElem hlt, List.map_append]; rfl
      have HL9 : Hid (L.length ≤ 100) := by have := hs.pts; rw [Hid, HL.out, List.length_map, List.length_take]; omega
      obtain ⟨z, hz⟩ : ∃ z, Hid (z = V.ps[k]) := ⟨V.ps[k], rfl⟩
      rw [← hz.out] at u HP HK HR HD HT
      obtain ⟨i, hi⟩ : ∃ i, Hid (i = z.id.1) := ⟨_, rfl⟩
      obtain ⟨Q, hQ⟩ : ∃ Q, Hid (Q = z.pt) := ⟨_, rfl⟩
      have HQ : Hid (getP V.ps i = Q) := by rw [Hid, hi.out, hQ.out]; exact HP.out
      rw [← hi.out] at HK
      have u0 : ∀ q : After wr, q.to.cell? (ad V.pa (k * 5)) = some (.int .i64 i) := fun q => by rw [hi.out]; exact (u q).1
      go_wp2_with fail
      refine wp_region_boxes vp9B (fun _ => isBx (Q)) (vp9T V w.heap.size k i Q) (by kernel_rfl) (by kernel_rfl) (by kernel_rfl) (fun _ _ _ _ hG hyp => vp9T_bx V w.heap.size k i Q hG hyp) (fun _ _ _ _ hG hyp => isBx_bx (fun _ _ => neUP) hG hyp) ?_ ?_ (fun j hj => by
          have : j = 0 := by have : j < 1 := hj; omega
          subst this; exact ⟨by decide, by decide⟩)
      · refine opsAll_cons ?_ (opsAll_cons ?_ (opsAll_cons ?_ (opsAll_cons ?_ (opsAll_cons ?_ (opsAll_cons ?_ (opsAll_cons ?_ (opsAll_cons ?_ (opsAll_cons ?_ (opsAll_cons ?_ (opsAll_cons ?_ (opsAll_cons ?_ (opsAll_cons ?_ (opsAll_cons ?_ opsAll_nil)))))))))))))
        all_goals intro δ wa wx hk
        · exact .inl ⟨wanted_free rfl, nevp9 (by decide) (by decide) (by decide), gp_load (.tmp 1) rfl ((hk.old 1 (by kernel_rfl)).trans rfl) (v := (.agg #[.slice V.wa V.ws.length V.wc, .slice V.pa V.ps.length V.pc, .slice V.ca V.cs.length V.cc])) ((fun (q : After _) => load3 (fun w => by kernel_rfl) (fun w => by kernel_rfl) (keep q.bel c0) (keep q.bel c1) (keep q.bel c2)) ⟨wx, hk.inv.1⟩) ⟨Below.refl _ _, rfl⟩⟩
        · exact .inl ⟨wanted_free rfl, nevp9 (by decide) (by decide) (by decide), gp_field (.tmp 1) rfl ((hk.old 1 (by kernel_rfl)).trans rfl) (v := (.pointer (some ⟨w.heap.size, 1, none⟩))) (fun w => by kernel_rfl) ⟨Below.refl _ _, rfl⟩⟩
        · exact .inl ⟨wanted_free rfl, nevp9 (by decide) (by decide) (by decide), gp_load (.tmp 53) rfl (hk.slot 53 (by kernel_rfl)) (v := (.slice V.pa V.ps.length V.pc)) ((fun (q : After _) => load_at (fun w => by kernel_rfl) (keep q.bel c1)) ⟨wx, hk.inv.1⟩) ⟨Below.refl _ _, rfl⟩⟩
        · exact .inl ⟨wanted_free rfl, nevp9 (by decide) (by decide) (by decide), gp_move (.tmp 4) rfl ⟨Below.refl _ _, ((hk.old 4 (by kernel_rfl)).trans rfl)⟩⟩
        · exact .inl ⟨wanted_free rfl, nevp9 (by decide) (by decide) (by decide), gp_index (.tmp 54) (.tmp 55) rfl (hk.slot 54 (by kernel_rfl)) (hk.slot 55 (by kernel_rfl)) (v := (.pointer (some (ad V.pa (k * 5))))) (i0 wx) ⟨Below.refl _ _, rfl⟩⟩
        · exact .inl ⟨wanted_free rfl, nevp9 (by decide) (by decide) (by decide), gp_field (.tmp 56) rfl (hk.slot 56 (by kernel_rfl)) (v := (.pointer (some (ad V.pa (k * 5))))) (fun w => by kernel_rfl) ⟨Below.refl _ _, rfl⟩⟩
        · exact .inl ⟨wanted_free rfl, nevp9 (by decide) (by decide) (by decide), gp_load (.tmp 57) rfl (hk.slot 57 (by kernel_rfl)) (v := (.int .i64 i)) ((fun (q : After _) => load_at (fun w => by kernel_rfl) (u0 q)) ⟨wx, hk.inv.1⟩) ⟨Below.refl _ _, rfl⟩⟩
        · exact .inl ⟨wanted_free rfl, nevp9 (by decide) (by decide) (by decide), gp_call rfl rfl #[(.agg #[.slice V.wa V.ws.length V.wc, .slice V.pa V.ps.length V.pc, .slice V.ca V.cs.length V.cc]), (.int .i64 i)] (fun w => by kernel_rfl) (by simp only [List.map_toArray, List.map_cons, List.map_nil, show wa.eval (.tmp 52) = (.agg #[.slice V.wa V.ws.length V.wc, .slice V.pa V.ps.length V.pc, .slice V.ca V.cs.length V.cc]) from (hk.slot 52 (by kernel_rfl)), show wa.eval (.tmp 58) = (.int .i64 i) from (hk.slot 58 (by kernel_rfl))]) ((fun (q : After _) => part_tup q.to V (HV.out.stay (HBw.out.trans (q.bel.mono HBw.out.size))) hs i HQ.out HK.out) ⟨wx, hk.inv.1⟩)⟩
        · exact .inl ⟨wanted_free rfl, nevp9 (by decide) (by decide) (by decide), gp_move (.tmp 59) rfl ⟨Below.refl _ _, (hk.slot 59 (by kernel_rfl))⟩⟩
        · obtain ⟨x, ex, hx⟩ := hk.slot 51 (by kernel_rfl)
          exact .inl ⟨wanted_free rfl, nevp9 (by decide) (by decide) (by decide), gp_extract rfl ex rfl ⟨Below.refl _ _, x, rfl, hx⟩⟩
        · obtain ⟨x, ex, hx⟩ := hk.slot 51 (by kernel_rfl)
          exact .inl ⟨wanted_free rfl, nevp9 (by decide) (by decide) (by decide), gp_extract rfl ex rfl ⟨Below.refl _ _, rfl⟩⟩
        · exact .inr (.inl ⟨0, by decide, rfl, rfl, rfl, allocP _ _ _ rfl, fun _ _ => trivial⟩)
        · obtain ⟨x, ex, hx⟩ := hk.slot 60 (by kernel_rfl)
          exact .inr (.inr ⟨0, cA x, by decide, rfl, rfl, rfl, ⟨x, rfl, hx⟩, rfl, fun g D hg hD hDs => storeP _ _ _ _ _ rfl hg ex hD hDs⟩)
        · exact .inl ⟨wanted_free rfl, nevp9 (by decide) (by decide) (by decide), gp_assign (.tmp 61) rfl ⟨Below.refl _ _, (hk.slot 61 (by kernel_rfl))⟩⟩
      intro a wz hbz hsame hall hbox
      obtain ⟨p1, C1, ep1, hpl1, hC1, hX1, _⟩ := hbox 0 (by decide)
      obtain ⟨x1, rfl, hx1⟩ := hX1
      have he := act_same hsame [52, 53, 54, 55, 56, 57, 58, 59, 51, 60, 61, 5, 6] (by kernel_rfl)
      simp only [List.foldl_cons, List.foldl_nil] at he
      rw [show a.eval (.tmp 5) = _ from ep1, show a.eval (.tmp 6) = .bool true from hall 6 (by kernel_rfl)] at he
      generalize a.eval (.tmp 52) = y52 at he
      generalize a.eval (.tmp 53) = y53 at he
      generalize a.eval (.tmp 54) = y54 at he
      generalize a.eval (.tmp 55) = y55 at he
      generalize a.eval (.tmp 56) = y56 at he
      generalize a.eval (.tmp 57) = y57 at he
      generalize a.eval (.tmp 58) = y58 at he
      generalize a.eval (.tmp 59) = y59 at he
      generalize a.eval (.tmp 51) = y51 at he
      generalize a.eval (.tmp 60) = y60 at he
      generalize a.eval (.tmp 61) = y61 at he
      simp only [put_lit] at he
      dsimp only [List.set_cons_zero, List.set_cons_succ] at he
      subst he
      have HBX1 := Lib.hid (And.intro hbz (And.intro hC1 (And.intro hx1 hpl1)))
      clear hsame hall hbox ep1 hbz hC1 hx1 hpl1
      obtain ⟨a1, c9, hx⟩ := ptv_of (HBX1.out.2.2.1.1.trans hQ.out)
      have hcell := HBX1.out.2.1
      rw [hx] at hcell
      have d0 : ∀ q : After wz, q.to.cell? ⟨p1, 0, none⟩ = some (.int .i64 z.id.1) := fun q => After.cell (by rw [World.cell?, hcell]; rfl) q
      have d1 : ∀ q : After wz, q.to.cell? ⟨p1, 1, none⟩ = some (.int .i64 z.reg.base.1) := fun q => After.cell (by rw [World.cell?, hcell]; rfl) q
      have d2 : ∀ q : After wz, q.to.cell? ⟨p1, 2, none⟩ = some (.int .i64 z.reg.size.1) := fun q => After.cell (by rw [World.cell?, hcell]; rfl) q
      have d4 : ∀ q : After wz, q.to.cell? ⟨p1, 4, none⟩ = some (.slice a1 z.img.length c9) := fun q => After.cell (by rw [World.cell?, hcell]; rfl) q
      have HBz := Lib.hid (HBw.out.trans (HBX1.out.1.mono HBw.out.size))
      have HOz := Lib.hid (HO.out.stay HBX1.out.1)
      have u : ∀ q : After wz, _ := fun q => pts_cells HV.out.pts (HBz.out.trans (q.bel.mono HBz.out.size)) k hlt
      rw [← hz.out] at u
      obtain ⟨c0, c1, c2⟩ := HI.out.keep HBz.out
      have t1 : Hid (decide ((z.reg.size.1 : Int) < (z.img.length : Int)) = false) := by have := HR.out.2; rw [Hid, decide_eq_false_iff_not]; omega
      have t2 : Hid (decide ((z.id.1 : Int) < 1) = false) := by have := HD.out; rw [Hid, decide_eq_false_iff_not]; omega
      have t3 : Hid (decide ((6 : Int) < z.id.1) = false) := by have := HD.out; rw [Hid, decide_eq_false_iff_not]; omega
      have hcell := Lib.hid hcell
      clear u0 hx HO
      go_wp2_with fail
      refine wp_region_vals (vp10 V w.heap.size k p1 z a1 c9) (vp10o V w.heap.size k p1 z a1 c9) [1, 4, 5, 6] (by kernel_rfl) (by kernel_rfl) (by kernel_rfl) ⟨rfl, rfl, rfl, rfl, trivial⟩ ?_ ?_
      · refine opsAll_cons ?_ (opsAll_cons ?_ (opsAll_cons ?_ (opsAll_cons ?_ (opsAll_cons ?_ (opsAll_cons ?_ (opsAll_cons ?_ (opsAll_cons ?_ (opsAll_cons ?_ (opsAll_cons ?_ (opsAll_cons ?_ (opsAll_cons ?_ (opsAll_cons ?_ (opsAll_cons ?_ (opsAll_cons ?_ (opsAll_cons ?_ (opsAll_cons ?_ (opsAll_cons ?_ (opsAll_cons ?_ (opsAll_cons ?_ (opsAll_cons ?_ (opsAll_cons ?_ (opsAll_cons ?_ (opsAll_cons ?_ (opsAll_cons ?_ (opsAll_cons ?_ (opsAll_cons ?_ (opsAll_cons ?_ (opsAll_cons ?_ (opsAll_cons ?_ (opsAll_cons ?_ (opsAll_cons ?_ opsAll_nil)))))))))))))))))))))))))))))))
        all_goals intro a hk
        · -- slot 62
          exact .inl ⟨wanted_free rfl, q_move (.tmp 6) rfl (show a.eval (.tmp 6) = (.bool true) from hk.old 6 (by kernel_rfl) (by kernel_rfl))⟩
        · -- slot 63
          exact .inl ⟨wanted_free rfl, q_not rfl _ (show a.eval (.tmp 62) = (.bool true) from hk.slot 62 (by kernel_rfl)) rfl⟩
        · -- slot 64
          exact .inl ⟨wanted_free rfl, q_move (.tmp 63) rfl (show a.eval (.tmp 63) = (.bool (!true)) from hk.slot 63 (by kernel_rfl))⟩
        · -- slot 65
          exact .inl ⟨wanted_by 64 false (by kernel_rfl) (show a.eval (.tmp 64) = (.bool (!true)) from hk.slot 64 (by kernel_rfl)), q_field (.tmp 5) rfl (show a.eval (.tmp 5) = (.pointer (some ⟨p1, 0, none⟩)) from hk.old 5 (by kernel_rfl) (by kernel_rfl)) (v := (.pointer (some ⟨p1, 1, none⟩))) (fun w => by kernel_rfl) rfl⟩
        · -- slot 66
          exact .inl ⟨wanted_by 64 false (by kernel_rfl) (show a.eval (.tmp 64) = (.bool (!true)) from hk.slot 64 (by kernel_rfl)), q_load (.tmp 65) rfl (show a.eval (.tmp 65) = (.pointer (some ⟨p1, 1, none⟩)) from hk.slot 65 (by kernel_rfl)) (v := (.agg #[.int .i64 z.reg.base.1, .int .i64 z.reg.size.1])) (fun q => load2 (fun w => by kernel_rfl) (fun w => by kernel_rfl) (d1 q) (d2 q)) rfl⟩
        · -- slot 67
          exact .inl ⟨wanted_by 64 false (by kernel_rfl) (show a.eval (.tmp 64) = (.bool (!true)) from hk.slot 64 (by kernel_rfl)), q_field (.tmp 1) rfl (show a.eval (.tmp 1) = (.pointer (some ⟨w.heap.size, 0, none⟩)) from hk.old 1 (by kernel_rfl) (by kernel_rfl)) (v := (.pointer (some ⟨w.heap.size, 1, none⟩))) (fun w => by kernel_rfl) rfl⟩
        · -- slot 68
          exact .inl ⟨wanted_by 64 false (by kernel_rfl) (show a.eval (.tmp 64) = (.bool (!true)) from hk.slot 64 (by kernel_rfl)), q_load (.tmp 67) rfl (show a.eval (.tmp 67) = (.pointer (some ⟨w.heap.size, 1, none⟩)) from hk.slot 67 (by kernel_rfl)) (v := (.slice V.pa V.ps.length V.pc)) (fun q => load_at (fun w => by kernel_rfl) (keep q.bel c1)) rfl⟩
        · -- slot 69
          exact .inl ⟨wanted_by 64 false (by kernel_rfl) (show a.eval (.tmp 64) = (.bool (!true)) from hk.slot 64 (by kernel_rfl)), q_move (.tmp 4) rfl (show a.eval (.tmp 4) = (.int .i64 (k : Int)) from hk.old 4 (by kernel_rfl) (by kernel_rfl))⟩
        · -- slot 70
          exact .inl ⟨wanted_by 64 false (by kernel_rfl) (show a.eval (.tmp 64) = (.bool (!true)) from hk.slot 64 (by kernel_rfl)), q_index (.tmp 68) (.tmp 69) rfl (show a.eval (.tmp 68) = (.slice V.pa V.ps.length V.pc) from hk.slot 68 (by kernel_rfl)) (show a.eval (.tmp 69) = (.int .i64 (k : Int)) from hk.slot 69 (by kernel_rfl)) (v := (.pointer (some (ad V.pa (k * 5))))) (fun w => i0 w) rfl⟩
        · -- slot 71
          exact .inl ⟨wanted_by 64 false (by kernel_rfl) (show a.eval (.tmp 64) = (.bool (!true)) from hk.slot 64 (by kernel_rfl)), q_field (.tmp 70) rfl (show a.eval (.tmp 70) = (.pointer (some (ad V.pa (k * 5)))) from hk.slot 70 (by kernel_rfl)) (v := (.pointer (some ⟨(ad V.pa (k * 5)).block, (ad V.pa (k * 5)).off + 1, none⟩))) (fun w => by kernel_rfl) rfl⟩
        · -- slot 72
          exact .inl ⟨wanted_by 64 false (by kernel_rfl) (show a.eval (.tmp 64) = (.bool (!true)) from hk.slot 64 (by kernel_rfl)), q_load (.tmp 71) rfl (show a.eval (.tmp 71) = (.pointer (some ⟨(ad V.pa (k * 5)).block, (ad V.pa (k * 5)).off + 1, none⟩)) from hk.slot 71 (by kernel_rfl)) (v := (.agg #[.int .i64 z.reg.base.1, .int .i64 z.reg.size.1])) (fun q => load2 (fun w => by kernel_rfl) (fun w => by kernel_rfl) (u q).2.1 (u q).2.2.1) rfl⟩
        · -- slot 73
          exact .inl ⟨wanted_by 64 false (by kernel_rfl) (show a.eval (.tmp 64) = (.bool (!true)) from hk.slot 64 (by kernel_rfl)), q_bin rfl (show a.eval (.tmp 66) = (.agg #[.int .i64 z.reg.base.1, .int .i64 z.reg.size.1]) from hk.slot 66 (by kernel_rfl)) (show a.eval (.tmp 72) = (.agg #[.int .i64 z.reg.base.1, .int .i64 z.reg.size.1]) from hk.slot 72 (by kernel_rfl)) (v := (.bool false)) (fun w => by go_simp) rfl⟩
        · -- slot 74
          exact .inl ⟨wanted_free rfl, q_pick rfl false (show a.eval (.tmp 64) = (.bool (!true)) from hk.slot 64 (by kernel_rfl)) (show a.eval (.tmp 73) = (.bool false) from hk.slot 73 (by kernel_rfl))⟩
        · -- slot 75
          exact .inl ⟨wanted_free rfl, q_move (.tmp 74) rfl (show a.eval (.tmp 74) = (.bool ((!true) || false)) from hk.slot 74 (by kernel_rfl))⟩
        · -- slot 76
          exact .inl ⟨wanted_by 75 false (by kernel_rfl) (show a.eval (.tmp 75) = (.bool ((!true) || false)) from hk.slot 75 (by kernel_rfl)), q_field (.tmp 5) rfl (show a.eval (.tmp 5) = (.pointer (some ⟨p1, 0, none⟩)) from hk.old 5 (by kernel_rfl) (by kernel_rfl)) (v := (.pointer (some ⟨p1, 4, none⟩))) (fun w => by kernel_rfl) rfl⟩
        · -- slot 77
          exact .inl ⟨wanted_by 75 false (by kernel_rfl) (show a.eval (.tmp 75) = (.bool ((!true) || false)) from hk.slot 75 (by kernel_rfl)), q_load (.tmp 76) rfl (show a.eval (.tmp 76) = (.pointer (some ⟨p1, 4, none⟩)) from hk.slot 76 (by kernel_rfl)) (v := (.slice a1 z.img.length c9)) (fun q => load_at (fun w => by kernel_rfl) (d4 q)) rfl⟩
        · -- slot 78
          exact .inl ⟨wanted_by 75 false (by kernel_rfl) (show a.eval (.tmp 75) = (.bool ((!true) || false)) from hk.slot 75 (by kernel_rfl)), q_len rfl (by kernel_rfl) (show a.eval (.tmp 77) = (.slice a1 z.img.length c9) from hk.slot 77 (by kernel_rfl)) rfl⟩
        · -- slot 79
          exact .inl ⟨wanted_by 75 false (by kernel_rfl) (show a.eval (.tmp 75) = (.bool ((!true) || false)) from hk.slot 75 (by kernel_rfl)), q_field (.tmp 5) rfl (show a.eval (.tmp 5) = (.pointer (some ⟨p1, 0, none⟩)) from hk.old 5 (by kernel_rfl) (by kernel_rfl)) (v := (.pointer (some ⟨p1, 1, none⟩))) (fun w => by kernel_rfl) rfl⟩
        · -- slot 80
          exact .inl ⟨wanted_by 75 false (by kernel_rfl) (show a.eval (.tmp 75) = (.bool ((!true) || false)) from hk.slot 75 (by kernel_rfl)), q_field (.tmp 79) rfl (show a.eval (.tmp 79) = (.pointer (some ⟨p1, 1, none⟩)) from hk.slot 79 (by kernel_rfl)) (v := (.pointer (some ⟨p1, 2, none⟩))) (fun w => by kernel_rfl) rfl⟩
        · -- slot 81
          exact .inl ⟨wanted_by 75 false (by kernel_rfl) (show a.eval (.tmp 75) = (.bool ((!true) || false)) from hk.slot 75 (by kernel_rfl)), q_load (.tmp 80) rfl (show a.eval (.tmp 80) = (.pointer (some ⟨p1, 2, none⟩)) from hk.slot 80 (by kernel_rfl)) (v := (.int .i64 z.reg.size.1)) (fun q => load_at (fun w => by kernel_rfl) (d2 q)) rfl⟩
        · -- slot 82
          exact .inl ⟨wanted_by 75 false (by kernel_rfl) (show a.eval (.tmp 75) = (.bool ((!true) || false)) from hk.slot 75 (by kernel_rfl)), q_bin rfl (show a.eval (.tmp 78) = (.int .i64 (z.img.length : Int)) from hk.slot 78 (by kernel_rfl)) (show a.eval (.tmp 81) = (.int .i64 z.reg.size.1) from hk.slot 81 (by kernel_rfl)) (v := .bool (decide ((z.reg.size.1 : Int) < (z.img.length : Int)))) (fun w => by kernel_rfl) (congrArg Value.bool (t1.out))⟩
        · -- slot 83
          exact .inl ⟨wanted_free rfl, q_pick rfl false (show a.eval (.tmp 75) = (.bool ((!true) || false)) from hk.slot 75 (by kernel_rfl)) (show a.eval (.tmp 82) = (.bool false) from hk.slot 82 (by kernel_rfl))⟩
        · -- slot 84
          exact .inl ⟨wanted_free rfl, q_move (.tmp 83) rfl (show a.eval (.tmp 83) = (.bool (((!true) || false) || false)) from hk.slot 83 (by kernel_rfl))⟩
        · -- slot 85
          exact .inl ⟨wanted_by 84 false (by kernel_rfl) (show a.eval (.tmp 84) = (.bool (((!true) || false) || false)) from hk.slot 84 (by kernel_rfl)), q_field (.tmp 5) rfl (show a.eval (.tmp 5) = (.pointer (some ⟨p1, 0, none⟩)) from hk.old 5 (by kernel_rfl) (by kernel_rfl)) (v := (.pointer (some ⟨p1, 0, none⟩))) (fun w => by kernel_rfl) rfl⟩
        · -- slot 86
          exact .inl ⟨wanted_by 84 false (by kernel_rfl) (show a.eval (.tmp 84) = (.bool (((!true) || false) || false)) from hk.slot 84 (by kernel_rfl)), q_load (.tmp 85) rfl (show a.eval (.tmp 85) = (.pointer (some ⟨p1, 0, none⟩)) from hk.slot 85 (by kernel_rfl)) (v := (.int .i64 z.id.1)) (fun q => load_at (fun w => by kernel_rfl) (d0 q)) rfl⟩
        · -- slot 87
          exact .inl ⟨wanted_by 84 false (by kernel_rfl) (show a.eval (.tmp 84) = (.bool (((!true) || false) || false)) from hk.slot 84 (by kernel_rfl)), q_bin rfl (show a.eval (.tmp 86) = (.int .i64 z.id.1) from hk.slot 86 (by kernel_rfl)) rfl (v := .bool (decide ((z.id.1 : Int) < 1))) (fun w => by kernel_rfl) (congrArg Value.bool (t2.out))⟩
        · -- slot 88
          exact .inl ⟨wanted_free rfl, q_pick rfl false (show a.eval (.tmp 84) = (.bool (((!true) || false) || false)) from hk.slot 84 (by kernel_rfl)) (show a.eval (.tmp 87) = (.bool false) from hk.slot 87 (by kernel_rfl))⟩
        · -- slot 89
          exact .inl ⟨wanted_free rfl, q_move (.tmp 88) rfl (show a.eval (.tmp 88) = (.bool ((((!true) || false) || false) || false)) from hk.slot 88 (by kernel_rfl))⟩
        · -- slot 90
          exact .inl ⟨wanted_by 89 false (by kernel_rfl) (show a.eval (.tmp 89) = (.bool ((((!true) || false) || false) || false)) from hk.slot 89 (by kernel_rfl)), q_field (.tmp 5) rfl (show a.eval (.tmp 5) = (.pointer (some ⟨p1, 0, none⟩)) from hk.old 5 (by kernel_rfl) (by kernel_rfl)) (v := (.pointer (some ⟨p1, 0, none⟩))) (fun w => by kernel_rfl) rfl⟩
        · -- slot 91
          exact .inl ⟨wanted_by 89 false (by kernel_rfl) (show a.eval (.tmp 89) = (.bool ((((!true) || false) || false) || false)) from hk.slot 89 (by kernel_rfl)), q_load (.tmp 90) rfl (show a.eval (.tmp 90) = (.pointer (some ⟨p1, 0, none⟩)) from hk.slot 90 (by kernel_rfl)) (v := (.int .i64 z.id.1)) (fun q => load_at (fun w => by kernel_rfl) (d0 q)) rfl⟩
        · -- slot 92
          exact .inl ⟨wanted_by 89 false (by kernel_rfl) (show a.eval (.tmp 89) = (.bool ((((!true) || false) || false) || false)) from hk.slot 89 (by kernel_rfl)), q_bin rfl (show a.eval (.tmp 91) = (.int .i64 z.id.1) from hk.slot 91 (by kernel_rfl)) rfl (v := .bool (decide ((6 : Int) < z.id.1))) (fun w => by kernel_rfl) (congrArg Value.bool (t3.out))⟩
        · -- slot 93
          exact .inl ⟨wanted_free rfl, q_pick rfl false (show a.eval (.tmp 89) = (.bool ((((!true) || false) || false) || false)) from hk.slot 89 (by kernel_rfl)) (show a.eval (.tmp 92) = (.bool false) from hk.slot 92 (by kernel_rfl))⟩
      intro a ⟨w3, hb3⟩ hsame hall
      have he := act_same hsame [62, 63, 64, 65, 66, 67, 68, 69, 70, 71, 72, 73, 74, 75, 76, 77, 78, 79, 80, 81, 82, 83, 84, 85, 86, 87, 88, 89, 90, 91, 92, 93] (by kernel_rfl)
      simp only [List.foldl_cons, List.foldl_nil] at he
      rw [show a.eval (.tmp 93) = (.bool false) from (hall 93 (by kernel_rfl)).trans (rfl)] at he
      generalize a.eval (.tmp 62) = x62 at he
      generalize a.eval (.tmp 63) = x63 at he
      generalize a.eval (.tmp 64) = x64 at he
      generalize a.eval (.tmp 65) = x65 at he
      generalize a.eval (.tmp 66) = x66 at he
      generalize a.eval (.tmp 67) = x67 at he
      generalize a.eval (.tmp 68) = x68 at he
      generalize a.eval (.tmp 69) = x69 at he
      generalize a.eval (.tmp 70) = x70 at he
      generalize a.eval (.tmp 71) = x71 at he
      generalize a.eval (.tmp 72) = x72 at he
      generalize a.eval (.tmp 73) = x73 at he
      generalize a.eval (.tmp 74) = x74 at he
      generalize a.eval (.tmp 75) = x75 at he
      generalize a.eval (.tmp 76) = x76 at he
      generalize a.eval (.tmp 77) = x77 at he
      generalize a.eval (.tmp 78) = x78 at he
      generalize a.eval (.tmp 79) = x79 at he
      generalize a.eval (.tmp 80) = x80 at he
      generalize a.eval (.tmp 81) = x81 at he
      generalize a.eval (.tmp 82) = x82 at he
      generalize a.eval (.tmp 83) = x83 at he
      generalize a.eval (.tmp 84) = x84 at he
      generalize a.eval (.tmp 85) = x85 at he
      generalize a.eval (.tmp 86) = x86 at he
      generalize a.eval (.tmp 87) = x87 at he
      generalize a.eval (.tmp 88) = x88 at he
      generalize a.eval (.tmp 89) = x89 at he
      generalize a.eval (.tmp 90) = x90 at he
      generalize a.eval (.tmp 91) = x91 at he
      generalize a.eval (.tmp 92) = x92 at he
      simp only [put_lit] at he
      dsimp only [List.set_cons_zero, List.set_cons_succ] at he
      subst he
      clear hsame hall
      have hc3 := (hb3.block p1 (Array.getElem?_eq_some_iff.1 hcell.out).1).trans hcell.out
      have e1 : w3.cell? ⟨p1, 1, none⟩ = some (.int .i64 z.reg.base.1) := by rw [World.cell?, hc3]; rfl
      have e2 : w3.cell? ⟨p1, 2, none⟩ = some (.int .i64 z.reg.size.1) := by rw [World.cell?, hc3]; rfl
      have HO3 := Lib.hid (HOz.out.stay hb3)
      have HB3 := Lib.hid (HBz.out.trans (hb3.mono HBz.out.size))
      clear hc3 c0 c1 c2 d0 d1 d2 d4 u i0
      go_wp2_with (first
        | (with_reducible refine wpList_value (o := ⟨some 97, .buildSlice _ _ _, _, _, _, _⟩) (by with_unfolding_all rfl) (build1c etR (.tmp 96) (.agg #[.int .i64 z.reg.base.1, .int .i64 z.reg.size.1]) #[.int .i64 z.reg.base.1, .int .i64 z.reg.size.1] rfl (by with_unfolding_all rfl) (by with_unfolding_all rfl) (by with_unfolding_all rfl) (by decide) _) ?_)
        | ((with_reducible refine wpList_vapp1 (o := ⟨some 98, .call _, _, _, _, _⟩) etR cReg_len cReg_one (y := z.reg) (.tmp 94) (.tmp 97) (by with_unfolding_all rfl) (by with_unfolding_all rfl) HO3.out (by with_unfolding_all rfl) (by have := HL9.out; omega) HB3.out.size (by with_unfolding_all rfl) (by with_unfolding_all rfl) ?_); intro a4 k4 w5 hO4 hg4 hn4; have HO4 := Lib.hid (And.intro hO4 (HB3.out.trans (HO3.out.grown hg4 HB3.out.size))); clear hO4 hg4 hn4))
      go_roundw
      case rel => exact ⟨k + 1, a4, L ++ [z.reg], k4, by simp, by go_num, by omega, by rw [Hid, HT.out, ← HL.out], HO4.out.1, HO4.out.2⟩
      case measure => simp [intOf]; omega
    · have hk2 : k = V.ps.length := by omega
      have HL2 : Hid (L = V.ps.map (·.reg)) := by rw [Hid, HL.out, hk2, List.take_length]
      clear hk2 HL
      obtain ⟨wl, hwl⟩ : ∃ wl, wl = wr := ⟨_, rfl⟩
      subst hwl
      go_wp2_with fail
      go_loopw [7] (fun i wr => ∃ (k : Nat), i = .int .i64 k ∧ k ≤ V.ws.length ∧ Below wl.heap.size wl wr) (fun i _ => V.ws.length - (intOf i).toNat)
      case atStart => exact ⟨0, rfl, Nat.zero_le _, Below.refl _ _⟩
      case round =>
        obtain ⟨k, rfl, hk, B⟩ := hrel
        have HBo := HBw
        have HBB := Lib.hid B
        have HBw := Lib.hid (HBo.out.trans (B.mono HBo.out.size))
        obtain ⟨c0, c1, c2⟩ := HI.out.keep HBw.out
        clear B
        by_cases hlt : k < V.ws.length
        · have i0 := HV.out.win.index etW k hlt
          have u1 : ∀ q : After wr, _ := fun q => (HV.out.win.stay cWin_len (HBw.out.trans (q.bel.mono HBw.out.size))).field k hlt 1 (by decide) rfl
          have HWI := Lib.hid (GO.out.winIs V.ws[k] (List.getElem_mem hlt))
          obtain ⟨i, hi⟩ : ∃ i, Hid (i = V.ws[k].part.1) := ⟨V.ws[k].part.1, rfl⟩
          simp only [← hi.out] at u1 HWI
          obtain ⟨Q, hQ⟩ : ∃ Q, Hid (Q = getP V.ps i) := ⟨_, rfl⟩
          have HQ : Hid (getP V.ps i = Q) := hQ.out.symm
          obtain ⟨h, hh⟩ : ∃ h, Hid (h = hasP V.ps i) := ⟨_, rfl⟩
          have HK : Hid (hasP V.ps i = h) := hh.out.symm
          have t1 : ((i : Int) != 0) = h := by rw [hh.out, HWI.out, Bool.eq_iff_iff]; simp
          go_wp2_with fail
          refine wp_region_boxes vp16B (fun _ => isBx (Q)) (vp16T V w.heap.size k i Q h) (by kernel_rfl) (by kernel_rfl) (by kernel_rfl) (fun _ _ _ _ hG hyp => vp16T_bx V w.heap.size k i Q h hG hyp) (fun _ _ _ _ hG hyp => isBx_bx (fun _ _ => neUP) hG hyp) ?_ ?_ (fun j hj => by
              have : j = 0 := by have : j < 1 := hj; omega
              subst this; exact ⟨by decide, by decide⟩)
          · refine opsAll_cons ?_ (opsAll_cons ?_ (opsAll_cons ?_ (opsAll_cons ?_ (opsAll_cons ?_ (opsAll_cons ?_ (opsAll_cons ?_ (opsAll_cons ?_ (opsAll_cons ?_ (opsAll_cons ?_ (opsAll_cons ?_ (opsAll_cons ?_ (opsAll_cons ?_ (opsAll_cons ?_ opsAll_nil)))))))))))))
            all_goals intro δ wa wx hk
            · exact .inl ⟨wanted_free rfl, nevp16 (by decide) (by decide) (by decide), gp_load (.tmp 1) rfl ((hk.old 1 (by kernel_rfl)).trans rfl) (v := (.agg #[.slice V.wa V.ws.length V.wc, .slice V.pa V.ps.length V.pc, .slice V.ca V.cs.length V.cc])) ((fun (q : After _) => load3 (fun w => by kernel_rfl) (fun w => by kernel_rfl) (keep q.bel c0) (keep q.bel c1) (keep q.bel c2)) ⟨wx, hk.inv.1⟩) ⟨Below.refl _ _, rfl⟩⟩
            · exact .inl ⟨wanted_free rfl, nevp16 (by decide) (by decide) (by decide), gp_field (.tmp 1) rfl ((hk.old 1 (by kernel_rfl)).trans rfl) (v := (.pointer (some ⟨w.heap.size, 0, none⟩))) (fun w => by kernel_rfl) ⟨Below.refl _ _, rfl⟩⟩
            · exact .inl ⟨wanted_free rfl, nevp16 (by decide) (by decide) (by decide), gp_load (.tmp 108) rfl (hk.slot 108 (by kernel_rfl)) (v := (.slice V.wa V.ws.length V.wc)) ((fun (q : After _) => load_at (fun w => by kernel_rfl) (keep q.bel c0)) ⟨wx, hk.inv.1⟩) ⟨Below.refl _ _, rfl⟩⟩
            · exact .inl ⟨wanted_free rfl, nevp16 (by decide) (by decide) (by decide), gp_move (.tmp 7) rfl ⟨Below.refl _ _, ((hk.old 7 (by kernel_rfl)).trans rfl)⟩⟩
            · exact .inl ⟨wanted_free rfl, nevp16 (by decide) (by decide) (by decide), gp_index (.tmp 109) (.tmp 110) rfl (hk.slot 109 (by kernel_rfl)) (hk.slot 110 (by kernel_rfl)) (v := (.pointer (some (ad V.wa (k * 2))))) (i0 wx) ⟨Below.refl _ _, rfl⟩⟩
            · exact .inl ⟨wanted_free rfl, nevp16 (by decide) (by decide) (by decide), gp_field (.tmp 111) rfl (hk.slot 111 (by kernel_rfl)) (v := (.pointer (some ⟨(ad V.wa (k * 2)).block, (ad V.wa (k * 2)).off + 1, none⟩))) (fun w => by kernel_rfl) ⟨Below.refl _ _, rfl⟩⟩
            · exact .inl ⟨wanted_free rfl, nevp16 (by decide) (by decide) (by decide), gp_load (.tmp 112) rfl (hk.slot 112 (by kernel_rfl)) (v := (.int .i64 i)) ((fun (q : After _) => load_at (fun w => by kernel_rfl) (u1 q)) ⟨wx, hk.inv.1⟩) ⟨Below.refl _ _, rfl⟩⟩
            · exact .inl ⟨wanted_free rfl, nevp16 (by decide) (by decide) (by decide), gp_call rfl rfl #[(.agg #[.slice V.wa V.ws.length V.wc, .slice V.pa V.ps.length V.pc, .slice V.ca V.cs.length V.cc]), (.int .i64 i)] (fun w => by kernel_rfl) (by simp only [List.map_toArray, List.map_cons, List.map_nil, show wa.eval (.tmp 107) = (.agg #[.slice V.wa V.ws.length V.wc, .slice V.pa V.ps.length V.pc, .slice V.ca V.cs.length V.cc]) from (hk.slot 107 (by kernel_rfl)), show wa.eval (.tmp 113) = (.int .i64 i) from (hk.slot 113 (by kernel_rfl))]) ((fun (q : After _) => part_tup q.to V (HV.out.stay (HBw.out.trans (q.bel.mono HBw.out.size))) hs i HQ.out HK.out) ⟨wx, hk.inv.1⟩)⟩
            · exact .inl ⟨wanted_free rfl, nevp16 (by decide) (by decide) (by decide), gp_move (.tmp 114) rfl ⟨Below.refl _ _, (hk.slot 114 (by kernel_rfl))⟩⟩
            · obtain ⟨x, ex, hx⟩ := hk.slot 106 (by kernel_rfl)
              exact .inl ⟨wanted_free rfl, nevp16 (by decide) (by decide) (by decide), gp_extract rfl ex rfl ⟨Below.refl _ _, x, rfl, hx⟩⟩
            · obtain ⟨x, ex, hx⟩ := hk.slot 106 (by kernel_rfl)
              exact .inl ⟨wanted_free rfl, nevp16 (by decide) (by decide) (by decide), gp_extract rfl ex rfl ⟨Below.refl _ _, rfl⟩⟩
            · exact .inr (.inl ⟨0, by decide, rfl, rfl, rfl, allocP _ _ _ rfl, fun _ _ => trivial⟩)
            · obtain ⟨x, ex, hx⟩ := hk.slot 115 (by kernel_rfl)
              exact .inr (.inr ⟨0, cA x, by decide, rfl, rfl, rfl, ⟨x, rfl, hx⟩, rfl, fun g D hg hD hDs => storeP _ _ _ _ _ rfl hg ex hD hDs⟩)
            · exact .inl ⟨wanted_free rfl, nevp16 (by decide) (by decide) (by decide), gp_assign (.tmp 116) rfl ⟨Below.refl _ _, (hk.slot 116 (by kernel_rfl))⟩⟩
          intro a wz hbz hsame hall hbox
          obtain ⟨p1, C1, ep1, hpl1, hC1, hX1, _⟩ := hbox 0 (by decide)
          obtain ⟨x1, rfl, hx1⟩ := hX1
          have he := act_same hsame [107, 108, 109, 110, 111, 112, 113, 114, 106, 115, 116, 8, 9] (by kernel_rfl)
          simp only [List.foldl_cons, List.foldl_nil] at he
          rw [show a.eval (.tmp 8) = _ from ep1, show a.eval (.tmp 9) = .bool h from hall 9 (by kernel_rfl)] at he
          generalize a.eval (.tmp 107) = y107 at he
          generalize a.eval (.tmp 108) = y108 at he
          generalize a.eval (.tmp 109) = y109 at he
          generalize a.eval (.tmp 110) = y110 at he
          generalize a.eval (.tmp 111) = y111 at he
          generalize a.eval (.tmp 112) = y112 at he
          generalize a.eval (.tmp 113) = y113 at he
          generalize a.eval (.tmp 114) = y114 at he
          generalize a.eval (.tmp 106) = y106 at he
          generalize a.eval (.tmp 115) = y115 at he
          generalize a.eval (.tmp 116) = y116 at he
          simp only [put_lit] at he
          dsimp only [List.set_cons_zero, List.set_cons_succ] at he
          subst he
          have HBX1 := Lib.hid (And.intro hbz (And.intro hC1 (And.intro hx1 hpl1)))
          clear hsame hall hbox ep1 hbz hC1 hx1 hpl1
          have HBz := Lib.hid (HBw.out.trans (HBX1.out.1.mono HBw.out.size))
          have HBBz := Lib.hid (HBB.out.trans (HBX1.out.1.mono HBB.out.size))
          have v1 := (HV.out.win.stay cWin_len HBz.out).field k hlt 1 (by decide) rfl
          simp only [← hi.out] at v1
          clear u1 c0 c1 c2
          obtain ⟨c0, c1, c2⟩ := HI.out.keep HBz.out
          go_wp2_with fail
          go_roundw
          case rel => exact ⟨k + 1, by go_num, by omega, HBBz.out⟩
          case measure => simp [intOf]; omega
        · have HO := Lib.hid (HO.out.stay HBB.out)
          clear HBB
          obtain ⟨wm, hwm⟩ : ∃ wm, wm = wr := ⟨_, rfl⟩
          subst hwm
          go_wp2_with fail
          go_loopw [10] (fun i wr => ∃ (k : Nat), i = .int .i64 k ∧ k ≤ V.cs.length ∧ Below wm.heap.size wm wr) (fun i _ => V.cs.length - (intOf i).toNat)
          case atStart => exact ⟨0, rfl, Nat.zero_le _, Below.refl _ _⟩
          case round =>
            obtain ⟨k, rfl, hk, B⟩ := hrel
            have HBo := HBw
            have HBB := Lib.hid B
            have HBw := Lib.hid (HBo.out.trans (B.mono HBo.out.size))
            obtain ⟨c0, c1, c2⟩ := HI.out.keep HBw.out
            clear B
            by_cases hlt : k < V.cs.length
            · have i0 := HV.out.chs.index etC k hlt
              have u1 : ∀ q : After wr, _ := fun q => (HV.out.chs.stay cCh_len (HBw.out.trans (q.bel.mono HBw.out.size))).field k hlt 1 (by decide) rfl
              have HWI := Lib.hid (GO.out.ends V.cs[k] (List.getElem_mem hlt))
              obtain ⟨x, hx⟩ : ∃ x, Hid (x = V.cs[k]) := ⟨V.cs[k], rfl⟩
              rw [← hx.out] at u1 HWI
              obtain ⟨i, hi⟩ : ∃ i, Hid (i = x.src.1) := ⟨_, rfl⟩
              simp only [← hi.out] at u1
              obtain ⟨Q, hQ⟩ : ∃ Q, Hid (Q = getP V.ps i) := ⟨_, rfl⟩
              have HQ : Hid (getP V.ps i = Q) := hQ.out.symm
              have HK : Hid (hasP V.ps i = true) := by rw [Hid, hi.out]; exact HWI.out.1
              go_wp2_with fail
              refine wp_region_boxes vp22B (fun _ => isBx (Q)) (vp22T V w.heap.size k i Q) (by kernel_rfl) (by kernel_rfl) (by kernel_rfl) (fun _ _ _ _ hG hyp => vp22T_bx V w.heap.size k i Q hG hyp) (fun _ _ _ _ hG hyp => isBx_bx (fun _ _ => neUP) hG hyp) ?_ ?_ (fun j hj => by
                  have : j = 0 := by have : j < 1 := hj; omega
                  subst this; exact ⟨by decide, by decide⟩)
              · refine opsAll_cons ?_ (opsAll_cons ?_ (opsAll_cons ?_ (opsAll_cons ?_ (opsAll_cons ?_ (opsAll_cons ?_ (opsAll_cons ?_ (opsAll_cons ?_ (opsAll_cons ?_ (opsAll_cons ?_ (opsAll_cons ?_ (opsAll_cons ?_ (opsAll_cons ?_ (opsAll_cons ?_ opsAll_nil)))))))))))))
                all_goals intro δ wa wx hk
                · exact .inl ⟨wanted_free rfl, nevp22 (by decide) (by decide) (by decide), gp_load (.tmp 1) rfl ((hk.old 1 (by kernel_rfl)).trans rfl) (v := (.agg #[.slice V.wa V.ws.length V.wc, .slice V.pa V.ps.length V.pc, .slice V.ca V.cs.length V.cc])) ((fun (q : After _) => load3 (fun w => by kernel_rfl) (fun w => by kernel_rfl) (keep q.bel c0) (keep q.bel c1) (keep q.bel c2)) ⟨wx, hk.inv.1⟩) ⟨Below.refl _ _, rfl⟩⟩
                · exact .inl ⟨wanted_free rfl, nevp22 (by decide) (by decide) (by decide), gp_field (.tmp 1) rfl ((hk.old 1 (by kernel_rfl)).trans rfl) (v := (.pointer (some ⟨w.heap.size, 2, none⟩))) (fun w => by kernel_rfl) ⟨Below.refl _ _, rfl⟩⟩
                · exact .inl ⟨wanted_free rfl, nevp22 (by decide) (by decide) (by decide), gp_load (.tmp 135) rfl (hk.slot 135 (by kernel_rfl)) (v := (.slice V.ca V.cs.length V.cc)) ((fun (q : After _) => load_at (fun w => by kernel_rfl) (keep q.bel c2)) ⟨wx, hk.inv.1⟩) ⟨Below.refl _ _, rfl⟩⟩
                · exact .inl ⟨wanted_free rfl, nevp22 (by decide) (by decide) (by decide), gp_move (.tmp 10) rfl ⟨Below.refl _ _, ((hk.old 10 (by kernel_rfl)).trans rfl)⟩⟩
                · exact .inl ⟨wanted_free rfl, nevp22 (by decide) (by decide) (by decide), gp_index (.tmp 136) (.tmp 137) rfl (hk.slot 136 (by kernel_rfl)) (hk.slot 137 (by kernel_rfl)) (v := (.pointer (some (ad V.ca (k * 5))))) (i0 wx) ⟨Below.refl _ _, rfl⟩⟩
                · exact .inl ⟨wanted_free rfl, nevp22 (by decide) (by decide) (by decide), gp_field (.tmp 138) rfl (hk.slot 138 (by kernel_rfl)) (v := (.pointer (some ⟨(ad V.ca (k * 5)).block, (ad V.ca (k * 5)).off + 1, none⟩))) (fun w => by kernel_rfl) ⟨Below.refl _ _, rfl⟩⟩
                · exact .inl ⟨wanted_free rfl, nevp22 (by decide) (by decide) (by decide), gp_load (.tmp 139) rfl (hk.slot 139 (by kernel_rfl)) (v := (.int .i64 i)) ((fun (q : After _) => load_at (fun w => by kernel_rfl) (u1 q)) ⟨wx, hk.inv.1⟩) ⟨Below.refl _ _, rfl⟩⟩
                · exact .inl ⟨wanted_free rfl, nevp22 (by decide) (by decide) (by decide), gp_call rfl rfl #[(.agg #[.slice V.wa V.ws.length V.wc, .slice V.pa V.ps.length V.pc, .slice V.ca V.cs.length V.cc]), (.int .i64 i)] (fun w => by kernel_rfl) (by simp only [List.map_toArray, List.map_cons, List.map_nil, show wa.eval (.tmp 134) = (.agg #[.slice V.wa V.ws.length V.wc, .slice V.pa V.ps.length V.pc, .slice V.ca V.cs.length V.cc]) from (hk.slot 134 (by kernel_rfl)), show wa.eval (.tmp 140) = (.int .i64 i) from (hk.slot 140 (by kernel_rfl))]) ((fun (q : After _) => part_tup q.to V (HV.out.stay (HBw.out.trans (q.bel.mono HBw.out.size))) hs i HQ.out HK.out) ⟨wx, hk.inv.1⟩)⟩
                · exact .inl ⟨wanted_free rfl, nevp22 (by decide) (by decide) (by decide), gp_move (.tmp 141) rfl ⟨Below.refl _ _, (hk.slot 141 (by kernel_rfl))⟩⟩
                · obtain ⟨x, ex, hx⟩ := hk.slot 133 (by kernel_rfl)
                  exact .inl ⟨wanted_free rfl, nevp22 (by decide) (by decide) (by decide), gp_extract rfl ex rfl ⟨Below.refl _ _, x, rfl, hx⟩⟩
                · obtain ⟨x, ex, hx⟩ := hk.slot 133 (by kernel_rfl)
                  exact .inl ⟨wanted_free rfl, nevp22 (by decide) (by decide) (by decide), gp_extract rfl ex rfl ⟨Below.refl _ _, rfl⟩⟩
                · exact .inr (.inl ⟨0, by decide, rfl, rfl, rfl, allocP _ _ _ rfl, fun _ _ => trivial⟩)
                · obtain ⟨x, ex, hx⟩ := hk.slot 142 (by kernel_rfl)
                  exact .inr (.inr ⟨0, cA x, by decide, rfl, rfl, rfl, ⟨x, rfl, hx⟩, rfl, fun g D hg hD hDs => storeP _ _ _ _ _ rfl hg ex hD hDs⟩)
                · exact .inl ⟨wanted_free rfl, nevp22 (by decide) (by decide) (by decide), gp_assign (.tmp 143) rfl ⟨Below.refl _ _, (hk.slot 143 (by kernel_rfl))⟩⟩
              intro a wz hbz hsame hall hbox
              obtain ⟨p1, C1, ep1, hpl1, hC1, hX1, _⟩ := hbox 0 (by decide)
              obtain ⟨x1, rfl, hx1⟩ := hX1
              have he := act_same hsame [134, 135, 136, 137, 138, 139, 140, 141, 133, 142, 143, 11, 12] (by kernel_rfl)
              simp only [List.foldl_cons, List.foldl_nil] at he
              rw [show a.eval (.tmp 11) = _ from ep1, show a.eval (.tmp 12) = .bool true from hall 12 (by kernel_rfl)] at he
              generalize a.eval (.tmp 134) = y134 at he
              generalize a.eval (.tmp 135) = y135 at he
              generalize a.eval (.tmp 136) = y136 at he
              generalize a.eval (.tmp 137) = y137 at he
              generalize a.eval (.tmp 138) = y138 at he
              generalize a.eval (.tmp 139) = y139 at he
              generalize a.eval (.tmp 140) = y140 at he
              generalize a.eval (.tmp 141) = y141 at he
              generalize a.eval (.tmp 133) = y133 at he
              generalize a.eval (.tmp 142) = y142 at he
              generalize a.eval (.tmp 143) = y143 at he
              simp only [put_lit] at he
              dsimp only [List.set_cons_zero, List.set_cons_succ] at he
              subst he
              have HBX1 := Lib.hid (And.intro hbz (And.intro hC1 (And.intro hx1 hpl1)))
              clear hsame hall hbox ep1 hbz hC1 hx1 hpl1
              have HBw2 := Lib.hid (HBw.out.trans (HBX1.out.1.mono HBw.out.size))
              have HBB2 := Lib.hid (HBB.out.trans (HBX1.out.1.mono HBB.out.size))
              have u2 : ∀ q : After wz, _ := fun q => (HV.out.chs.stay cCh_len (HBw2.out.trans (q.bel.mono HBw2.out.size))).field k hlt 2 (by decide) rfl
              rw [← hx.out] at u2
              clear u1 c0 c1 c2
              obtain ⟨i2, hi2⟩ : ∃ i, Hid (i = x.dst.1) := ⟨_, rfl⟩
              simp only [← hi2.out] at u2
              obtain ⟨Q2, hQ2⟩ : ∃ Q, Hid (Q = getP V.ps i2) := ⟨_, rfl⟩
              have HQ2 : Hid (getP V.ps i2 = Q2) := hQ2.out.symm
              have HK2 : Hid (hasP V.ps i2 = true) := by rw [Hid, hi2.out]; exact HWI.out.2
              obtain ⟨c0, c1, c2⟩ := HI.out.keep HBw2.out
              go_wp2_with fail
              refine wp_region_boxes vp23B (fun _ => isBx (Q2)) (vp23T V w.heap.size k i2 Q2) (by kernel_rfl) (by kernel_rfl) (by kernel_rfl) (fun _ _ _ _ hG hyp => vp23T_bx V w.heap.size k i2 Q2 hG hyp) (fun _ _ _ _ hG hyp => isBx_bx (fun _ _ => neUP) hG hyp) ?_ ?_ (fun j hj => by
                  have : j = 0 := by have : j < 1 := hj; omega
                  subst this; exact ⟨by decide, by decide⟩)
              · refine opsAll_cons ?_ (opsAll_cons ?_ (opsAll_cons ?_ (opsAll_cons ?_ (opsAll_cons ?_ (opsAll_cons ?_ (opsAll_cons ?_ (opsAll_cons ?_ (opsAll_cons ?_ (opsAll_cons ?_ (opsAll_cons ?_ (opsAll_cons ?_ (opsAll_cons ?_ (opsAll_cons ?_ opsAll_nil)))))))))))))
                all_goals intro δ wa wx hk
                · exact .inl ⟨wanted_free rfl, nevp23 (by decide) (by decide) (by decide), gp_load (.tmp 1) rfl ((hk.old 1 (by kernel_rfl)).trans rfl) (v := (.agg #[.slice V.wa V.ws.length V.wc, .slice V.pa V.ps.length V.pc, .slice V.ca V.cs.length V.cc])) ((fun (q : After _) => load3 (fun w => by kernel_rfl) (fun w => by kernel_rfl) (keep q.bel c0) (keep q.bel c1) (keep q.bel c2)) ⟨wx, hk.inv.1⟩) ⟨Below.refl _ _, rfl⟩⟩
                · exact .inl ⟨wanted_free rfl, nevp23 (by decide) (by decide) (by decide), gp_field (.tmp 1) rfl ((hk.old 1 (by kernel_rfl)).trans rfl) (v := (.pointer (some ⟨w.heap.size, 2, none⟩))) (fun w => by kernel_rfl) ⟨Below.refl _ _, rfl⟩⟩
                · exact .inl ⟨wanted_free rfl, nevp23 (by decide) (by decide) (by decide), gp_load (.tmp 146) rfl (hk.slot 146 (by kernel_rfl)) (v := (.slice V.ca V.cs.length V.cc)) ((fun (q : After _) => load_at (fun w => by kernel_rfl) (keep q.bel c2)) ⟨wx, hk.inv.1⟩) ⟨Below.refl _ _, rfl⟩⟩
                · exact .inl ⟨wanted_free rfl, nevp23 (by decide) (by decide) (by decide), gp_move (.tmp 10) rfl ⟨Below.refl _ _, ((hk.old 10 (by kernel_rfl)).trans rfl)⟩⟩
                · exact .inl ⟨wanted_free rfl, nevp23 (by decide) (by decide) (by decide), gp_index (.tmp 147) (.tmp 148) rfl (hk.slot 147 (by kernel_rfl)) (hk.slot 148 (by kernel_rfl)) (v := (.pointer (some (ad V.ca (k * 5))))) (i0 wx) ⟨Below.refl _ _, rfl⟩⟩
                · exact .inl ⟨wanted_free rfl, nevp23 (by decide) (by decide) (by decide), gp_field (.tmp 149) rfl (hk.slot 149 (by kernel_rfl)) (v := (.pointer (some ⟨(ad V.ca (k * 5)).block, (ad V.ca (k * 5)).off + 2, none⟩))) (fun w => by kernel_rfl) ⟨Below.refl _ _, rfl⟩⟩
                · exact .inl ⟨wanted_free rfl, nevp23 (by decide) (by decide) (by decide), gp_load (.tmp 150) rfl (hk.slot 150 (by kernel_rfl)) (v := (.int .i64 i2)) ((fun (q : After _) => load_at (fun w => by kernel_rfl) (u2 q)) ⟨wx, hk.inv.1⟩) ⟨Below.refl _ _, rfl⟩⟩
                · exact .inl ⟨wanted_free rfl, nevp23 (by decide) (by decide) (by decide), gp_call rfl rfl #[(.agg #[.slice V.wa V.ws.length V.wc, .slice V.pa V.ps.length V.pc, .slice V.ca V.cs.length V.cc]), (.int .i64 i2)] (fun w => by kernel_rfl) (by simp only [List.map_toArray, List.map_cons, List.map_nil, show wa.eval (.tmp 145) = (.agg #[.slice V.wa V.ws.length V.wc, .slice V.pa V.ps.length V.pc, .slice V.ca V.cs.length V.cc]) from (hk.slot 145 (by kernel_rfl)), show wa.eval (.tmp 151) = (.int .i64 i2) from (hk.slot 151 (by kernel_rfl))]) ((fun (q : After _) => part_tup q.to V (HV.out.stay (HBw2.out.trans (q.bel.mono HBw2.out.size))) hs i2 HQ2.out HK2.out) ⟨wx, hk.inv.1⟩)⟩
                · exact .inl ⟨wanted_free rfl, nevp23 (by decide) (by decide) (by decide), gp_move (.tmp 152) rfl ⟨Below.refl _ _, (hk.slot 152 (by kernel_rfl))⟩⟩
                · obtain ⟨x, ex, hx⟩ := hk.slot 144 (by kernel_rfl)
                  exact .inl ⟨wanted_free rfl, nevp23 (by decide) (by decide) (by decide), gp_extract rfl ex rfl ⟨Below.refl _ _, x, rfl, hx⟩⟩
                · obtain ⟨x, ex, hx⟩ := hk.slot 144 (by kernel_rfl)
                  exact .inl ⟨wanted_free rfl, nevp23 (by decide) (by decide) (by decide), gp_extract rfl ex rfl ⟨Below.refl _ _, rfl⟩⟩
                · exact .inr (.inl ⟨0, by decide, rfl, rfl, rfl, allocP _ _ _ rfl, fun _ _ => trivial⟩)
                · obtain ⟨x, ex, hx⟩ := hk.slot 153 (by kernel_rfl)
                  exact .inr (.inr ⟨0, cA x, by decide, rfl, rfl, rfl, ⟨x, rfl, hx⟩, rfl, fun g D hg hD hDs => storeP _ _ _ _ _ rfl hg ex hD hDs⟩)
                · exact .inl ⟨wanted_free rfl, nevp23 (by decide) (by decide) (by decide), gp_assign (.tmp 154) rfl ⟨Below.refl _ _, (hk.slot 154 (by kernel_rfl))⟩⟩
              intro a wz hbz hsame hall hbox
              obtain ⟨p2, C2, ep2, hpl2, hC2, hX2, _⟩ := hbox 0 (by decide)
              obtain ⟨x2, rfl, hx2⟩ := hX2
              have he := act_same hsame [145, 146, 147, 148, 149, 150, 151, 152, 144, 153, 154, 13, 14] (by kernel_rfl)
              simp only [List.foldl_cons, List.foldl_nil] at he
              rw [show a.eval (.tmp 13) = _ from ep2, show a.eval (.tmp 14) = .bool true from hall 14 (by kernel_rfl)] at he
              generalize a.eval (.tmp 145) = z145 at he
              generalize a.eval (.tmp 146) = z146 at he
              generalize a.eval (.tmp 147) = z147 at he
              generalize a.eval (.tmp 148) = z148 at he
              generalize a.eval (.tmp 149) = z149 at he
              generalize a.eval (.tmp 150) = z150 at he
              generalize a.eval (.tmp 151) = z151 at he
              generalize a.eval (.tmp 152) = z152 at he
              generalize a.eval (.tmp 144) = z144 at he
              generalize a.eval (.tmp 153) = z153 at he
              generalize a.eval (.tmp 154) = z154 at he
              simp only [put_lit] at he
              dsimp only [List.set_cons_zero, List.set_cons_succ] at he
              subst he
              have HBX2 := Lib.hid (And.intro hbz (And.intro hC2 (And.intro hx2 hpl2)))
              clear hsame hall hbox ep2 hbz hC2 hx2 hpl2
              have HBB3 := Lib.hid (HBB2.out.trans (HBX2.out.1.mono HBB2.out.size))
              clear u2 c0 c1 c2
              go_wp2_with fail
              go_roundw
              case rel => exact ⟨k + 1, by go_num, by omega, HBB3.out⟩
              case measure => simp [intOf]; omega
            · have hro := rall_calls wr a L c ((HO.out.stay HBB.out).vec cReg_len)
              rw [show regAll L = 0 by rw [HL2.out]; exact GO.out.apart] at hro
              have HRO := Lib.hid hro
              clear hro
              go_wp2_with fail
              refine (HRO.out).mono ?_
              rintro e w7 ⟨rfl, hb7⟩
              have HB7 := Lib.hid (HBw.out.trans (hb7.mono HBw.out.size))
              have HAW := Lib.hid (awake_is w7)
              clear hb7 c0 c1 c2
              go_wp2_with fail
              refine (HAW.out).mono ?_
              rintro e w8 ⟨rfl, hb8⟩
              have HB8 := Lib.hid (HB0.out.trans ((HB7.out.trans (hb8.mono HB7.out.size)).mono HB0.out.size))
              clear hb8
              go_wp2_with fail
              go_ret
              exact ⟨rfl, HB8.out⟩

theorem validParts_law (w : World) (V : CfgV) (h : V.At w) (hb : ∀ x ∈ V.ps, x.img.length ≤ 140737488351232) : Calls Try.prog 5 #[.agg (cCfg V).toArray] w fun e w' => e = .returned (.bool true) ∧ Below w.heap.size w w' := by
  by_cases hg : greatV V = true ∨ errs V ≠ []
  · exact validParts_out w V h hb hg
  · have h1 : greatV V = false := by cases hq : greatV V <;> simp_all
    have h2 : errs V = [] := by by_cases hq : errs V = [] <;> simp_all
    exact validParts_in w V h hb h1 h2
end Go.Proofs.Ytpnbaapjjchlbaa
