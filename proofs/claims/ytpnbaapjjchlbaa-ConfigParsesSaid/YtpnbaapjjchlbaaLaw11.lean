/- Great, SamePart of chapter 11's law and reference: walked. -/
import Derived.Test.YtpnbaapjjchlbaaVChk
import Derived.Test.YtpnbaapjjchlbaaEq
import Derived.Laws.IdiomStrings
import Derived.Lib.Bytealg
namespace Go.Proofs.Ytpnbaapjjchlbaa
open Go Go.RowKit Go.Cit

theorem row_str {w : World} {a : Option Addr} {l : List UInt8} {cap : Nat} (h : Row w a l cap) : (convert 41 9 (.slice a l.length cap)).run Try.prog w = .ok (.string ⟨l.toArray⟩) w := by
  have he : Try.prog.underlying 5 = some (.int .u8) := Try.underlying5
  rcases Nat.eq_zero_or_pos l.length with h0 | h0
  · obtain rfl : l = [] := List.eq_nil_of_length_eq_zero h0
    cases a with
    | none =>
      rw [run_convert_bytes_string w _ _ 5 none _ cap btP.slice he Try.underlying9]
      simp [Conv.bytesToString, Sem.run_pure]; rfl
    | some x =>
      exact run_convert_bytes_back w _ _ 5 x cap [] btP.slice he Try.underlying9 (fun j hj => by simp at hj)
  · obtain ⟨b, o, rfl⟩ := h.spot (by intro h1; simp [h1] at h0)
    refine run_convert_bytes_back w _ _ 5 ⟨b, o, none⟩ cap l btP.slice he Try.underlying9 (fun j hj => ?_)
    have ea : (⟨b, o, none⟩ : Addr).add j = ad (some ⟨b, o, none⟩) j := by unfold Addr.add ad; split <;> simp_all
    rw [ea]; exact h.cell j hj

theorem eqIn_reg (a b c d : Int) (w : World) : (Op.equalIn 10000 40 (.agg #[.int .i64 a, .int .i64 b]) (.agg #[.int .i64 c, .int .i64 d])).run Try.prog w = .ok (decide (a = c ∧ b = d)) w := by
  have hS : Try.prog.underlying 40 = some (.struct (Try.prog.fieldsOf 40)) := by kernel_rfl
  have hp : Try.prog.stoodInHeld 40 = false := by kernel_rfl
  rw [show (10000 : Nat) = 9999 + 1 from rfl, run_equalIn_agg w 9999 _ _ _ hS hp]
  simp only [Program.fieldsOf, Try.underlying40]
  go_simp
  by_cases h1 : a = c <;> by_cases h2 : b = d <;> simp [h1, h2]
theorem eqIn_win (a b c d : Int) (w : World) : (Op.equalIn 10000 52 (.agg #[.int .i64 a, .int .i64 b]) (.agg #[.int .i64 c, .int .i64 d])).run Try.prog w = .ok (decide (a = c ∧ b = d)) w := by
  have hS : Try.prog.underlying 52 = some (.struct (Try.prog.fieldsOf 52)) := by kernel_rfl
  have hp : Try.prog.stoodInHeld 52 = false := by kernel_rfl
  rw [show (10000 : Nat) = 9999 + 1 from rfl, run_equalIn_agg w 9999 _ _ _ hS hp]
  simp only [Program.fieldsOf, Try.underlying52]
  go_simp
  by_cases h1 : a = c <;> by_cases h2 : b = d <;> simp [h1, h2]
set_option maxHeartbeats 1000000 in
theorem eqIn_ch (a b c d e a' b' c' d' e' : Int) (w : World) : (Op.equalIn 10000 54 (.agg #[.int .i64 a, .int .i64 b, .int .i64 c, .int .i64 d, .int .i64 e]) (.agg #[.int .i64 a', .int .i64 b', .int .i64 c', .int .i64 d', .int .i64 e'])).run Try.prog w = .ok (decide (a = a' ∧ b = b' ∧ c = c' ∧ d = d' ∧ e = e')) w := by
  have hS : Try.prog.underlying 54 = some (.struct (Try.prog.fieldsOf 54)) := by kernel_rfl
  have hp : Try.prog.stoodInHeld 54 = false := by kernel_rfl
  rw [show (10000 : Nat) = 9999 + 1 from rfl, run_equalIn_agg w 9999 _ _ _ hS hp]
  simp only [Program.fieldsOf, Try.underlying54]
  go_simp
  by_cases h1 : a = a' <;> by_cases h2 : b = b' <;> by_cases h3 : c = c' <;> by_cases h4 : d = d' <;> by_cases h5 : e = e' <;> simp [h1, h2, h3, h4, h5]
theorem gdR : Try.prog.eqGuardType Try.prog.depth 40 = false := by kernel_rfl
theorem gdW : Try.prog.eqGuardType Try.prog.depth 52 = false := by kernel_rfl
theorem gdC : Try.prog.eqGuardType Try.prog.depth 54 = false := by kernel_rfl

/-! Great. -/
def totI (ps : List PtV) : Nat := (ps.map fun x => x.img.length).sum
theorem totI_take (ps : List PtV) (k : Nat) (h : k < ps.length) : totI (ps.take (k + 1)) = totI (ps.take k) + ps[k].img.length := by
  rw [totI, totI, List.take_succ_eq_append_getElem h, List.map_append, List.sum_append]; simp
theorem totI_le (ps : List PtV) : ∀ x ∈ ps, x.img.length ≤ totI ps := by
  induction ps with
  | nil => intro x hx; simp at hx
  | cons y ps ih =>
    intro x hx
    simp only [totI, List.map_cons, List.sum_cons] at ih ⊢
    rcases List.mem_cons.1 hx with rfl | h
    · omega
    · have := ih x h; omega
def greatV (V : CfgV) : Bool := decide (40 < V.ws.length ∨ 20 < V.ps.length ∨ 40 < V.cs.length) || decide (8000 < totI V.ps)
theorem small_of {V : CfgV} (h : greatV V = false) : SmallV V := by
  unfold greatV at h
  rw [Bool.or_eq_false_iff, decide_eq_false_iff_not, decide_eq_false_iff_not] at h
  refine ⟨by omega, by omega, by omega, fun x hx => ?_⟩
  have := totI_le V.ps x hx
  omega
set_option maxRecDepth 100000 in
set_option maxHeartbeats 1000000 in
theorem cgreat_calls (w : World) (V : CfgV) (h : V.At w) (hb : ∀ x ∈ V.ps, x.img.length ≤ 140737488351232) : Calls Try.prog 18 #[.agg #[.slice V.wa V.ws.length V.wc, .slice V.pa V.ps.length V.pc, .slice V.ca V.cs.length V.cc]] w fun e w' => e = .returned (.bool (greatV V)) ∧ Below w.heap.size w w' := by
  obtain ⟨R, HR⟩ : ∃ R, Hid (R = greatV V) := ⟨_, rfl⟩
  rw [← HR.out]
  obtain ⟨w0, hw0⟩ : ∃ w0, w0 = w.alloc (.cells #[.slice V.wa V.ws.length V.wc, .slice V.pa V.ps.length V.pc, .slice V.ca V.cs.length V.cc] 26) := ⟨_, rfl⟩
  have B0 : Below w.heap.size w w0 := by rw [hw0]; exact (Below.refl _ w).alloc (Nat.le_refl _) _
  have hI : InBox w0 w.heap.size V := by rw [hw0]; exact inBox_new w V _
  have hl1 := h.win.len_le
  have hl2 := h.pts.len_le
  have hl3 := h.chs.len_le
  have HV := Lib.hid (h.stay B0)
  obtain ⟨c0, c1, c2⟩ := hI
  have HB0 := Lib.hid B0
  have HBG := Lib.hid hb
  clear h B0 hb
  by_cases hg : 40 < V.ws.length ∨ 20 < V.ps.length ∨ 40 < V.cs.length
  · have HF : Hid (R = true) := by rw [Hid, HR.out, greatV, decide_eq_true hg]; rfl
    have HG := Lib.hid hg
    clear hg
    go_enter Try.func18, Try.ntmps18
    go_wp2_with fail
    all_goals first
      | (rw [← hw0]; go_ret; exact ⟨ret_bool HF.out.symm, HB0.out⟩)
      | (exfalso; have := HG.out; omega)
  · have HF : Hid (R = decide (8000 < totI V.ps)) := by rw [Hid, HR.out, greatV, decide_eq_false hg]; rfl
    have h1 : V.ws.length ≤ 40 := by omega
    have h2 : V.ps.length ≤ 20 := by omega
    have h3 : V.cs.length ≤ 40 := by omega
    clear hg
    go_enter Try.func18, Try.ntmps18
    go_wp2_with fail
    rw [← hw0]
    clear hw0
    go_wp2_with fail
    go_loopw [3, 4] (fun n i wr => ∃ (k m : Nat), Hid (m = totI (V.ps.take k)) ∧ k ≤ V.ps.length ∧ m ≤ 140737488351232 * k ∧ n = .int .i64 m ∧ i = .int .i64 k ∧ Below w0.heap.size w0 wr) (fun _ i _ => V.ps.length - (intOf i).toNat)
    case atStart => exact ⟨0, 0, rfl, Nat.zero_le _, by omega, rfl, rfl, Below.refl _ _⟩
    case round =>
      obtain ⟨k, m, hm, hk, hmb, rfl, rfl, B⟩ := hrel
      have c0 := keep B c0
      have c1 := keep B c1
      have c2 := keep B c2
      by_cases hlt : k < V.ps.length
      · have i0 := HV.out.pts.index etP k hlt
        obtain ⟨u0, u1, u2, u3, u4⟩ := pts_cells HV.out.pts B k hlt
        have HT := Lib.hid (totI_take V.ps k hlt)
        have hb1 := HBG.out V.ps[k] (List.getElem_mem hlt)
        have hb2 : 140737488351232 * k ≤ 140737488351232 * 20 := by omega
        go_wp2_with fail
        go_roundw
        case rel => exact ⟨k + 1, m + V.ps[k].img.length, by rw [Hid, HT.out, hm.out], by omega, by omega, by go_num, by go_num, B⟩
        case measure => simp [intOf]; omega
      · have hk2 : k = V.ps.length := by omega
        have HE : Hid (R = decide (8000 < m)) := by rw [Hid, HF.out, hm.out, hk2, List.take_length]
        clear hk2
        go_wp2_with fail
        go_ret
        exact ⟨ret_bool (by rw [HE.out]; exact decide_eq_decide.2 (by omega)), HB0.out.trans (B.mono HB0.out.size)⟩

/-! SamePart. -/
theorem pt_eq_iff (x y : PtV) : x.pt = y.pt ↔ x.id.1 = y.id.1 ∧ (x.reg.base.1 = y.reg.base.1 ∧ x.reg.size.1 = y.reg.size.1) ∧ x.keep = y.keep ∧ x.img = y.img := by
  obtain ⟨a, ⟨b, c⟩, d, e, f, g⟩ := x
  obtain ⟨a', ⟨b', c'⟩, d', e', f', g'⟩ := y
  simp only [PtV.pt, Pt.mk.injEq, Reg.mk.injEq, Subtype.ext_iff]
set_option maxRecDepth 100000 in
set_option maxHeartbeats 2000000 in
theorem samepart_calls (w : World) (x y : PtV) (hx : Row w x.a x.img x.c) (hy : Row w y.a y.img y.c) : Calls Try.prog 55 #[.agg #[.int .i64 x.id.1, .int .i64 x.reg.base.1, .int .i64 x.reg.size.1, .bool x.keep, .slice x.a x.img.length x.c], .agg #[.int .i64 y.id.1, .int .i64 y.reg.base.1, .int .i64 y.reg.size.1, .bool y.keep, .slice y.a y.img.length y.c]] w fun e w' => e = .returned (.bool (decide (x.pt = y.pt))) ∧ Below w.heap.size w w' := by
  obtain ⟨R, HR⟩ : ∃ R, Hid (R = decide (x.pt = y.pt)) := ⟨_, rfl⟩
  have HI := Lib.hid (pt_eq_iff x y)
  rw [← HR.out]
  have B1 : ∀ C D, Below w.heap.size w ((w.alloc (.cells C 43)).alloc (.cells D 43)) := fun C D => ((Below.refl _ w).alloc (Nat.le_refl _) _).alloc (by simp) _
  have s1 := fun C D => row_str (hx.stay (B1 C D))
  have s2 := fun C D => row_str (hy.stay (B1 C D))
  have HB1 := Lib.hid B1
  obtain ⟨S, hS⟩ : ∃ S : ByteArray, Hid (S = ⟨x.img.toArray⟩) := ⟨_, rfl⟩
  obtain ⟨T, hT⟩ : ∃ T : ByteArray, Hid (T = ⟨y.img.toArray⟩) := ⟨_, rfl⟩
  simp only [← hS.out] at s1
  simp only [← hT.out] at s2
  have HST : Hid (S.toList = T.toList ↔ x.img = y.img) := by
    rw [Hid, hS.out, hT.out, ByteArray.toList_eq, ByteArray.toList_eq]
  have hq := run_eql_op gdR (.tmp 12) (.tmp 14) (eqIn_reg x.reg.base.1 x.reg.size.1 y.reg.base.1 y.reg.size.1)
  clear hx hy B1
  go_enter Try.func55, Try.ntmps55
  go_wp2_with fail
  all_goals
    go_ret
    refine ⟨ret_bool ?_, HB1.out _ _⟩
    rw [HR.out]
    have hi := HI.out
    have hst := HST.out
    first
      | (refine (decide_eq_false ?_).symm; intro hh; have := hi.1 hh; simp_all; done)
      | (rw [Bool.eq_iff_iff, decide_eq_true_iff, hi]; simp_all; done)
end Go.Proofs.Ytpnbaapjjchlbaa
