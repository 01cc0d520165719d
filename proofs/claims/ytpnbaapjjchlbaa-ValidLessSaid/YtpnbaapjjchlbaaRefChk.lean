/- The reference's Check: walked, on what its All answers. -/
import Derived.Test.YtpnbaapjjchlbaaVChk
namespace Go.Proofs.Ytpnbaapjjchlbaa
open Go Go.RowKit Go.Cit

/-- What the reference's All is to answer (proved in XRefAll; here a word alone, so that the texts on it need not wait). -/
def RefAllIs : Prop := ∀ (w : World) (V : CfgV), V.At w → SmallV V → Calls Try.prog 21 #[.agg #[.slice V.wa V.ws.length V.wc, .slice V.pa V.ps.length V.pc, .slice V.ca V.cs.length V.cc]] w fun e w' => ∃ a c, e = .returned (.slice a (errs V).length c) ∧ Vec cZ 1 w' a (errs V) c ∧ Below w.heap.size w w'

set_option maxRecDepth 100000 in
set_option maxHeartbeats 2000000 in
theorem refcheck_calls (hAll : RefAllIs) (w : World) (V : CfgV) (h : V.At w) (hs : SmallV V) : Calls Try.prog 23 #[.agg #[.slice V.wa V.ws.length V.wc, .slice V.pa V.ps.length V.pc, .slice V.ca V.cs.length V.cc]] w fun e w' => e = .returned (.int .i64 (chkV V)) ∧ Below w.heap.size w w' := by
  have B0 : Below w.heap.size w (w.alloc (.cells #[.slice V.wa V.ws.length V.wc, .slice V.pa V.ps.length V.pc, .slice V.ca V.cs.length V.cc] 26)) := (Below.refl _ w).alloc (Nat.le_refl _) _
  have HC := Lib.hid (hAll _ V (h.stay B0) hs)
  have HB0 := Lib.hid B0
  obtain ⟨L, hL⟩ : ∃ L, Hid (L = errs V) := ⟨_, rfl⟩
  have HR : Hid (chkV V = L.head?.getD 0) := by rw [Hid, hL.out]; rfl
  have HLL : L.length ≤ 5 := by rw [hL.out]; exact errs_len V
  obtain ⟨R, HR2⟩ : ∃ R, Hid (R = chkV V) := ⟨_, rfl⟩
  rw [← hL.out] at HC
  rw [← HR2.out] at HR ⊢
  clear h B0 hAll
  cases L with
  | nil =>
    have HRZ : Hid (R = 0) := by rw [Hid, HR.out]; rfl
    go_enter Try.func23, Try.ntmps23
    go_wp2_with fail
    refine (HC.out).mono ?_
    rintro e w2 ⟨a, c, rfl, hO, hb2⟩
    have HB2 := Lib.hid (HB0.out.trans (hb2.mono HB0.out.size))
    clear hO hb2
    go_wp2_with fail
    go_ret
    exact ⟨ret_int HRZ.out.symm, HB2.out⟩
  | cons z L =>
    have HRZ : Hid (R = z) := by rw [Hid, HR.out]; rfl
    go_enter Try.func23, Try.ntmps23
    go_wp2_with fail
    refine (HC.out).mono ?_
    rintro e w2 ⟨a, c, rfl, hv, hb2⟩
    have HB2 := Lib.hid (HB0.out.trans (hb2.mono HB0.out.size))
    have i0 := hv.index etI 0 (by simp)
    have d0 := hv.field0 0 (by simp) (by decide) rfl
    rw [show ((0 : Nat) : Int) = 0 from rfl, Nat.zero_mul, List.length_cons] at i0
    rw [Nat.zero_mul] at d0
    have e1 : ((((L.length + 1 : Nat) : Int)) == 0) = false := by simp; omega
    have e2 : ((L.length + 1) == 0) = false := by simp
    clear hb2 hv
    go_wp2_with fail
    go_ret
    exact ⟨ret_int HRZ.out.symm, HB2.out⟩
end Go.Proofs.Ytpnbaapjjchlbaa
