/- valid.Check, Fits: walked. -/
import Derived.Test.YtpnbaapjjchlbaaVAll
namespace Go.Proofs.Ytpnbaapjjchlbaa
open Go Go.RowKit Go.Cit

def chkV (V : CfgV) : Int := (errs V).head?.getD 0
theorem errs_ne (V : CfgV) : ∀ e ∈ errs V, e ≠ 0 := by
  intro e he
  unfold errs errsTo at he
  obtain ⟨x, hx, rfl⟩ := List.mem_map.1 he
  have hx := List.mem_of_mem_take (List.mem_filter.1 hx).1
  simp [bads] at hx
  rcases hx with rfl | rfl | rfl | rfl | rfl <;> simp
theorem chkV_zero (V : CfgV) : (chkV V = 0) = (errs V = []) := by
  have h := errs_ne V
  unfold chkV
  cases he : errs V with
  | nil => simp
  | cons x l => simp; exact h x (by rw [he]; simp)
theorem errs_len (V : CfgV) : (errs V).length ≤ 5 := errsTo_len V 5
theorem box1c (w : World) (V : CfgV) : (w.alloc (.cells #[.slice V.wa V.ws.length V.wc, .slice V.pa V.ps.length V.pc, .slice V.ca V.cs.length V.cc] 26)).cell? ⟨w.heap.size, 0, none⟩ = some (.slice V.wa V.ws.length V.wc) := (inBox_new w V _).c0

set_option maxRecDepth 100000 in
set_option maxHeartbeats 2000000 in
theorem vcheck_calls (w : World) (V : CfgV) (h : V.At w) (hs : SmallV V) : Calls Try.prog 22 #[.agg #[.slice V.wa V.ws.length V.wc, .slice V.pa V.ps.length V.pc, .slice V.ca V.cs.length V.cc]] w fun e w' => e = .returned (.int .i64 (chkV V)) ∧ Below w.heap.size w w' := by
  have B0 : Below w.heap.size w (w.alloc (.cells #[.slice V.wa V.ws.length V.wc, .slice V.pa V.ps.length V.pc, .slice V.ca V.cs.length V.cc] 26)) := (Below.refl _ w).alloc (Nat.le_refl _) _
  have HC := Lib.hid (vall_calls _ V (h.stay B0) hs)
  have HB0 := Lib.hid B0
  obtain ⟨L, hL⟩ : ∃ L, Hid (L = errs V) := ⟨_, rfl⟩
  have HR : Hid (chkV V = L.head?.getD 0) := by rw [Hid, hL.out]; rfl
  have HLL : L.length ≤ 5 := by rw [hL.out]; exact errs_len V
  obtain ⟨R, HR2⟩ : ∃ R, Hid (R = chkV V) := ⟨_, rfl⟩
  rw [← hL.out] at HC
  rw [← HR2.out] at HR ⊢
  clear h B0
  cases L with
  | nil =>
    have HRZ : Hid (R = 0) := by rw [Hid, HR.out]; rfl
    go_enter Try.func22, Try.ntmps22
    go_wp2_with fail
    refine (HC.out).mono ?_
    rintro e w2 ⟨a, c, rfl, hO, hb2⟩
    have HB2 := Lib.hid (HB0.out.trans (hb2.mono HB0.out.size))
    clear hO hb2
    go_wp2_with fail
    go_loopw [8] (fun s wr => s = .int .i64 0 ∧ wr = w2) (fun _ _ => 0)
    case atStart => exact ⟨rfl, rfl⟩
    case round =>
      obtain ⟨rfl, hwr⟩ := hrel
      subst hwr
      go_wp2_with fail
      go_ret
      exact ⟨ret_int HRZ.out.symm, HB2.out⟩
  | cons z L =>
    have HRZ : Hid (R = z) := by rw [Hid, HR.out]; rfl
    go_enter Try.func22, Try.ntmps22
    go_wp2_with fail
    refine (HC.out).mono ?_
    rintro e w2 ⟨a, c, rfl, hO, hb2⟩
    have HB2 := Lib.hid (HB0.out.trans (hb2.mono HB0.out.size))
    have hv := hO.vec cZ_len
    have i0 := hv.index etE 0 (by simp)
    have d0 := hv.field0 0 (by simp) (by decide) rfl
    rw [show ((0 : Nat) : Int) = 0 from rfl, Nat.zero_mul, List.length_cons] at i0
    rw [Nat.zero_mul] at d0
    clear hO hb2 hv
    go_wp2_with fail
    go_loopw [8] (fun s wr => s = .int .i64 0 ∧ wr = w2) (fun _ _ => 0)
    case atStart => exact ⟨rfl, rfl⟩
    case round =>
      obtain ⟨rfl, hwr⟩ := hrel
      subst hwr
      go_wp2_with fail
      go_ret
      exact ⟨ret_int HRZ.out.symm, HB2.out⟩

def fitsV (V : CfgV) : Bool := decide (errs V = [])
theorem fits_calls (w : World) (V : CfgV) (h : V.At w) (hs : SmallV V) : Calls Try.prog 24 #[.agg #[.slice V.wa V.ws.length V.wc, .slice V.pa V.ps.length V.pc, .slice V.ca V.cs.length V.cc]] w fun e w' => e = .returned (.bool (fitsV V)) ∧ Below w.heap.size w w' := by
  have B0 : Below w.heap.size w (w.alloc (.cells #[.slice V.wa V.ws.length V.wc, .slice V.pa V.ps.length V.pc, .slice V.ca V.cs.length V.cc] 26)) := (Below.refl _ w).alloc (Nat.le_refl _) _
  have HC := Lib.hid (vcheck_calls _ V (h.stay B0) hs)
  have HB0 := Lib.hid B0
  have HF : Hid (fitsV V = decide (chkV V = 0)) := by rw [Hid, fitsV]; exact decide_eq_decide.2 (by rw [chkV_zero])
  obtain ⟨R, HR⟩ : ∃ R, Hid (R = fitsV V) := ⟨_, rfl⟩
  obtain ⟨z, hz⟩ : ∃ z, Hid (z = chkV V) := ⟨_, rfl⟩
  rw [← HR.out, ← hz.out] at HF
  rw [← hz.out] at HC
  rw [← HR.out]
  clear h B0
  go_enter Try.func24, Try.ntmps24
  go_wp2_with fail
  refine (HC.out).mono ?_
  rintro e w2 ⟨rfl, hb2⟩
  have HB2 := Lib.hid (HB0.out.trans (hb2.mono HB0.out.size))
  clear hb2
  go_wp2_with fail
  go_ret
  exact ⟨ret_bool (by rw [HF.out]; rfl), HB2.out⟩
end Go.Proofs.Ytpnbaapjjchlbaa
