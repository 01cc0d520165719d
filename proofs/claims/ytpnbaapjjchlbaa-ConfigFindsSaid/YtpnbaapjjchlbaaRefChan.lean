/- citadelref11.Channel: walked. -/
import Derived.Test.YtpnbaapjjchlbaaChanGet
namespace Go.Proofs.Ytpnbaapjjchlbaa
open Go Go.RowKit Go.Cit

set_option maxRecDepth 100000 in
set_option maxHeartbeats 1000000 in
theorem refchan_calls (w : World) (V : CfgV) (h : V.At w) (id : Int) : Calls Try.prog 54 #[.agg #[.slice V.wa V.ws.length V.wc, .slice V.pa V.ps.length V.pc, .slice V.ca V.cs.length V.cc], .int .i64 id] w fun e w' =>
    e = .returned (.int .i64 (findI (fun x : Ch => decide (x.id.1 = id)) V.cs)) ∧ Below w.heap.size w w' := by
  obtain ⟨R, HR⟩ : ∃ R, Hid (R = findI (fun x : Ch => decide (x.id.1 = id)) V.cs) := ⟨_, rfl⟩
  rw [← HR.out]
  obtain ⟨w0, hw0⟩ : ∃ w0, w0 = w.alloc (.cells #[.slice V.wa V.ws.length V.wc, .slice V.pa V.ps.length V.pc, .slice V.ca V.cs.length V.cc] 26) := ⟨_, rfl⟩
  have B0 : Below w.heap.size w w0 := by rw [hw0]; exact (Below.refl _ w).alloc (Nat.le_refl _) _
  obtain ⟨d0, d1, d2⟩ := box3 w (.slice V.wa V.ws.length V.wc) (.slice V.pa V.ps.length V.pc) (.slice V.ca V.cs.length V.cc) 26
  rw [← hw0] at d0 d1 d2
  have HB0 := Lib.hid B0
  have HV := Lib.hid (h.stay B0)
  have hlen := h.chs.len_le
  clear h B0
  go_enter Try.func54, Try.ntmps54
  go_wp2_with fail
  rw [← hw0]
  clear hw0
  go_loopw [5] (fun i wr => ∃ (k : Nat), Hid (∀ j (hj : j < V.cs.length), j < k → decide (V.cs[j].id.1 = id) = false) ∧ k ≤ V.cs.length ∧ i = .int .i64 k ∧ Below w0.heap.size w0 wr) (fun i _ => V.cs.length - (intOf i).toNat)
  case atStart => exact ⟨0, fun j hj h => by omega, by omega, rfl, Below.refl _ _⟩
  case round =>
    obtain ⟨k, ha, hk, rfl, B⟩ := hrel
    have d0 := keep B d0
    have d1 := keep B d1
    have d2 := keep B d2
    by_cases hlt : k < V.cs.length
    · have i0 := HV.out.chs.index etC k hlt
      obtain ⟨u0, u1, u2, u3, u4⟩ := chs_cells HV.out.chs B k hlt
      have HB := Lib.hid B
      clear B
      by_cases hq : V.cs[k].id.1 = id
      · have HF : Hid (R = k) := by rw [Hid, HR.out]; exact findI_hit _ _ k hlt ha.out (by simpa using hq)
        go_wp2_with fail
        all_goals
          go_ret
          exact ⟨ret_int HF.out.symm, HB0.out.trans (HB.out.mono HB0.out.size)⟩
      · have HN : Hid (∀ j (hj : j < V.cs.length), j < k + 1 → decide (V.cs[j].id.1 = id) = false) := fun j hj h => by
          rcases Nat.lt_or_ge j k with h1 | h1
          · exact ha.out j hj h1
          · obtain rfl : j = k := by omega
            simpa using hq
        go_wp2_with fail
        go_roundw
        case rel => exact ⟨k + 1, HN.out, by omega, by go_num, HB.out⟩
        case measure => simp [intOf]; omega
    · have HF : Hid (R = -1) := by rw [Hid, HR.out]; exact findI_none _ _ (fun j hj => ha.out j hj (by omega))
      go_wp2_with fail
      go_ret
      exact ⟨ret_int HF.out.symm, HB0.out.trans (B.mono HB0.out.size)⟩
end Go.Proofs.Ytpnbaapjjchlbaa
