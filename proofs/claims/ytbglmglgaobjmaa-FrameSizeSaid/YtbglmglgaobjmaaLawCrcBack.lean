/- CrcBack: what was put is checked as it was; with one byte otherwise it isn't. The walk of the law. -/
import Derived.Test.YtbglmglgaobjmaaCrcAwake
import Derived.Test.YtbglmglgaobjmaaCrcMore
import Derived.Test.YtbglmglgaobjmaaWordsLaw
namespace Go.Proofs.Ytbglmglgaobjmaa
open Go Go.RowKit Go.Cit

theorem qOfW_lt (x : UInt32) : (qOfW x).toNat < 4294967296 := by
  have := x.toNat_lt
  show (x.toUInt64).toNat < _
  rw [UInt32.toNat_toUInt64]; omega
theorem row4_inj {s t : UInt32} (h : rowB (qOfW s) 4 = rowB (qOfW t) 4) : s = t := by
  simp only [rowB, List.cons.injEq, and_true] at h
  obtain ⟨h3, h2, h1, h0⟩ := h
  have g3 := congrArg UInt8.toNat h3
  have g2 := congrArg UInt8.toNat h2
  have g1 := congrArg UInt8.toNat h1
  have g0 := congrArg UInt8.toNat h0
  rw [byte_dv, byte_dv] at g3 g2 g1 g0
  have a := qOfW_lt s
  have b := qOfW_lt t
  have e : (qOfW s).toNat = (qOfW t).toNat := by omega
  apply UInt32.toNat_inj.1
  simpa [qOfW] using e

theorem body_put (l : List UInt8) : bodyB (putB l) = l := by
  rw [bodyB, putB_length, putB, Nat.add_sub_cancel, List.take_left]
theorem ok_put (l : List UInt8) : okB (putB l) = true := by
  rw [okB, body_put, putB_length]; simp
theorem chk_put (l : List UInt8) : chkB (putB l) = l := by
  rw [chkB, ok_put, body_put]; rfl

/-- Two rows with the right sum behind them: if the sums agree the rows do, in all that the sum can tell. -/
theorem put_other (l : List UInt8) (k : Nat) (v : UInt8) (hk : k < (putB l).length) (hv : (putB l)[k] ≠ v) : okB ((putB l).set k v) = false := by
  cases ho : okB ((putB l).set k v) with
  | false => rfl
  | true =>
    exfalso
    rw [okB, Bool.and_eq_true, decide_eq_true_eq, decide_eq_true_eq] at ho
    have hp := ho.2
    have hL : ((putB l).set k v).length = l.length + 4 := by rw [List.length_set, putB_length]
    by_cases h : k < l.length
    · have e1 : (putB l).set k v = l.set k v ++ rowB (qOfW (addP 0 l)) 4 := by rw [putB, List.set_append_left _ _ h]
      have e2 : bodyB ((putB l).set k v) = l.set k v := by
        rw [bodyB, hL, Nat.add_sub_cancel, e1, List.take_append_of_le_length (by simp), List.take_of_length_le (by simp)]
      rw [e2, e1, putB] at hp
      have h3 := row4_inj (List.append_cancel_left hp)
      have hs : l.set k v = l.take k ++ v :: l.drop (k + 1) := by
        rw [List.set_eq_take_append_cons_drop, if_pos h]
      have hl : l = l.take k ++ l[k] :: l.drop (k + 1) := by
        rw [List.getElem_cons_drop, List.take_append_drop]
      have hne : v ≠ l[k] := by
        intro e
        apply hv
        rw [e]
        simp [putB, List.getElem_append_left h]
      have := sum_one (l.take k) (l.drop (k + 1)) v l[k] hne
      rw [← hs, ← hl] at this
      exact this h3
    · have e2 : bodyB ((putB l).set k v) = l := by
        rw [bodyB, hL, Nat.add_sub_cancel, putB, List.set_append_right _ _ (by omega), List.take_left]
      rw [e2] at hp
      have : (putB l)[k] = ((putB l).set k v)[k]'(by rw [List.length_set]; exact hk) := by simp only [← hp]
      rw [List.getElem_set_self] at this
      exact hv this

theorem xor_ne (x o : UInt8) (h : o ≠ 0) : x ≠ bXor x o := by
  intro e
  apply h
  have : x ^^^ x = x ^^^ (x ^^^ o) := by
    have e2 : x ^^^ o = x := e.symm
    rw [e2]
  rw [← UInt8.xor_assoc, UInt8.xor_self, UInt8.zero_xor] at this
  exact this.symm

set_option maxHeartbeats 4000000 in
theorem crcBack_law (w : World) (a0 : Option Addr) (l : List UInt8) (c0 : Nat) (at_ : Int) (over : UInt8) (h0 : Row w a0 l c0) (hat : -9223372036854775808 ≤ at_ ∧ at_ ≤ 9223372036854775807) :
    Calls Try.prog 11 #[.slice a0 l.length c0, .int .i64 at_, vb over] w fun e w' => e = .returned (.bool true) ∧ Below w.heap.size w w' := by
  go_enter Try.func11, Try.ntmps11
  go_wp2_with fail
  refine (crcAwake_calls _).mono ?_
  rintro e w1 ⟨rfl, hb1⟩
  have r1 := h0.stay hb1
  clear h0
  by_cases hl : 1000 < l.length
  · go_wp2_with fail
    go_ret
    exact ⟨rfl, hb1⟩
  go_wp2_with fail
  refine (crcput_calls _ _ _ _ r1 (by omega)).mono ?_
  rintro e w2 ⟨a2, X, c2, HX, rfl, hm2, hb2⟩
  have HL : Hid (X.length = l.length + 4) := by rw [Hid, HX.out, putB_length]
  have hXl : X.length ≤ 1004 := by rw [HL.out]; omega
  have HO : Hid (okB X = true) := by rw [Hid, HX.out]; exact ok_put l
  have r2 := r1.stay hb2
  have B2 := hb1.trans (hb2.mono hb1.size)
  have B1 := hb1
  clear r1 hb1
  go_wp2_with fail
  refine (crccheck_calls _ _ _ _ hm2.row (by omega)).mono ?_
  rintro e w3 ⟨a3, Y, c3, HY, rfl, hm3, hb3⟩
  have hYl : (ordB Y l == 0) = true := by rw [HY.out, HX.out, chk_put]; exact ordB_self l
  have r3 := r2.stay hb3
  have m3 := hm2.stay hb3
  have B3 := B2.trans (hb3.mono B2.size)
  have ok1 := HO.out
  have g4 : ((X.length : Int) != (l.length : Int) + 4) = false := by rw [HL.out]; simp
  have z2 := B1.size
  clear hm2 hb3 r2 B2 hb2
  go_wp2_with fail
  refine (wsame_calls _ _ _ _ _ _ _ hm3.row r3).mono ?_
  rintro e w4 ⟨rfl, rfl⟩
  by_cases h1 : at_ < 0
  · go_wp2_with fail
    go_ret
    exact ⟨rfl, B3⟩
  by_cases h2 : (X.length : Int) ≤ at_
  · go_wp2_with fail
    go_ret
    exact ⟨rfl, B3⟩
  obtain ⟨k, rfl⟩ : ∃ k : Nat, at_ = k := ⟨at_.toNat, by omega⟩
  have hk : k < X.length := by omega
  by_cases h3 : over = 0
  · have g3 : (over == bI 0) = true := by rw [h3]; rfl
    clear h3
    go_wp2_with fail
    go_ret
    exact ⟨rfl, B3⟩
  have g3 : (over == bI 0) = false := by simpa [bI] using h3
  have i0 := m3.row.index bt.slice bt.sz k hk
  have e0 := m3.cellOf hk
  have f0 := m3.free k hk
  have HS := Lib.hid (m3.stored k hk (bXor X[k] over))
  have HN : Hid (okB (X.set k (bXor X[k] over)) = false) := by
    have hx := HX.out
    subst hx
    exact put_other l k _ hk (xor_ne _ _ h3)
  have hlen : Hid ((X.set k (bXor X[k] over)).length = X.length) := by rw [Hid, List.length_set]
  clear h3 m3 HX HY HO
  go_wp2_with fail
  obtain ⟨mS, cS, bS⟩ := HS.out
  have hc := crccheck_calls _ _ _ _ mS.row (by rw [hlen.out]; omega)
  rw [hlen.out, HN.out] at hc
  refine Calls.mono hc ?_
  rintro e w5 ⟨a5, Z, c5, HZ, rfl, hm5, hb5⟩
  have B5 := (B3.trans (bS.mono z2)).trans (hb5.mono (Nat.le_trans B3.size bS.size))
  clear hc mS cS bS HS HN hlen
  go_wp2_with fail
  go_ret
  exact ⟨rfl, B5⟩
end Go.Proofs.Ytbglmglgaobjmaa
