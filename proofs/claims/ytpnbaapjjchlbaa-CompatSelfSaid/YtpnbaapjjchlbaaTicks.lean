/- schedule.Whole, schedule.Ticks: walked. -/
import Derived.Test.YtpnbaapjjchlbaaValid
import Derived.Test.YtpnbaapjjchlbaaVAll
import Derived.Test.YtpnbaapjjchlbaaVals
namespace Go.Proofs.Ytpnbaapjjchlbaa
open Go Go.RowKit Go.Cit

def repW (x : Win) : List Int := List.replicate x.len.1.toNat x.part.1
def wholeL (l : List Win) : List Int := if mayW l then l.flatMap repW else []
theorem rep_len (l : List Win) (h : l.all winOk = true) (k : Nat) : ((l.take k).flatMap repW).length ≤ 64 * k := by
  induction k with
  | zero => simp
  | succ k ih =>
    by_cases hk : k < l.length
    · have hw := List.all_eq_true.1 h l[k] (List.getElem_mem hk)
      simp only [winOk, decide_eq_true_eq] at hw
      rw [List.take_succ_eq_append_getElem hk, List.flatMap_append, List.length_append]
      have : (List.flatMap repW [l[k]]).length = l[k].len.1.toNat := by simp [repW]
      omega
    · rw [List.take_of_length_le (by omega)]
      rw [List.take_of_length_le (by omega)] at ih
      omega
set_option maxRecDepth 100000 in
set_option maxHeartbeats 2000000 in
theorem whole_calls (w : World) (a0 : Option Addr) (l : List Win) (c0 : Nat) (h : Vec cWin 2 w a0 l c0) : Calls Try.prog 74 #[.slice a0 l.length c0] w fun e w' => ∃ a c, e = .returned (.slice a (wholeL l).length c) ∧ VOwn cZ 1 3 w.heap.size w' a (wholeL l) c ∧ (wholeL l).length ≤ 768 ∧ Below w.heap.size w w' := by
  obtain ⟨M, HM⟩ : ∃ R, Hid (R = wholeL l) := ⟨_, rfl⟩
  rw [← HM.out]
  have HV := Lib.hid h
  have HC := Lib.hid (smay_calls w a0 l c0 h)
  have hlen := h.len_le
  obtain ⟨m, hm⟩ : ∃ m, Hid (m = mayW l) := ⟨_, rfl⟩
  rw [← hm.out] at HC
  clear h
  cases m with
  | false =>
    have HF : Hid (M = []) := by rw [Hid, HM.out, wholeL, ← hm.out]; rfl
    go_enter Try.func74, Try.ntmps74
    go_wp2_with fail
    refine (HC.out).mono ?_
    rintro e w1 ⟨rfl, hb1⟩
    have HB1 := Lib.hid hb1
    clear hb1
    go_wp2_with fail
    go_ret
    refine ⟨none, 0, by rw [HF.out]; rfl, by rw [HF.out]; exact VOwn.nil_ _ _ _ _ _, by rw [HF.out]; decide, HB1.out⟩
  | true =>
    have HF : Hid (M = l.flatMap repW) := by rw [Hid, HM.out, wholeL, ← hm.out]; rfl
    have hm' : 1 ≤ l.length ∧ l.length ≤ 12 ∧ l.all winOk = true := by
      have := hm.out.symm
      simp only [mayW, Bool.and_eq_true, decide_eq_true_eq] at this
      exact ⟨this.1.1, this.1.2, this.2.1⟩
    have HOK := Lib.hid hm'
    clear hm'
    go_enter Try.func74, Try.ntmps74
    go_wp2_with fail
    refine (HC.out).mono ?_
    rintro e w1 ⟨rfl, hb1⟩
    have HB1 := Lib.hid hb1
    clear hb1
    go_wp2_with fail
    go_loopw [3, 11] (fun s i wr => ∃ (k : Nat) (a : Option Addr) (L : List Int) (c : Nat), s = .slice a L.length c ∧ i = .int .i64 k ∧ k ≤ l.length ∧ Hid (L = (l.take k).flatMap repW) ∧ VOwn cZ 1 3 w.heap.size wr a L c ∧ Below w.heap.size w wr) (fun _ i _ => l.length - (intOf i).toNat)
    case atStart => exact ⟨0, none, [], 0, rfl, rfl, Nat.zero_le _, rfl, VOwn.nil_ _ _ _ _ _, HB1.out⟩
    case round =>
      obtain ⟨k, a, L, c, rfl, rfl, hk, HL, hO, B⟩ := hrel
      by_cases hlt : k < l.length
      · have hv := HV.out.stay cWin_len B
        have i0 := hv.index etW k hlt
        have u0 := hv.field0 k hlt (by decide) rfl
        have u1 := hv.field k hlt 1 (by decide) rfl
        have HW : Hid (winOk l[k] = true) := List.all_eq_true.1 HOK.out.2.2 l[k] (List.getElem_mem hlt)
        have HL9 : Hid (L.length ≤ 64 * k) := by rw [Hid, HL.out]; exact rep_len l HOK.out.2.2 k
        have HT : Hid (l.take (k + 1) = l.take k ++ [l[k]]) := List.take_succ_eq_append_getElem hlt
        obtain ⟨x, hx⟩ : ∃ x, Hid (x = l[k]) := ⟨l[k], rfl⟩
        rw [← hx.out] at u0 u1 HW HT
        obtain ⟨wb, hwb⟩ : ∃ wb, wb = wr.alloc (.cells #[.int .i64 x.len.1, .int .i64 x.part.1] 52) := ⟨_, rfl⟩
        obtain ⟨g, hg⟩ : ∃ g, Hid (g = wr.heap.size) := ⟨_, rfl⟩
        have hBb : Below wr.heap.size wr wb := by rw [hwb]; exact (Below.refl _ _).alloc (Nat.le_refl _) _
        have HX : Hid (wb.heap[g]? = some (.cells #[.int .i64 x.len.1, .int .i64 x.part.1] 52 (0, 0))) := by rw [hwb, hg.out]; exact heap_alloc_new _ _
        have hna : ∀ j, blk a = some j → j ≠ g := fun j hj => by have := (hO.blk_ge hj).2; have := hg.out; omega
        have HO := Lib.hid (And.intro (hO.stay hBb) (And.intro (B.trans (hBb.mono B.size)) hna))
        have HGB : Hid (w.heap.size ≤ g) := by rw [Hid, hg.out]; exact B.size
        obtain ⟨n, hn⟩ : ∃ n : Nat, Hid (n = x.len.1.toNat) := ⟨_, rfl⟩
        have hxw := HW.out
        simp only [winOk, decide_eq_true_eq] at hxw
        have HXN : Hid (x.len.1 = (n : Int) ∧ n ≤ 64) := by have := hn.out; exact ⟨by omega, by omega⟩
        clear hv hBb hO hxw hna
        go_wp2_with fail
        rw [← hwb, ← hg.out, HXN.out.1]
        clear hwb
        go_loopw [3, 17] (fun s i wr2 => ∃ (j : Nat) (a : Option Addr) (M : List Int) (c : Nat), s = .slice a M.length c ∧ i = .int .i64 j ∧ j ≤ n ∧ Hid (M = L ++ List.replicate j x.part.1) ∧ VOwn cZ 1 3 w.heap.size wr2 a M c ∧ Below w.heap.size w wr2 ∧ wr2.heap[g]? = some (.cells #[.int .i64 x.len.1, .int .i64 x.part.1] 52 (0, 0)) ∧ (∀ j, blk a = some j → j ≠ g)) (fun _ i _ => n - (intOf i).toNat)
        case atStart => exact ⟨0, a, L, c, rfl, rfl, Nat.zero_le _, by rw [Hid]; simp, HO.out.1, HO.out.2.1, HX.out, HO.out.2.2⟩
        case round =>
          obtain ⟨j, a2, L2, c2, rfl, rfl, hj, HL2, hO2, B2, hX2, hne⟩ := hrel
          by_cases hjl : j < n
          · have p1 : wr.cell? ⟨g, 1, none⟩ = some (.int .i64 x.part.1) := by rw [World.cell?, hX2]; rfl
            have HO2 := Lib.hid (And.intro hO2 (And.intro B2 (And.intro hX2 hne)))
            have HL3 : Hid (L2.length + 1 ≤ 1000000000) := by have := HL9.out; have := HOK.out.2.1; have := HXN.out.2; have := HL2.out; have h3 := congrArg List.length this; rw [List.length_append, List.length_replicate] at h3; rw [Hid]; omega
            have HXJ := HXN.out.2
            clear hO2 B2 hX2 hne
            go_wp2_with ((with_reducible refine wpList_vapp1 (o := ⟨some 23, .call _, _, _, _, _⟩) etI cZ_len cZ_one (y := x.part.1) (.tmp 19) (.tmp 22) (by with_unfolding_all rfl) (by with_unfolding_all rfl) HO2.out.1 (by with_unfolding_all rfl) HL3.out HO2.out.2.1.size (by with_unfolding_all rfl) (by with_unfolding_all rfl) ?_); intro a4 c4 w4 hO4 hg4 hn4; have HO4 := Lib.hid (And.intro hO4 (And.intro hg4 hn4)); clear hO4 hg4 hn4)
            go_roundw
            case rel => exact ⟨j + 1, a4, L2 ++ [x.part.1], c4, by simp, by go_num, by omega, by rw [Hid, HL2.out, List.replicate_succ', List.append_assoc], HO4.out.1, HO2.out.2.1.trans (HO2.out.1.grown HO4.out.2.1 HO2.out.2.1.size), by
                have hlt := (Array.getElem?_eq_some_iff.1 HO2.out.2.2.1).1
                exact (HO4.out.2.1.block g hlt (fun e => HO2.out.2.2.2 g e.symm rfl)).trans HO2.out.2.2.1, fun i hi => by
                rcases HO4.out.2.2 i hi with h | h
                · exact HO2.out.2.2.2 i h
                · have hlt := (Array.getElem?_eq_some_iff.1 HO2.out.2.2.1).1; omega⟩
            case measure => simp [intOf]; omega
          · have hjn : j = n := by omega
            have HF2 : Hid (L2 = (l.take (k + 1)).flatMap repW) := by
              rw [Hid, HT.out, List.flatMap_append, ← HL.out, HL2.out, hjn]
              simp [repW, hn.out]
            have HO2 := Lib.hid (And.intro hO2 B2)
            clear hO2 B2 hX2 hne hjn
            go_wp2_with fail
            go_roundw
            case rel => exact ⟨k + 1, a2, L2, c2, rfl, by go_num, by omega, HF2.out, HO2.out.1, HO2.out.2⟩
            case measure => simp [intOf]; omega
      · have hk2 : k = l.length := by omega
        have HF2 : Hid (L = M) := by rw [Hid, HL.out, HF.out, hk2, List.take_length]
        have HL9 : Hid (L.length ≤ 768) := by rw [Hid, HL.out]; have := rep_len l HOK.out.2.2 k; have := HOK.out.2.1; omega
        have HO := Lib.hid (And.intro hO B)
        clear hk2 hO B
        go_wp2_with fail
        go_ret
        refine ⟨a, c, ?_, by rw [← HF2.out]; exact HO.out.1, by rw [← HF2.out]; exact HL9.out, HO.out.2⟩
        rw [← HF2.out]
        rfl

def ticksL (l : List Win) (id : Int) : Nat := (wholeL l).countP (fun z => decide (z = id))
set_option maxRecDepth 100000 in
set_option maxHeartbeats 2000000 in
theorem ticks_calls (w : World) (a0 : Option Addr) (l : List Win) (c0 : Nat) (h : Vec cWin 2 w a0 l c0) (id : Int) : Calls Try.prog 33 #[.slice a0 l.length c0, .int .i64 id] w fun e w' => e = .returned (.int .i64 (ticksL l id)) ∧ Below w.heap.size w w' := by
  obtain ⟨R, HR⟩ : ∃ R, Hid (R = ticksL l id) := ⟨_, rfl⟩
  rw [← HR.out]
  have HC := Lib.hid (whole_calls w a0 l c0 h)
  obtain ⟨M, HM⟩ : ∃ M, Hid (M = wholeL l) := ⟨_, rfl⟩
  rw [← HM.out] at HC
  have HRM : Hid (R = M.countP (fun z => decide (z = id))) := by rw [Hid, HR.out, ticksL, ← HM.out]
  clear h
  go_enter Try.func33, Try.ntmps33
  go_wp2_with fail
  refine (HC.out).mono ?_
  rintro e w1 ⟨a, c, rfl, hO, hl9, hb1⟩
  have HV := Lib.hid (hO.vec cZ_len)
  have HB1 := Lib.hid hb1
  clear hO hb1
  go_wp2_with fail
  go_loopw [5, 11] (fun s i wr => ∃ (k n : Nat), s = .int .i64 n ∧ i = .int .i64 k ∧ k ≤ M.length ∧ n ≤ k ∧ Hid (n = (M.take k).countP (fun z => decide (z = id))) ∧ Below w1.heap.size w1 wr) (fun _ i _ => M.length - (intOf i).toNat)
  case atStart => exact ⟨0, 0, rfl, rfl, Nat.zero_le _, Nat.le_refl _, rfl, Below.refl _ _⟩
  case round =>
    obtain ⟨k, n, rfl, rfl, hk, hnk, Hn, B⟩ := hrel
    by_cases hlt : k < M.length
    · have hv := HV.out.stay cZ_len B
      have i0 := hv.index etI k hlt
      have u0 := hv.field0 k hlt (by decide) rfl
      rw [Nat.mul_one] at i0 u0
      have HT : Hid ((M.take (k + 1)).countP (fun z => decide (z = id)) = (M.take k).countP (fun z => decide (z = id)) + if M[k] = id then 1 else 0) := by
        rw [Hid, List.take_succ_eq_append_getElem hlt, List.countP_append, List.countP_singleton]
        simp
      obtain ⟨x, hx⟩ : ∃ x, Hid (x = M[k]) := ⟨M[k], rfl⟩
      rw [← hx.out] at u0 HT
      have HBB := Lib.hid B
      clear hv B
      by_cases hq : x = id
      · have t1 : (x == id) = true := by rw [hq]; simp
        have HN : Hid (n + 1 = (M.take (k + 1)).countP (fun z => decide (z = id))) := by rw [Hid, HT.out, ← Hn.out, if_pos hq]
        clear hq
        go_wp2_with fail
        go_roundw
        case rel => exact ⟨k + 1, n + 1, by go_num, by go_num, by omega, by omega, HN.out, HBB.out⟩
        case measure => simp [intOf]; omega
      · have t1 : (x == id) = false := by simpa using hq
        have HN : Hid (n = (M.take (k + 1)).countP (fun z => decide (z = id))) := by rw [Hid, HT.out, ← Hn.out, if_neg hq, Nat.add_zero]
        clear hq
        go_wp2_with fail
        go_roundw
        case rel => exact ⟨k + 1, n, rfl, by go_num, by omega, by omega, HN.out, HBB.out⟩
        case measure => simp [intOf]; omega
    · have hk2 : k = M.length := by omega
      have HF : Hid (R = n) := by rw [Hid, HRM.out, Hn.out, hk2, List.take_length]
      have HBB := Lib.hid (HB1.out.trans (B.mono HB1.out.size))
      clear hk2 B
      go_wp2_with fail
      go_ret
      exact ⟨ret_int (by rw [HF.out]), HBB.out⟩
end Go.Proofs.Ytpnbaapjjchlbaa
