/- channel.part, May, All; the reference's in, May, All: walked. -/
import Derived.Test.YtpnbaapjjchlbaaRegion
namespace Go.Proofs.Ytpnbaapjjchlbaa
open Go Go.RowKit Go.Cit

def partB (n : Int) : Bool := decide (1 ≤ n ∧ n ≤ 6)
theorem part_calls (w : World) (n : Int) : Calls Try.prog 135 #[.int .i64 n] w fun e w' => e = .returned (.bool (partB n)) ∧ w' = w := by
  obtain ⟨R, HR⟩ : ∃ R, Hid (R = partB n) := ⟨_, rfl⟩
  rw [← HR.out]
  go_enter Try.func135, Try.ntmps135
  go_wp2_with fail
  all_goals
    go_ret
    refine ⟨ret_bool ?_, rfl⟩
    rw [HR.out, partB]
    first | (refine (decide_eq_false ?_).symm; omega) | (refine (decide_eq_true ?_).symm; omega) | (refine decide_eq_decide.2 ?_; omega) | (rw [Bool.eq_iff_iff]; simp only [Bool.and_eq_true, bne_iff_ne, ne_eq, decide_eq_true_eq]; omega)
theorem in_calls (w : World) (n a b : Int) : Calls Try.prog 169 #[.int .i64 n, .int .i64 a, .int .i64 b] w fun e w' => e = .returned (.bool (decide (a ≤ n ∧ n ≤ b))) ∧ w' = w := by
  obtain ⟨R, HR⟩ : ∃ R, Hid (R = decide (a ≤ n ∧ n ≤ b)) := ⟨_, rfl⟩
  rw [← HR.out]
  go_enter Try.func169, Try.ntmps169
  go_wp2_with fail
  all_goals
    go_ret
    refine ⟨ret_bool ?_, rfl⟩
    rw [HR.out]
    first | (refine (decide_eq_false ?_).symm; omega) | (refine (decide_eq_true ?_).symm; omega) | (refine decide_eq_decide.2 ?_; omega) | (rw [Bool.eq_iff_iff]; simp only [Bool.and_eq_true, bne_iff_ne, ne_eq, decide_eq_true_eq]; omega)

def mayC (c : Ch) : Bool := decide (1 ≤ c.id.1 ∧ c.id.1 ≤ 8 ∧ 1 ≤ c.src.1 ∧ c.src.1 ≤ 6 ∧ 1 ≤ c.dst.1 ∧ c.dst.1 ≤ 6 ∧ c.src.1 ≠ c.dst.1 ∧ 1 ≤ c.cap.1 ∧ c.cap.1 ≤ 4 ∧ 1 ≤ c.size.1 ∧ c.size.1 ≤ 16)
set_option maxRecDepth 100000 in
set_option maxHeartbeats 1000000 in
theorem chmay_calls (w : World) (c : Ch) : Calls Try.prog 65 #[.agg #[.int .i64 c.id.1, .int .i64 c.src.1, .int .i64 c.dst.1, .int .i64 c.cap.1, .int .i64 c.size.1]] w fun e w' => e = .returned (.bool (mayC c)) ∧ Below w.heap.size w w' := by
  obtain ⟨R, HR⟩ : ∃ R, Hid (R = mayC c) := ⟨_, rfl⟩
  rw [← HR.out]
  obtain ⟨⟨x1, _⟩, ⟨x2, _⟩, ⟨x3, _⟩, ⟨x4, _⟩, ⟨x5, _⟩⟩ := c
  have B : Hid (∀ C, Below w.heap.size w (w.alloc (.cells C 54))) := fun C => (Below.refl _ w).alloc (Nat.le_refl _) _
  go_enter Try.func65, Try.ntmps65
  go_wp2_with (go_at_call 135; refine (part_calls _ _).mono ?_; rintro e w' ⟨rfl, rfl⟩)
  all_goals
    go_ret
    refine ⟨ret_bool ?_, B.out _⟩
    rw [HR.out, mayC]
    simp only [partB, decide_eq_true_eq, decide_eq_false_iff_not] at *
    first | (refine (decide_eq_false ?_).symm; omega) | (refine (decide_eq_true ?_).symm; omega) | (refine decide_eq_decide.2 ?_; omega) | (rw [Bool.eq_iff_iff]; simp only [Bool.and_eq_true, bne_iff_ne, ne_eq, decide_eq_true_eq]; omega)
set_option maxRecDepth 100000 in
set_option maxHeartbeats 1000000 in
theorem refchmay_calls (w : World) (c : Ch) : Calls Try.prog 134 #[.agg #[.int .i64 c.id.1, .int .i64 c.src.1, .int .i64 c.dst.1, .int .i64 c.cap.1, .int .i64 c.size.1]] w fun e w' => e = .returned (.bool (mayC c)) ∧ Below w.heap.size w w' := by
  obtain ⟨R, HR⟩ : ∃ R, Hid (R = mayC c) := ⟨_, rfl⟩
  rw [← HR.out]
  obtain ⟨⟨x1, _⟩, ⟨x2, _⟩, ⟨x3, _⟩, ⟨x4, _⟩, ⟨x5, _⟩⟩ := c
  have B : Hid (∀ C, Below w.heap.size w (w.alloc (.cells C 54))) := fun C => (Below.refl _ w).alloc (Nat.le_refl _) _
  go_enter Try.func134, Try.ntmps134
  go_wp2_with (go_at_call 169; refine (in_calls _ _ _ _).mono ?_; rintro e w' ⟨rfl, rfl⟩)
  all_goals
    go_ret
    refine ⟨ret_bool ?_, B.out _⟩
    rw [HR.out, mayC]
    try simp only [decide_eq_true_eq, decide_eq_false_iff_not] at *
    first | (refine (decide_eq_false ?_).symm; omega) | (refine (decide_eq_true ?_).symm; omega) | (refine decide_eq_decide.2 ?_; omega) | (rw [Bool.eq_iff_iff]; simp only [Bool.and_eq_true, bne_iff_ne, ne_eq, decide_eq_true_eq]; omega)

/-- The cells of a channel in a list, in whatever world has grown out of w. -/
theorem chs_cells {w w' : World} {a : Option Addr} {l : List Ch} {c : Nat} (h : Vec cCh 5 w a l c) (hb : Below w.heap.size w w') (k : Nat) (hk : k < l.length) :
    w'.cell? (ad a (k * 5)) = some (.int .i64 l[k].id.1) ∧ w'.cell? ⟨(ad a (k * 5)).block, (ad a (k * 5)).off + 1, none⟩ = some (.int .i64 l[k].src.1) ∧ w'.cell? ⟨(ad a (k * 5)).block, (ad a (k * 5)).off + 2, none⟩ = some (.int .i64 l[k].dst.1) ∧
    w'.cell? ⟨(ad a (k * 5)).block, (ad a (k * 5)).off + 3, none⟩ = some (.int .i64 l[k].cap.1) ∧ w'.cell? ⟨(ad a (k * 5)).block, (ad a (k * 5)).off + 4, none⟩ = some (.int .i64 l[k].size.1) := by
  have h := h.stay cCh_len hb
  exact ⟨h.field0 k hk (by decide) rfl, h.field k hk 1 (by decide) rfl, h.field k hk 2 (by decide) rfl, h.field k hk 3 (by decide) rfl, h.field k hk 4 (by decide) rfl⟩

def idAt (l : List Ch) (i : Nat) : Int := (l[i]?.map (·.id.1)).getD 0
def ascTo (l : List Ch) (k : Nat) : Bool := (List.range k).all fun i => decide (idAt l i < idAt l (i + 1))
theorem ascTo_succ (l : List Ch) (k : Nat) : ascTo l (k + 1) = (ascTo l k && decide (idAt l k < idAt l (k + 1))) := by
  unfold ascTo; rw [List.range_succ, List.all_append]; simp
theorem ascTo_mono (l : List Ch) (k n : Nat) (h : k ≤ n) (hk : ascTo l k = false) : ascTo l n = false := by
  obtain ⟨d, rfl⟩ : ∃ d, n = k + d := ⟨n - k, by omega⟩
  induction d with
  | zero => exact hk
  | succ d ih => rw [← Nat.add_assoc, ascTo_succ, ih (by omega), Bool.false_and]
def chErr (l : List Ch) : Int := if l.all mayC then (if ascTo l (l.length - 1) then 0 else 100) else 2
theorem all_take {α : Type} (p : α → Bool) (l : List α) (k : Nat) (h : k < l.length) : (l.take (k + 1)).all p = ((l.take k).all p && p l[k]) := by
  rw [List.take_succ_eq_append_getElem h, List.all_append]; simp
theorem all_not {α : Type} (p : α → Bool) (l : List α) (k : Nat) (h : k < l.length) (hp : p l[k] = false) : l.all p = false := by
  rw [List.all_eq_false]; exact ⟨l[k], List.getElem_mem h, by simp [hp]⟩

set_option maxRecDepth 100000 in
set_option maxHeartbeats 2000000 in
theorem chall_calls (w : World) (a : Option Addr) (l : List Ch) (c : Nat) (h : Vec cCh 5 w a l c) : Calls Try.prog 29 #[.slice a l.length c] w fun e w' => e = .returned (.int .i64 (chErr l)) ∧ Below w.heap.size w w' := by
  obtain ⟨R, HR⟩ : ∃ R, Hid (R = chErr l) := ⟨_, rfl⟩
  rw [← HR.out]
  have hlen := h.len_le
  have HH := Lib.hid h
  clear h
  go_enter Try.func29, Try.ntmps29
  go_wp2_with fail
  go_loopw [8] (fun i wr => ∃ (k : Nat), Hid ((l.take k).all mayC = true) ∧ k ≤ l.length ∧ i = .int .i64 k ∧ Below w.heap.size w wr) (fun i _ => l.length - (intOf i).toNat)
  case atStart => exact ⟨0, rfl, by omega, rfl, Below.refl _ _⟩
  case round =>
    obtain ⟨k, ha, hk, rfl, B⟩ := hrel
    by_cases hlt : k < l.length
    · have i0 := HH.out.index etC k hlt
      obtain ⟨d0, d1, d2, d3, d4⟩ := chs_cells HH.out B k hlt
      cases hq : mayC l[k] with
      | true =>
        have HA : Hid ((l.take (k + 1)).all mayC = true) := by rw [Hid, all_take _ _ _ hlt, ha.out, hq]; rfl
        have HC := Lib.hid (fun w => chmay_calls w l[k])
        rw [hq] at HC
        have HB := Lib.hid B
        clear hq B
        go_wp2_with (go_at_call 65; refine (HC.out _).mono ?_; rintro e w2 ⟨rfl, hb2⟩)
        go_roundw
        case rel => exact ⟨k + 1, HA.out, by omega, by go_num, HB.out.trans (((Below.refl _ wr).alloc (Nat.le_refl _) _).trans (hb2.mono (by simp)) |>.mono HB.out.size)⟩
        case measure => simp [intOf]; omega
      | false =>
        have HC := Lib.hid (fun w => chmay_calls w l[k])
        rw [hq] at HC
        have HF : Hid (R = 2) := by rw [Hid, HR.out, chErr, all_not _ _ _ hlt hq]; rfl
        have HB := Lib.hid B
        clear hq B
        go_wp2_with (go_at_call 65; refine (HC.out _).mono ?_; rintro e w2 ⟨rfl, hb2⟩)
        go_ret
        exact ⟨ret_int HF.out.symm, HB.out.trans (((Below.refl _ wr).alloc (Nat.le_refl _) _).trans (hb2.mono (by simp)) |>.mono HB.out.size)⟩
    · have hk2 : k = l.length := by omega
      have HA : Hid (l.all mayC = true) := by have := ha.out; rw [hk2, List.take_length] at this; exact this
      have hnl : ¬ (k : Int) < (l.length : Int) := by omega
      clear ha hk2
      go_wp2_with fail
      go_loopw [5] (fun i wx => ∃ (m : Nat), Hid (ascTo l m = true) ∧ (m + 1 ≤ l.length ∨ m = 0) ∧ i = .int .i64 ((m : Int) + 1) ∧ Below w.heap.size w wx) (fun i _ => l.length - (intOf i).toNat)
      case atStart => exact ⟨0, rfl, .inr rfl, rfl, B⟩
      case round =>
        obtain ⟨m, hm, hml, rfl, B2⟩ := hrel
        by_cases hlt2 : m + 1 < l.length
        · have i0 := HH.out.index etC m (by omega)
          have i1 := HH.out.index etC (m + 1) hlt2
          rw [show ((m + 1 : Nat) : Int) = (m : Int) + 1 from rfl] at i1
          have c0 : ∀ q : After wr, q.to.cell? (ad a (m * 5)) = some (.int .i64 l[m].id.1) := fun q => (chs_cells HH.out (B2.trans (q.bel.mono B2.size)) m (by omega)).1
          have c1 : ∀ q : After wr, q.to.cell? (ad a ((m + 1) * 5)) = some (.int .i64 l[m + 1].id.1) := fun q => (chs_cells HH.out (B2.trans (q.bel.mono B2.size)) (m + 1) hlt2).1
          have hwm : IntKind.i64.wrap (m : Int) = (m : Int) := IntWalk.i64_in _ (by omega)
          have HI : Hid (idAt l m = l[m].id.1 ∧ idAt l (m + 1) = l[m + 1].id.1) := by
            constructor
            · simp [idAt, show m < l.length by omega]
            · simp [idAt, hlt2]
          by_cases hc : l[m].id.1 < l[m + 1].id.1
          · have HS : Hid (ascTo l (m + 1) = true) := by rw [Hid, ascTo_succ, hm.out, HI.out.1, HI.out.2, decide_eq_true hc]; rfl
            have hlti : (m : Int) + 1 < (l.length : Int) := by omega
            go_wp2_with fail
            refine wp_region_after (by kernel_rfl) (by kernel_rfl) ?_
            iterate 12
              refine wq_step (fun K hK => ?_)
              go_simp
              refine hK _ ?_
              clear hK K
            refine wq_nil ?_
            intro _ hw'
            obtain ⟨⟨w3, hb3⟩, hw'⟩ := hw'
            subst hw'
            go_wp2_with fail
            go_roundw
            case rel => exact ⟨m + 1, HS.out, by omega, by go_num, B2.trans (hb3.mono B2.size)⟩
            case measure => simp [intOf]; omega
          · have HS : Hid (ascTo l (m + 1) = false) := by rw [Hid, ascTo_succ, hm.out, HI.out.1, HI.out.2, decide_eq_false hc]; rfl
            have HF : Hid (R = 100) := by rw [Hid, HR.out, chErr, HA.out, ascTo_mono l (m + 1) _ (by omega) HS.out]; rfl
            have hlti : (m : Int) + 1 < (l.length : Int) := by omega
            go_wp2_with fail
            refine wp_region_after (by kernel_rfl) (by kernel_rfl) ?_
            iterate 12
              refine wq_step (fun K hK => ?_)
              go_simp
              refine hK _ ?_
              clear hK K
            refine wq_nil ?_
            intro _ hw'
            obtain ⟨⟨w3, hb3⟩, hw'⟩ := hw'
            subst hw'
            go_wp2_with fail
            go_ret
            exact ⟨ret_int HF.out.symm, B2.trans (hb3.mono B2.size)⟩
        · have HF : Hid (R = 0) := by
            rw [Hid, HR.out, chErr, HA.out, if_pos rfl]
            rcases hml with h1 | h1
            · rw [show l.length - 1 = m by omega, hm.out]; rfl
            · subst h1; rw [show l.length - 1 = 0 by omega]; rfl
          have hlti : ¬ (m : Int) + 1 < (l.length : Int) := by omega
          go_wp2_with fail
          go_ret
          exact ⟨ret_int HF.out.symm, B2⟩
set_option maxRecDepth 100000 in
set_option maxHeartbeats 2000000 in
theorem refchall_calls (w : World) (a : Option Addr) (l : List Ch) (c : Nat) (h : Vec cCh 5 w a l c) : Calls Try.prog 63 #[.slice a l.length c] w fun e w' => e = .returned (.int .i64 (chErr l)) ∧ Below w.heap.size w w' := by
  obtain ⟨R, HR⟩ : ∃ R, Hid (R = chErr l) := ⟨_, rfl⟩
  rw [← HR.out]
  have hlen := h.len_le
  have HH := Lib.hid h
  clear h
  go_enter Try.func63, Try.ntmps63
  go_wp2_with fail
  go_loopw [3] (fun i wr => ∃ (k : Nat), Hid ((l.take k).all mayC = true) ∧ k ≤ l.length ∧ i = .int .i64 k ∧ Below w.heap.size w wr) (fun i _ => l.length - (intOf i).toNat)
  case atStart => exact ⟨0, rfl, by omega, rfl, Below.refl _ _⟩
  case round =>
    obtain ⟨k, ha, hk, rfl, B⟩ := hrel
    by_cases hlt : k < l.length
    · have i0 := HH.out.index etC k hlt
      obtain ⟨d0, d1, d2, d3, d4⟩ := chs_cells HH.out B k hlt
      cases hq : mayC l[k] with
      | true =>
        have HA : Hid ((l.take (k + 1)).all mayC = true) := by rw [Hid, all_take _ _ _ hlt, ha.out, hq]; rfl
        have HC := Lib.hid (fun w => refchmay_calls w l[k])
        rw [hq] at HC
        have HB := Lib.hid B
        clear hq B
        go_wp2_with (go_at_call 134; refine (HC.out _).mono ?_; rintro e w2 ⟨rfl, hb2⟩)
        go_roundw
        case rel => exact ⟨k + 1, HA.out, by omega, by go_num, HB.out.trans (hb2.mono HB.out.size)⟩
        case measure => simp [intOf]; omega
      | false =>
        have HC := Lib.hid (fun w => refchmay_calls w l[k])
        rw [hq] at HC
        have HF : Hid (R = 2) := by rw [Hid, HR.out, chErr, all_not _ _ _ hlt hq]; rfl
        have HB := Lib.hid B
        clear hq B
        go_wp2_with (go_at_call 134; refine (HC.out _).mono ?_; rintro e w2 ⟨rfl, hb2⟩)
        go_ret
        exact ⟨ret_int HF.out.symm, HB.out.trans (hb2.mono HB.out.size)⟩
    · have hk2 : k = l.length := by omega
      have HA : Hid (l.all mayC = true) := by have := ha.out; rw [hk2, List.take_length] at this; exact this
      have hnl : ¬ (k : Int) < (l.length : Int) := by omega
      clear ha hk2
      go_wp2_with fail
      go_loopw [4] (fun i wx => ∃ (m : Nat), Hid (ascTo l m = true) ∧ (m + 1 ≤ l.length ∨ m = 0) ∧ i = .int .i64 ((m : Int) + 1) ∧ Below w.heap.size w wx) (fun i _ => l.length - (intOf i).toNat)
      case atStart => exact ⟨0, rfl, .inr rfl, rfl, B⟩
      case round =>
        obtain ⟨m, hm, hml, rfl, B2⟩ := hrel
        by_cases hlt2 : m + 1 < l.length
        · have i0 := HH.out.index etC m (by omega)
          have i1 := HH.out.index etC (m + 1) hlt2
          rw [show ((m + 1 : Nat) : Int) = (m : Int) + 1 from rfl] at i1
          have c0 : ∀ q : After wr, q.to.cell? (ad a (m * 5)) = some (.int .i64 l[m].id.1) := fun q => (chs_cells HH.out (B2.trans (q.bel.mono B2.size)) m (by omega)).1
          have c1 : ∀ q : After wr, q.to.cell? (ad a ((m + 1) * 5)) = some (.int .i64 l[m + 1].id.1) := fun q => (chs_cells HH.out (B2.trans (q.bel.mono B2.size)) (m + 1) hlt2).1
          have hwm : IntKind.i64.wrap (m : Int) = (m : Int) := IntWalk.i64_in _ (by omega)
          have HI : Hid (idAt l m = l[m].id.1 ∧ idAt l (m + 1) = l[m + 1].id.1) := by
            constructor
            · simp [idAt, show m < l.length by omega]
            · simp [idAt, hlt2]
          by_cases hc : l[m].id.1 < l[m + 1].id.1
          · have HS : Hid (ascTo l (m + 1) = true) := by rw [Hid, ascTo_succ, hm.out, HI.out.1, HI.out.2, decide_eq_true hc]; rfl
            have hlti : (m : Int) + 1 < (l.length : Int) := by omega
            go_wp2_with fail
            refine wp_region_after (by kernel_rfl) (by kernel_rfl) ?_
            iterate 12
              refine wq_step (fun K hK => ?_)
              go_simp
              refine hK _ ?_
              clear hK K
            refine wq_nil ?_
            intro _ hw'
            obtain ⟨⟨w3, hb3⟩, hw'⟩ := hw'
            subst hw'
            go_wp2_with fail
            go_roundw
            case rel => exact ⟨m + 1, HS.out, by omega, by go_num, B2.trans (hb3.mono B2.size)⟩
            case measure => simp [intOf]; omega
          · have HS : Hid (ascTo l (m + 1) = false) := by rw [Hid, ascTo_succ, hm.out, HI.out.1, HI.out.2, decide_eq_false hc]; rfl
            have HF : Hid (R = 100) := by rw [Hid, HR.out, chErr, HA.out, ascTo_mono l (m + 1) _ (by omega) HS.out]; rfl
            have hlti : (m : Int) + 1 < (l.length : Int) := by omega
            go_wp2_with fail
            refine wp_region_after (by kernel_rfl) (by kernel_rfl) ?_
            iterate 12
              refine wq_step (fun K hK => ?_)
              go_simp
              refine hK _ ?_
              clear hK K
            refine wq_nil ?_
            intro _ hw'
            obtain ⟨⟨w3, hb3⟩, hw'⟩ := hw'
            subst hw'
            go_wp2_with fail
            go_ret
            exact ⟨ret_int HF.out.symm, B2.trans (hb3.mono B2.size)⟩
        · have HF : Hid (R = 0) := by
            rw [Hid, HR.out, chErr, HA.out, if_pos rfl]
            rcases hml with h1 | h1
            · rw [show l.length - 1 = m by omega, hm.out]; rfl
            · subst h1; rw [show l.length - 1 = 0 by omega]; rfl
          have hlti : ¬ (m : Int) + 1 < (l.length : Int) := by omega
          go_wp2_with fail
          go_ret
          exact ⟨ret_int HF.out.symm, B2⟩
end Go.Proofs.Ytpnbaapjjchlbaa
