/- Texts of the proof, one behind the other: SameC, ParPlain, Shown11. No condition but those that each names. -/
import Derived.Test.YtpnbaapjjchlbaaCfgLem
import Derived.Test.YtpnbaapjjchlbaaSame11
import Derived.Test.YtpnbaapjjchlbaaShelf
import Derived.Test.YtpnbaapjjchlbaaGz
import Derived.Test.YtpnbaapjjchlbaaGx
/- config.Same: walked. -/
namespace Go.Proofs.Ytpnbaapjjchlbaa
open Go Go.RowKit Go.Cit

theorem load_win {w0 w : World} {a : Option Addr} {l : List Win} {c : Nat} (h : Vec cWin 2 w0 a l c) (hb : Below w0.heap.size w0 w) (k : Nat) (hk : k < l.length) : (Instr.loadAt 52 (.pointer (some (ad a (k * 2))))).run Try.prog w = .ok (.agg #[.int .i64 l[k].len.1, .int .i64 l[k].part.1]) w := by
  obtain ⟨u0, u1⟩ := win_cells h hb k hk
  have e : ad a (k * 2) = ⟨(ad a (k * 2)).block, (ad a (k * 2)).off, none⟩ := by cases a <;> rfl
  rw [e] at u0
  rw [e]
  refine run_loadAt_mid w _ _ 52 [.int .i64 l[k].len.1, .int .i64 l[k].part.1] _ (fun j v hv => ?_) Try.underlying52 rfl (by kernel_rfl)
  match j, hv with
  | 0, hv => injection hv with hv; rw [← hv]; exact u0
  | 1, hv => injection hv with hv; rw [← hv]; exact u1
def eqW6 (aa bb : Option Addr) (l m : List Win) (c d k : Nat) (x y : Win) (e : Bool) : Nat → Value
  | 16 => (.slice aa l.length c)
  | 17 => (.int .i64 (k : Int))
  | 18 => (.pointer (some (ad aa (k * 2))))
  | 19 => (.agg #[.int .i64 x.len.1, .int .i64 x.part.1])
  | 20 => (.slice bb m.length d)
  | 21 => (.int .i64 (k : Int))
  | 22 => (.pointer (some (ad bb (k * 2))))
  | 23 => (.agg #[.int .i64 y.len.1, .int .i64 y.part.1])
  | 24 => (.bool (!e))
  | _ => undef
def eqW6o (aa bb : Option Addr) (l m : List Win) (c d k : Nat) (_ _ : Win) (_ : Bool) : Nat → Value
  | 0 => (.slice aa l.length c)
  | 1 => (.slice bb m.length d)
  | 5 => (.int .i64 (k : Int))
  | _ => undef
set_option maxRecDepth 100000 in
set_option maxHeartbeats 4000000 in
theorem eqW_calls (w : World) (aa bb : Option Addr) (l m : List Win) (c d : Nat) (h : Vec cWin 2 w aa l c) (h' : Vec cWin 2 w bb m d) : Calls Try.prog 123 #[.slice aa l.length c, .slice bb m.length d] w fun e w' => e = .returned (.bool (decide (l = m))) ∧ Below w.heap.size w w' := by
  obtain ⟨R, HR⟩ : ∃ R, Hid (R = decide (l = m)) := ⟨_, rfl⟩
  rw [← HR.out]
  have hl1 := h.len_le
  have hl2 := h'.len_le
  have HV := Lib.hid h
  have HU := Lib.hid h'
  clear h h'
  by_cases hg : ¬ (l.length = m.length)
  · have HF : Hid (R = false) := by
      rw [Hid, HR.out, decide_eq_false_iff_not]
      intro hh; exact hg (by rw [hh])
    have t1 : ((l.length : Int) != (m.length : Int)) = true := by simp; omega
    clear hg
    go_enter Try.func123, Try.ntmps123
    go_wp2_with fail
    go_ret
    exact ⟨ret_bool HF.out.symm, Below.refl _ _⟩
  have hg := Classical.not_not.1 hg
  have t1 : ((l.length : Int) != (m.length : Int)) = false := by rw [hg]; simp
  have HG := Lib.hid hg
  clear hg
  go_enter Try.func123, Try.ntmps123
  go_wp2_with fail
  go_loopw [13] (fun s wr => ∃ k : Nat, s = .int .i64 k ∧ k ≤ l.length ∧ Hid (l.take k = m.take k) ∧ Below w.heap.size w wr) (fun s _ => l.length - (intOf s).toNat)
  case atStart => exact ⟨0, rfl, Nat.zero_le _, rfl, Below.refl _ _⟩
  case round =>
    obtain ⟨k, rfl, hk, HE, B⟩ := hrel
    have HB := Lib.hid B
    by_cases hlt : k < l.length
    · have hlt' : k < m.length := by have := HG.out; omega
      have i0 := HV.out.index etW k hlt
      have i1 := HU.out.index etW k hlt'
      obtain ⟨x, hx⟩ : ∃ x : Win, Hid (x = l[k]) := ⟨l[k], rfl⟩
      obtain ⟨y, hy⟩ : ∃ y : Win, Hid (y = m[k]) := ⟨m[k], rfl⟩
      have l1 : ∀ q : After wr, (Instr.loadAt 52 (.pointer (some (ad aa (k * 2))))).run Try.prog q.to = .ok (.agg #[.int .i64 x.len.1, .int .i64 x.part.1]) q.to := fun q => by rw [hx.out]; exact load_win HV.out (B.trans (q.bel.mono B.size)) k hlt
      have l2 : ∀ q : After wr, (Instr.loadAt 52 (.pointer (some (ad bb (k * 2))))).run Try.prog q.to = .ok (.agg #[.int .i64 y.len.1, .int .i64 y.part.1]) q.to := fun q => by rw [hy.out]; exact load_win HU.out (B.trans (q.bel.mono B.size)) k hlt'
      obtain ⟨e, he⟩ : ∃ e, Hid (decide (x = y) = e) := ⟨_, rfl⟩
      have hneq : Hid (∀ w : World, (do eqGuard .neq 52 (.tmp 19) (.tmp 23) (.agg #[.int .i64 x.len.1, .int .i64 x.part.1]) (.agg #[.int .i64 y.len.1, .int .i64 y.part.1]); binOp .neq 52 (.agg #[.int .i64 x.len.1, .int .i64 x.part.1]) (.agg #[.int .i64 y.len.1, .int .i64 y.part.1]) : Sem Value).run Try.prog w = .ok (.bool (!e)) w) := fun w => by
        have h1 := run_neq_op gdW (.tmp 19) (.tmp 23) (eqIn_win x.len.1 x.part.1 y.len.1 y.part.1) w
        rw [h1, ← he.out]
        simp only [win_eq_iff]
      clear B
      go_upto_region 6 with fail
      refine wp_region_vals (eqW6 aa bb l m c d k x y e) (eqW6o aa bb l m c d k x y e) [0, 1, 5] (by kernel_rfl) (by kernel_rfl) (by kernel_rfl) ⟨rfl, rfl, rfl, trivial⟩ ?_ ?_
      · refine opsAll_cons ?_ (opsAll_cons ?_ (opsAll_cons ?_ (opsAll_cons ?_ (opsAll_cons ?_ (opsAll_cons ?_ (opsAll_cons ?_ (opsAll_cons ?_ (opsAll_cons ?_ opsAll_nil))))))))
        all_goals intro a hk
        · -- slot 16
          exact .inl ⟨wanted_free rfl, q_move (.tmp 0) rfl (show a.eval (.tmp 0) = (.slice aa l.length c) from hk.old 0 (by kernel_rfl) (by kernel_rfl))⟩
        · -- slot 17
          exact .inl ⟨wanted_free rfl, q_move (.tmp 5) rfl (show a.eval (.tmp 5) = (.int .i64 (k : Int)) from hk.old 5 (by kernel_rfl) (by kernel_rfl))⟩
        · -- slot 18
          exact .inl ⟨wanted_free rfl, q_index (.tmp 16) (.tmp 17) rfl (show a.eval (.tmp 16) = (.slice aa l.length c) from hk.slot 16 (by kernel_rfl)) (show a.eval (.tmp 17) = (.int .i64 (k : Int)) from hk.slot 17 (by kernel_rfl)) (v := (.pointer (some (ad aa (k * 2))))) (fun w => i0 w) rfl⟩
        · -- slot 19
          exact .inl ⟨wanted_free rfl, q_load (.tmp 18) rfl (show a.eval (.tmp 18) = (.pointer (some (ad aa (k * 2)))) from hk.slot 18 (by kernel_rfl)) (v := (.agg #[.int .i64 x.len.1, .int .i64 x.part.1])) (fun q => l1 q) rfl⟩
        · -- slot 20
          exact .inl ⟨wanted_free rfl, q_move (.tmp 1) rfl (show a.eval (.tmp 1) = (.slice bb m.length d) from hk.old 1 (by kernel_rfl) (by kernel_rfl))⟩
        · -- slot 21
          exact .inl ⟨wanted_free rfl, q_move (.tmp 5) rfl (show a.eval (.tmp 5) = (.int .i64 (k : Int)) from hk.old 5 (by kernel_rfl) (by kernel_rfl))⟩
        · -- slot 22
          exact .inl ⟨wanted_free rfl, q_index (.tmp 20) (.tmp 21) rfl (show a.eval (.tmp 20) = (.slice bb m.length d) from hk.slot 20 (by kernel_rfl)) (show a.eval (.tmp 21) = (.int .i64 (k : Int)) from hk.slot 21 (by kernel_rfl)) (v := (.pointer (some (ad bb (k * 2))))) (fun w => i1 w) rfl⟩
        · -- slot 23
          exact .inl ⟨wanted_free rfl, q_load (.tmp 22) rfl (show a.eval (.tmp 22) = (.pointer (some (ad bb (k * 2)))) from hk.slot 22 (by kernel_rfl)) (v := (.agg #[.int .i64 y.len.1, .int .i64 y.part.1])) (fun q => l2 q) rfl⟩
        · -- slot 24
          exact .inl ⟨wanted_free rfl, q_bin rfl (show a.eval (.tmp 19) = (.agg #[.int .i64 x.len.1, .int .i64 x.part.1]) from hk.slot 19 (by kernel_rfl)) (show a.eval (.tmp 23) = (.agg #[.int .i64 y.len.1, .int .i64 y.part.1]) from hk.slot 23 (by kernel_rfl)) (v := (.bool (!e))) (fun w => hneq.out w) rfl⟩
      intro a ⟨w3, hb3⟩ hsame hall
      have he := act_same hsame [16, 17, 18, 19, 20, 21, 22, 23, 24] (by kernel_rfl)
      simp only [List.foldl_cons, List.foldl_nil] at he
      rw [show a.eval (.tmp 24) = (.bool (!e)) from hall 24 (by kernel_rfl)] at he
      generalize a.eval (.tmp 16) = x16 at he
      generalize a.eval (.tmp 17) = x17 at he
      generalize a.eval (.tmp 18) = x18 at he
      generalize a.eval (.tmp 19) = x19 at he
      generalize a.eval (.tmp 20) = x20 at he
      generalize a.eval (.tmp 21) = x21 at he
      generalize a.eval (.tmp 22) = x22 at he
      generalize a.eval (.tmp 23) = x23 at he
      simp only [put_lit] at he
      dsimp only [List.set_cons_zero, List.set_cons_succ] at he
      subst he
      clear hsame hall
      have HB3 := Lib.hid (HB.out.trans (hb3.mono HB.out.size))
      clear l1 l2 i0 i1
      cases e with
      | true =>
        have HE2 : Hid (l.take (k + 1) = m.take (k + 1)) := take_next l m k hlt hlt' HE.out (by rw [← hx.out, ← hy.out]; exact of_decide_eq_true he.out)
        go_wp2_with fail
        go_roundw
        case rel => exact ⟨k + 1, by go_num, by omega, HE2.out, HB3.out⟩
        case measure => simp [intOf]; omega
      | false =>
        have HF : Hid (R = false) := by
          rw [Hid, HR.out, decide_eq_false_iff_not]
          intro hh
          refine of_decide_eq_false he.out ?_
          rw [hx.out, hy.out]
          exact List.getElem_of_eq hh hlt
        go_wp2_with fail
        go_ret
        exact ⟨ret_bool HF.out.symm, HB3.out⟩
    · have hk2 : k = l.length := by omega
      have HF : Hid (R = true) := by
        have h1 := HE.out
        rw [hk2, List.take_length, HG.out, List.take_length] at h1
        rw [Hid, HR.out, decide_eq_true_iff]; exact h1
      clear B
      subst hk2
      go_wp2_with fail
      go_ret
      exact ⟨ret_bool HF.out.symm, HB.out⟩
def eqC6 (aa bb : Option Addr) (l m : List Ch) (c d k : Nat) (x y : Ch) (e : Bool) : Nat → Value
  | 16 => (.slice aa l.length c)
  | 17 => (.int .i64 (k : Int))
  | 18 => (.pointer (some (ad aa (k * 5))))
  | 19 => (.agg #[.int .i64 x.id.1, .int .i64 x.src.1, .int .i64 x.dst.1, .int .i64 x.cap.1, .int .i64 x.size.1])
  | 20 => (.slice bb m.length d)
  | 21 => (.int .i64 (k : Int))
  | 22 => (.pointer (some (ad bb (k * 5))))
  | 23 => (.agg #[.int .i64 y.id.1, .int .i64 y.src.1, .int .i64 y.dst.1, .int .i64 y.cap.1, .int .i64 y.size.1])
  | 24 => (.bool (!e))
  | _ => undef
def eqC6o (aa bb : Option Addr) (l m : List Ch) (c d k : Nat) (_ _ : Ch) (_ : Bool) : Nat → Value
  | 0 => (.slice aa l.length c)
  | 1 => (.slice bb m.length d)
  | 5 => (.int .i64 (k : Int))
  | _ => undef
set_option maxRecDepth 100000 in
set_option maxHeartbeats 4000000 in
theorem eqC_calls (w : World) (aa bb : Option Addr) (l m : List Ch) (c d : Nat) (h : Vec cCh 5 w aa l c) (h' : Vec cCh 5 w bb m d) : Calls Try.prog 124 #[.slice aa l.length c, .slice bb m.length d] w fun e w' => e = .returned (.bool (decide (l = m))) ∧ Below w.heap.size w w' := by
  obtain ⟨R, HR⟩ : ∃ R, Hid (R = decide (l = m)) := ⟨_, rfl⟩
  rw [← HR.out]
  have hl1 := h.len_le
  have hl2 := h'.len_le
  have HV := Lib.hid h
  have HU := Lib.hid h'
  clear h h'
  by_cases hg : ¬ (l.length = m.length)
  · have HF : Hid (R = false) := by
      rw [Hid, HR.out, decide_eq_false_iff_not]
      intro hh; exact hg (by rw [hh])
    have t1 : ((l.length : Int) != (m.length : Int)) = true := by simp; omega
    clear hg
    go_enter Try.func124, Try.ntmps124
    go_wp2_with fail
    go_ret
    exact ⟨ret_bool HF.out.symm, Below.refl _ _⟩
  have hg := Classical.not_not.1 hg
  have t1 : ((l.length : Int) != (m.length : Int)) = false := by rw [hg]; simp
  have HG := Lib.hid hg
  clear hg
  go_enter Try.func124, Try.ntmps124
  go_wp2_with fail
  go_loopw [13] (fun s wr => ∃ k : Nat, s = .int .i64 k ∧ k ≤ l.length ∧ Hid (l.take k = m.take k) ∧ Below w.heap.size w wr) (fun s _ => l.length - (intOf s).toNat)
  case atStart => exact ⟨0, rfl, Nat.zero_le _, rfl, Below.refl _ _⟩
  case round =>
    obtain ⟨k, rfl, hk, HE, B⟩ := hrel
    have HB := Lib.hid B
    by_cases hlt : k < l.length
    · have hlt' : k < m.length := by have := HG.out; omega
      have i0 := HV.out.index etC k hlt
      have i1 := HU.out.index etC k hlt'
      obtain ⟨x, hx⟩ : ∃ x : Ch, Hid (x = l[k]) := ⟨l[k], rfl⟩
      obtain ⟨y, hy⟩ : ∃ y : Ch, Hid (y = m[k]) := ⟨m[k], rfl⟩
      have l1 : ∀ q : After wr, (Instr.loadAt 54 (.pointer (some (ad aa (k * 5))))).run Try.prog q.to = .ok (.agg #[.int .i64 x.id.1, .int .i64 x.src.1, .int .i64 x.dst.1, .int .i64 x.cap.1, .int .i64 x.size.1]) q.to := fun q => by rw [hx.out]; exact load_ch HV.out (B.trans (q.bel.mono B.size)) k hlt
      have l2 : ∀ q : After wr, (Instr.loadAt 54 (.pointer (some (ad bb (k * 5))))).run Try.prog q.to = .ok (.agg #[.int .i64 y.id.1, .int .i64 y.src.1, .int .i64 y.dst.1, .int .i64 y.cap.1, .int .i64 y.size.1]) q.to := fun q => by rw [hy.out]; exact load_ch HU.out (B.trans (q.bel.mono B.size)) k hlt'
      obtain ⟨e, he⟩ : ∃ e, Hid (decide (x = y) = e) := ⟨_, rfl⟩
      have hneq : Hid (∀ w : World, (do eqGuard .neq 54 (.tmp 19) (.tmp 23) (.agg #[.int .i64 x.id.1, .int .i64 x.src.1, .int .i64 x.dst.1, .int .i64 x.cap.1, .int .i64 x.size.1]) (.agg #[.int .i64 y.id.1, .int .i64 y.src.1, .int .i64 y.dst.1, .int .i64 y.cap.1, .int .i64 y.size.1]); binOp .neq 54 (.agg #[.int .i64 x.id.1, .int .i64 x.src.1, .int .i64 x.dst.1, .int .i64 x.cap.1, .int .i64 x.size.1]) (.agg #[.int .i64 y.id.1, .int .i64 y.src.1, .int .i64 y.dst.1, .int .i64 y.cap.1, .int .i64 y.size.1]) : Sem Value).run Try.prog w = .ok (.bool (!e)) w) := fun w => by
        have h1 := run_neq_op gdC (.tmp 19) (.tmp 23) (eqIn_ch x.id.1 x.src.1 x.dst.1 x.cap.1 x.size.1 y.id.1 y.src.1 y.dst.1 y.cap.1 y.size.1) w
        rw [h1, ← he.out]
        simp only [ch_eq_iff]
      clear B
      go_upto_region 6 with fail
      refine wp_region_vals (eqC6 aa bb l m c d k x y e) (eqC6o aa bb l m c d k x y e) [0, 1, 5] (by kernel_rfl) (by kernel_rfl) (by kernel_rfl) ⟨rfl, rfl, rfl, trivial⟩ ?_ ?_
      · refine opsAll_cons ?_ (opsAll_cons ?_ (opsAll_cons ?_ (opsAll_cons ?_ (opsAll_cons ?_ (opsAll_cons ?_ (opsAll_cons ?_ (opsAll_cons ?_ (opsAll_cons ?_ opsAll_nil))))))))
        all_goals intro a hk
        · -- slot 16
          exact .inl ⟨wanted_free rfl, q_move (.tmp 0) rfl (show a.eval (.tmp 0) = (.slice aa l.length c) from hk.old 0 (by kernel_rfl) (by kernel_rfl))⟩
        · -- slot 17
          exact .inl ⟨wanted_free rfl, q_move (.tmp 5) rfl (show a.eval (.tmp 5) = (.int .i64 (k : Int)) from hk.old 5 (by kernel_rfl) (by kernel_rfl))⟩
        · -- slot 18
          exact .inl ⟨wanted_free rfl, q_index (.tmp 16) (.tmp 17) rfl (show a.eval (.tmp 16) = (.slice aa l.length c) from hk.slot 16 (by kernel_rfl)) (show a.eval (.tmp 17) = (.int .i64 (k : Int)) from hk.slot 17 (by kernel_rfl)) (v := (.pointer (some (ad aa (k * 5))))) (fun w => i0 w) rfl⟩
        · -- slot 19
          exact .inl ⟨wanted_free rfl, q_load (.tmp 18) rfl (show a.eval (.tmp 18) = (.pointer (some (ad aa (k * 5)))) from hk.slot 18 (by kernel_rfl)) (v := (.agg #[.int .i64 x.id.1, .int .i64 x.src.1, .int .i64 x.dst.1, .int .i64 x.cap.1, .int .i64 x.size.1])) (fun q => l1 q) rfl⟩
        · -- slot 20
          exact .inl ⟨wanted_free rfl, q_move (.tmp 1) rfl (show a.eval (.tmp 1) = (.slice bb m.length d) from hk.old 1 (by kernel_rfl) (by kernel_rfl))⟩
        · -- slot 21
          exact .inl ⟨wanted_free rfl, q_move (.tmp 5) rfl (show a.eval (.tmp 5) = (.int .i64 (k : Int)) from hk.old 5 (by kernel_rfl) (by kernel_rfl))⟩
        · -- slot 22
          exact .inl ⟨wanted_free rfl, q_index (.tmp 20) (.tmp 21) rfl (show a.eval (.tmp 20) = (.slice bb m.length d) from hk.slot 20 (by kernel_rfl)) (show a.eval (.tmp 21) = (.int .i64 (k : Int)) from hk.slot 21 (by kernel_rfl)) (v := (.pointer (some (ad bb (k * 5))))) (fun w => i1 w) rfl⟩
        · -- slot 23
          exact .inl ⟨wanted_free rfl, q_load (.tmp 22) rfl (show a.eval (.tmp 22) = (.pointer (some (ad bb (k * 5)))) from hk.slot 22 (by kernel_rfl)) (v := (.agg #[.int .i64 y.id.1, .int .i64 y.src.1, .int .i64 y.dst.1, .int .i64 y.cap.1, .int .i64 y.size.1])) (fun q => l2 q) rfl⟩
        · -- slot 24
          exact .inl ⟨wanted_free rfl, q_bin rfl (show a.eval (.tmp 19) = (.agg #[.int .i64 x.id.1, .int .i64 x.src.1, .int .i64 x.dst.1, .int .i64 x.cap.1, .int .i64 x.size.1]) from hk.slot 19 (by kernel_rfl)) (show a.eval (.tmp 23) = (.agg #[.int .i64 y.id.1, .int .i64 y.src.1, .int .i64 y.dst.1, .int .i64 y.cap.1, .int .i64 y.size.1]) from hk.slot 23 (by kernel_rfl)) (v := (.bool (!e))) (fun w => hneq.out w) rfl⟩
      intro a ⟨w3, hb3⟩ hsame hall
      have he := act_same hsame [16, 17, 18, 19, 20, 21, 22, 23, 24] (by kernel_rfl)
      simp only [List.foldl_cons, List.foldl_nil] at he
      rw [show a.eval (.tmp 24) = (.bool (!e)) from hall 24 (by kernel_rfl)] at he
      generalize a.eval (.tmp 16) = x16 at he
      generalize a.eval (.tmp 17) = x17 at he
      generalize a.eval (.tmp 18) = x18 at he
      generalize a.eval (.tmp 19) = x19 at he
      generalize a.eval (.tmp 20) = x20 at he
      generalize a.eval (.tmp 21) = x21 at he
      generalize a.eval (.tmp 22) = x22 at he
      generalize a.eval (.tmp 23) = x23 at he
      simp only [put_lit] at he
      dsimp only [List.set_cons_zero, List.set_cons_succ] at he
      subst he
      clear hsame hall
      have HB3 := Lib.hid (HB.out.trans (hb3.mono HB.out.size))
      clear l1 l2 i0 i1
      cases e with
      | true =>
        have HE2 : Hid (l.take (k + 1) = m.take (k + 1)) := take_next l m k hlt hlt' HE.out (by rw [← hx.out, ← hy.out]; exact of_decide_eq_true he.out)
        go_wp2_with fail
        go_roundw
        case rel => exact ⟨k + 1, by go_num, by omega, HE2.out, HB3.out⟩
        case measure => simp [intOf]; omega
      | false =>
        have HF : Hid (R = false) := by
          rw [Hid, HR.out, decide_eq_false_iff_not]
          intro hh
          refine of_decide_eq_false he.out ?_
          rw [hx.out, hy.out]
          exact List.getElem_of_eq hh hlt
        go_wp2_with fail
        go_ret
        exact ⟨ret_bool HF.out.symm, HB3.out⟩
    · have hk2 : k = l.length := by omega
      have HF : Hid (R = true) := by
        have h1 := HE.out
        rw [hk2, List.take_length, HG.out, List.take_length] at h1
        rw [Hid, HR.out, decide_eq_true_iff]; exact h1
      clear B
      subst hk2
      go_wp2_with fail
      go_ret
      exact ⟨ret_bool HF.out.symm, HB.out⟩
set_option maxRecDepth 100000 in
set_option maxHeartbeats 4000000 in
theorem same1_calls (w : World) (x y : PtV) (hx : Row w x.a x.img x.c) (hy : Row w y.a y.img y.c) : Calls Try.prog 121 #[.agg #[.int .i64 x.id.1, .int .i64 x.reg.base.1, .int .i64 x.reg.size.1, .bool x.keep, .slice x.a x.img.length x.c], .agg #[.int .i64 y.id.1, .int .i64 y.reg.base.1, .int .i64 y.reg.size.1, .bool y.keep, .slice y.a y.img.length y.c]] w fun e w' => e = .returned (.bool (decide (x.pt = y.pt))) ∧ Below w.heap.size w w' := by
  obtain ⟨R, HR⟩ : ∃ R, Hid (R = decide (x.pt = y.pt)) := ⟨_, rfl⟩
  have HI := Lib.hid (pt_eq_iff x y)
  rw [← HR.out]
  have B1 : ∀ C D, Below w.heap.size w ((w.alloc (.cells C 43)).alloc (.cells D 43)) := fun C D => ((Below.refl _ w).alloc (Nat.le_refl _) _).alloc (by simp) _
  have HB1 := Lib.hid B1
  obtain ⟨S, hS⟩ : ∃ S : ByteArray, Hid (S = ⟨x.img.toArray⟩) := ⟨_, rfl⟩
  obtain ⟨T, hT⟩ : ∃ T : ByteArray, Hid (T = ⟨y.img.toArray⟩) := ⟨_, rfl⟩
  have HST : Hid (S.toList = T.toList ↔ x.img = y.img) := by
    rw [Hid, hS.out, hT.out, ByteArray.toList_eq, ByteArray.toList_eq]
  have HK : Hid (∀ {wx : World}, Below w.heap.size w wx → Calls Try.prog 122 #[.slice x.a x.img.length x.c, .slice y.a y.img.length y.c] wx fun e w' => e = .returned (.bool (S.toList == T.toList)) ∧ w' = wx) := fun {wx} hb => by
    rw [hS.out, hT.out]
    exact Try.bytes_Equal_strs _ _ _ _ wx (row_str (hx.stay hb)) (row_str (hy.stay hb))
  have hq := run_eql_op gdR (.tmp 12) (.tmp 14) (eqIn_reg x.reg.base.1 x.reg.size.1 y.reg.base.1 y.reg.size.1)
  clear hx hy B1
  go_enter Try.func121, Try.ntmps121
  go_wp2_with fail
  all_goals first
    | (go_ret
       refine ⟨ret_bool ?_, HB1.out _ _⟩
       rw [HR.out]
       have hi := HI.out
       have hst := HST.out
       first
         | (refine (decide_eq_false ?_).symm; intro hh; have := hi.1 hh; simp_all; done)
         | (rw [Bool.eq_iff_iff, decide_eq_true_iff, hi]; simp_all; done))
    | (refine (HK.out (HB1.out _ _)).mono ?_
       rintro e w2 ⟨rfl, rfl⟩
       go_wp2_with fail
       go_ret
       refine ⟨ret_bool ?_, HB1.out _ _⟩
       rw [HR.out]
       have hi := HI.out
       have hst := HST.out
       first
         | (refine (decide_eq_false ?_).symm; intro hh; have := hi.1 hh; simp_all; done)
         | (rw [Bool.eq_iff_iff, decide_eq_true_iff, hi]; simp_all; done))
set_option maxRecDepth 100000 in
set_option maxHeartbeats 4000000 in
theorem eqP_calls (w : World) (a b : Option Addr) (l m : List PtV) (c d : Nat) (h : Vec cPt 5 w a l c) (h' : Vec cPt 5 w b m d) (hi : ∀ x ∈ l, Row w x.a x.img x.c) (hi' : ∀ x ∈ m, Row w x.a x.img x.c) : Calls Try.prog 120 #[.slice a l.length c, .slice b m.length d, .func (.func 121) #[] #[]] w fun e w' => e = .returned (.bool (decide (l.map PtV.pt = m.map PtV.pt))) ∧ Below w.heap.size w w' := by
  obtain ⟨R, HR⟩ : ∃ R, Hid (R = decide (l.map PtV.pt = m.map PtV.pt)) := ⟨_, rfl⟩
  rw [← HR.out]
  have hl1 := h.len_le
  have hl2 := h'.len_le
  have HV := Lib.hid (And.intro h hi)
  have HU := Lib.hid (And.intro h' hi')
  clear h h' hi hi'
  by_cases hg : ¬ (l.length = m.length)
  · have HF : Hid (R = false) := by
      rw [Hid, HR.out, decide_eq_false_iff_not]
      intro hh; have := congrArg List.length hh; rw [List.length_map, List.length_map] at this; exact hg this
    have t1 : ((l.length : Int) != (m.length : Int)) = true := by simp; omega
    clear hg
    go_enter Try.func120, Try.ntmps120
    go_wp2_with fail
    go_ret
    exact ⟨ret_bool HF.out.symm, Below.refl _ _⟩
  have hg := Classical.not_not.1 hg
  have t1 : ((l.length : Int) != (m.length : Int)) = false := by rw [hg]; simp
  have HG := Lib.hid hg
  clear hg
  go_enter Try.func120, Try.ntmps120
  go_wp2_with fail
  go_loopw [17] (fun s wr => ∃ k : Nat, s = .int .i64 k ∧ k ≤ l.length ∧ Hid ((l.map PtV.pt).take k = (m.map PtV.pt).take k) ∧ Below w.heap.size w wr) (fun s _ => l.length - (intOf s).toNat)
  case atStart => exact ⟨0, rfl, Nat.zero_le _, rfl, Below.refl _ _⟩
  case round =>
    obtain ⟨k, rfl, hk, HE, B⟩ := hrel
    have HB := Lib.hid B
    by_cases hlt : k < l.length
    · have hlt' : k < m.length := by have := HG.out; omega
      have i0 := HV.out.1.index etP k hlt
      have i1 := HU.out.1.index etP k hlt'
      obtain ⟨u0, u1, u2, u3, u4⟩ := pts_cells HV.out.1 B k hlt
      have HRX := Lib.hid (HV.out.2 l[k] (List.getElem_mem hlt))
      have HRY := Lib.hid (HU.out.2 m[k] (List.getElem_mem hlt'))
      obtain ⟨x, hx⟩ : ∃ x : PtV, Hid (x = l[k]) := ⟨l[k], rfl⟩
      obtain ⟨y, hy⟩ : ∃ y : PtV, Hid (y = m[k]) := ⟨m[k], rfl⟩
      rw [← hx.out] at u0 u1 u2 u3 u4 HRX
      obtain ⟨wb, hwb⟩ : ∃ wb, wb = wr.alloc (.cells #[.int .i64 x.id.1, .int .i64 x.reg.base.1, .int .i64 x.reg.size.1, .bool x.keep, .slice x.a x.img.length x.c] 43) := ⟨_, rfl⟩
      have hbb : Below wr.heap.size wr wb := by rw [hwb]; exact (Below.refl _ _).alloc (Nat.le_refl _) _
      have hB1 := B.trans (hbb.mono B.size)
      obtain ⟨v0, v1, v2, v3, v4⟩ := pts_cells HU.out.1 hB1 k hlt'
      rw [← hy.out] at v0 v1 v2 v3 v4 HRY
      obtain ⟨wc, hwc⟩ : ∃ wc, wc = wb.alloc (.cells #[.int .i64 y.id.1, .int .i64 y.reg.base.1, .int .i64 y.reg.size.1, .bool y.keep, .slice y.a y.img.length y.c] 43) := ⟨_, rfl⟩
      have hbc : Below wb.heap.size wb wc := by rw [hwc]; exact (Below.refl _ _).alloc (Nat.le_refl _) _
      have hB2 := hB1.trans (hbc.mono hB1.size)
      have HB2 := Lib.hid hB2
      have hk1 := same1_calls wc x y (HRX.out.stay hB2) (HRY.out.stay hB2)
      obtain ⟨e, he⟩ : ∃ e, Hid (e = decide (x.pt = y.pt)) := ⟨_, rfl⟩
      rw [← he.out] at hk1
      have HK := Lib.hid hk1
      rw [hwb] at v0 v1 v2 v3 v4
      clear B hbb hB1 hbc hB2 hk1
      go_wp2_with fail
      rw [← hwb, ← hwc]
      clear hwb hwc
      refine (HK.out).mono ?_
      rintro e1 w5 ⟨rfl, hb5⟩
      have HB3 := Lib.hid (HB2.out.trans (hb5.mono HB2.out.size))
      clear hb5 u0 u1 u2 u3 u4 v0 v1 v2 v3 v4 i0 i1 HK
      cases e with
      | true =>
        have HE2 : Hid ((l.map PtV.pt).take (k + 1) = (m.map PtV.pt).take (k + 1)) := take_next _ _ k (by rw [List.length_map]; exact hlt) (by rw [List.length_map]; exact hlt') HE.out (by rw [List.getElem_map, List.getElem_map, ← hx.out, ← hy.out]; exact of_decide_eq_true he.out.symm)
        go_wp2_with fail
        go_roundw
        case rel => exact ⟨k + 1, by go_num, by omega, HE2.out, HB3.out⟩
        case measure => simp [intOf]; omega
      | false =>
        have HF : Hid (R = false) := by
          rw [Hid, HR.out, decide_eq_false_iff_not]
          intro hh
          refine of_decide_eq_false he.out.symm ?_
          have := List.getElem_of_eq hh (i := k) (by rw [List.length_map]; exact hlt)
          rw [List.getElem_map, List.getElem_map] at this
          rw [hx.out, hy.out]; exact this
        go_wp2_with fail
        go_ret
        exact ⟨ret_bool HF.out.symm, HB3.out⟩
    · have hk2 : k = l.length := by omega
      have HF : Hid (R = true) := by
        have h1 := HE.out
        rw [hk2, List.take_of_length_le (by rw [List.length_map]; exact Nat.le_refl _), List.take_of_length_le (by rw [List.length_map, HG.out]; exact Nat.le_refl _)] at h1
        rw [Hid, HR.out, decide_eq_true_iff]; exact h1
      clear B
      subst hk2
      go_wp2_with fail
      go_ret
      exact ⟨ret_bool HF.out.symm, HB.out⟩
set_option maxRecDepth 100000 in
set_option maxHeartbeats 4000000 in
theorem csame_calls (w : World) (V U : CfgV) (h : V.At w) (h' : U.At w) : Calls Try.prog 56 #[.agg #[.slice V.wa V.ws.length V.wc, .slice V.pa V.ps.length V.pc, .slice V.ca V.cs.length V.cc], .agg #[.slice U.wa U.ws.length U.wc, .slice U.pa U.ps.length U.pc, .slice U.ca U.cs.length U.cc]] w fun e w' => e = .returned (.bool (decide (V.cfg = U.cfg))) ∧ Below w.heap.size w w' := by
  obtain ⟨w0, hw0⟩ : ∃ w0, w0 = (w.alloc (.cells #[.slice V.wa V.ws.length V.wc, .slice V.pa V.ps.length V.pc, .slice V.ca V.cs.length V.cc] 26)).alloc (.cells #[.slice U.wa U.ws.length U.wc, .slice U.pa U.ps.length U.pc, .slice U.ca U.cs.length U.cc] 26) := ⟨_, rfl⟩
  have B0 : Below w.heap.size w w0 := by rw [hw0]; exact ((Below.refl _ w).alloc (Nat.le_refl _) _).alloc (by simp) _
  have hI := two_box w V U
  rw [← hw0] at hI
  have HI := Lib.hid hI
  have HV := Lib.hid (And.intro (h.stay B0) (h'.stay B0))
  have HB0 := Lib.hid B0
  obtain ⟨R, HR⟩ : ∃ R, Hid (R = decide (V.cfg = U.cfg)) := ⟨_, rfl⟩
  rw [← HR.out]
  obtain ⟨e1, he1⟩ : ∃ e, Hid (e = decide (V.ps.map PtV.pt = U.ps.map PtV.pt)) := ⟨_, rfl⟩
  obtain ⟨e2, he2⟩ : ∃ e, Hid (e = decide (V.ws = U.ws)) := ⟨_, rfl⟩
  obtain ⟨e3, he3⟩ : ∃ e, Hid (e = decide (V.cs = U.cs)) := ⟨_, rfl⟩
  have HRE : Hid (R = ((e1 && e2) && e3)) := by
    rw [Hid, HR.out, he1.out, he2.out, he3.out, Bool.eq_iff_iff]
    simp only [Bool.and_eq_true, decide_eq_true_eq, cfg_eq_iff]
    exact ⟨fun h => ⟨⟨h.2.1, h.1⟩, h.2.2⟩, fun h => ⟨h.1.2, h.1.1, h.2⟩⟩
  have hk := eqP_calls w0 V.pa U.pa V.ps U.ps V.pc U.pc HV.out.1.pts HV.out.2.pts HV.out.1.img HV.out.2.img
  rw [← he1.out] at hk
  have HK := Lib.hid hk
  obtain ⟨⟨c0, c1, c2⟩, ⟨d0, d1, d2⟩⟩ := hI
  clear h h' B0 hk
  go_enter Try.func56, Try.ntmps56
  go_wp2_with fail
  rw [← hw0]
  clear hw0
  refine (HK.out).mono ?_
  rintro e w1 ⟨rfl, hb1⟩
  have HB1 := Lib.hid hb1
  clear c0 c1 c2 d0 d1 d2 HK hb1
  cases e1 with
  | false =>
    go_wp2_with fail
    go_ret
    exact ⟨ret_bool (by rw [HRE.out]; rfl), HB0.out.trans (HB1.out.mono HB0.out.size)⟩
  | true =>
    obtain ⟨c0, c1, c2⟩ := HI.out.1.keep HB1.out
    obtain ⟨d0, d1, d2⟩ := HI.out.2.keep HB1.out
    have hk := eqW_calls w1 V.wa U.wa V.ws U.ws V.wc U.wc (HV.out.1.stay HB1.out).win (HV.out.2.stay HB1.out).win
    rw [← he2.out] at hk
    have HK := Lib.hid hk
    clear hk
    go_wp2_with fail
    refine (HK.out).mono ?_
    rintro e w2 ⟨rfl, hb2⟩
    have HB2 := Lib.hid (HB1.out.trans (hb2.mono HB1.out.size))
    clear c0 c1 c2 d0 d1 d2 HK hb2
    cases e2 with
    | false =>
      go_wp2_with fail
      go_ret
      exact ⟨ret_bool (by rw [HRE.out]; rfl), HB0.out.trans (HB2.out.mono HB0.out.size)⟩
    | true =>
      obtain ⟨c0, c1, c2⟩ := HI.out.1.keep HB2.out
      obtain ⟨d0, d1, d2⟩ := HI.out.2.keep HB2.out
      have hk := eqC_calls w2 V.ca U.ca V.cs U.cs V.cc U.cc (HV.out.1.stay HB2.out).chs (HV.out.2.stay HB2.out).chs
      rw [← he3.out] at hk
      have HK := Lib.hid hk
      clear hk
      go_wp2_with fail
      refine (HK.out).mono ?_
      rintro e w3 ⟨rfl, hb3⟩
      have HB3 := Lib.hid (HB2.out.trans (hb3.mono HB2.out.size))
      clear c0 c1 c2 d0 d1 d2 HK hb3
      go_wp2_with fail
      go_ret
      exact ⟨ret_bool (by rw [HRE.out]; rfl), HB0.out.trans (HB3.out.mono HB0.out.size)⟩
end Go.Proofs.Ytpnbaapjjchlbaa

/- Configurations as bytes: the plain laws of chapter 11. No condition. -/
namespace Go.Proofs.Ytpnbaapjjchlbaa
open Go Go.RowKit Go.Cit

theorem i64_row (n : Int) (h : -9223372036854775808 ≤ n ∧ n ≤ 9223372036854775807) : i64Q (numB (rowB (qOfI n) 8)) = n := by
  have hq : numB (rowB (qOfI n) 8) = qOfI n := by
    apply UInt64.toNat_inj.1
    rw [numB_toNat _ (by rw [rowB_length]; decide)]
    have e : ∀ x : UInt64, numN (rowB x 8) = x.toNat := by
      intro x
      have hx := x.toNat_lt
      simp only [rowB, numN, List.foldl_cons, List.foldl_nil, byte_dv]
      simp only [Nat.pow_zero, Nat.div_one, Nat.pow_one]
      omega
    exact e _
  rw [hq, i64Q, qOfI_nat]
  unfold wrap64
  omega
theorem numB_row4 (n : Nat) (h : n ≤ 65536) : (numB (rowB (qOfW (wOfI (n : Int))) 4)).toNat = n := by
  rw [numB_toNat _ (by rw [rowB_length]; decide)]
  have hx : (qOfW (wOfI (n : Int))).toNat = n := by
    have h1 := wOfI_nat (n : Int)
    unfold qOfW
    rw [UInt32.toNat_toUInt64]; omega
  simp only [rowB, numN, List.foldl_cons, List.foldl_nil, byte_dv, hx]
  simp only [Nat.pow_zero, Nat.div_one, Nat.pow_one]
  omega
theorem read_front {α : Type} (x rest : List UInt8) (n : Nat) (f : List UInt8 → α × Bool) (z : α) (hx : x.length = n) (hf : (f x).2 = true) : St.read ⟨x ++ rest, 0⟩ n f z = ((f x).1, ⟨rest, 0⟩) := by
  rw [read_yes (by rw [List.length_append]; omega) (by rw [List.take_left' hx]; exact hf), List.take_left' hx, List.drop_left' hx]
theorem bytes_front (m rest : List UInt8) (h : m.length ≤ 65536) : St.bytes ⟨withB m ++ rest, 0⟩ = (m, ⟨rest, 0⟩) := by
  have hl : (rowB (qOfW (wOfI (m.length : Int))) 4).length = 4 := rowB_length _ _
  have hn := numB_row4 m.length h
  have h1 : St.read ⟨withB m ++ rest, 0⟩ 4 fLen 0 = ((m.length : Int), ⟨m ++ rest, 0⟩) := by
    rw [withB, List.append_assoc, read_front _ _ 4 fLen 0 hl (by simp only [fLen, hn, decide_eq_true_eq]; exact h)]
    simp only [fLen, hn]
  rw [St.bytes, h1]
  simp only [if_true]
  exact read_front m rest m.length fAll [] rfl rfl
theorem read_zero {α : Type} {s : St} {n : Nat} {f : List UInt8 → α × Bool} {z : α} (h : s.e = 0) :
    (n ≤ s.l.length ∧ (f (s.l.take n)).2 = true ∧ s.read n f z = ((f (s.l.take n)).1, ⟨s.l.drop n, 0⟩)) ∨ s.read n f z = (z, St.broke) := by
  obtain ⟨l, e⟩ := s
  have h : e = 0 := h
  subst h
  by_cases hn : n ≤ l.length
  · by_cases hf : (f (l.take n)).2 = true
    · exact .inl ⟨hn, hf, read_yes hn hf⟩
    · exact .inr (read_bad hn (by simpa using hf))
  · right
    rw [read_no (fun _ => by omega)]
    rfl
theorem qOfI_i64Q (q : UInt64) : qOfI (i64Q q) = q := by
  apply UInt64.toNat_inj.1
  have h1 := qOfI_nat (i64Q q)
  have h2 := q_lt q
  unfold i64Q wrap64 at h1
  have : ((qOfI (i64Q q)).toNat : Int) = q.toNat := by
    unfold i64Q wrap64
    omega
  omega
theorem row4_len {x : List UInt8} (hx : x.length = 4) (h : (numB x).toNat ≤ 65536) : rowB (qOfW (wOfI ((numB x).toNat : Int))) 4 = x := by
  have h1 : qOfW (wOfI ((numB x).toNat : Int)) = numB x := by
    apply UInt64.toNat_inj.1
    have := wOfI_nat ((numB x).toNat : Int)
    unfold qOfW
    rw [UInt32.toNat_toUInt64]
    omega
  rw [h1, ← hx]
  exact rowB_numB x (by omega)
theorem bytes_zero {s : St} (h : s.e = 0) : (∃ m rest, m.length ≤ 65536 ∧ s.l = withB m ++ rest ∧ s.bytes = (m, ⟨rest, 0⟩)) ∨ s.bytes = ([], St.broke) := by
  rcases read_zero (n := 4) (f := fLen) (z := 0) h with ⟨hn, hf, hr⟩ | hr
  · have hle : (numB (s.l.take 4)).toNat ≤ 65536 := by simpa [fLen] using hf
    rw [St.bytes, hr, if_pos rfl]
    have hm : ((fLen (s.l.take 4)).1).toNat = (numB (s.l.take 4)).toNat := by simp [fLen]
    dsimp only
    rw [hm]
    rcases read_zero (s := ⟨s.l.drop 4, 0⟩) (n := (numB (s.l.take 4)).toNat) (f := fAll) (z := []) rfl with ⟨hn2, _, hr2⟩ | hr2
    · left
      dsimp only at hn2 hr2
      have hl : ((s.l.drop 4).take (numB (s.l.take 4)).toNat).length = (numB (s.l.take 4)).toNat := by rw [List.length_take]; omega
      refine ⟨(s.l.drop 4).take (numB (s.l.take 4)).toNat, (s.l.drop 4).drop (numB (s.l.take 4)).toNat, by rw [hl]; exact hle, ?_, hr2⟩
      rw [withB, hl, row4_len (by rw [List.length_take]; omega) hle, List.append_assoc, List.take_append_drop, List.take_append_drop]
    · exact .inr hr2
  · right
    rw [St.bytes, hr, if_neg (by decide)]

/-- A field that holds nothing. -/
theorem flag_one (x : UInt8) (h : x.toNat ≤ 1) : flagB (x == bI 1) = [x] := by
  have hx : x = 0 ∨ x = 1 := by
    rcases Nat.lt_or_ge x.toNat 1 with h1 | h1
    · left; apply UInt8.toNat_inj.1; show x.toNat = 0; omega
    · right; apply UInt8.toNat_inj.1; show x.toNat = 1; omega
  rcases hx with rfl | rfl <;> decide
theorem take_one {l : List UInt8} (h : 1 ≤ l.length) : l = l.getD 0 0 :: l.drop 1 := by
  cases l with
  | nil => simp at h
  | cons x r => rfl
theorem take1_get {l : List UInt8} : (l.take 1).getD 0 0 = l.getD 0 0 := by cases l <;> rfl

/-! ### What is read of a form. -/
def bPt (p : Pt) : List UInt8 := int8 p.id.1 ++ (int8 p.reg.base.1 ++ (int8 p.reg.size.1 ++ (flagB p.keep ++ withB p.img)))
theorem bPtV_pt (x : PtV) : bPtV x = bPt x.pt := by simp [bPtV, bPt, PtV.pt]
def formK (K : Cfg) : List UInt8 := ((int8 K.wins.length ++ K.wins.flatMap bWin) ++ (int8 K.parts.length ++ K.parts.flatMap bPt)) ++ (int8 K.chans.length ++ K.chans.flatMap bCh)
theorem flat_map {α β γ : Type} (f : α → β) (b : β → List γ) (c : α → List γ) (h : ∀ x, c x = b (f x)) : ∀ l : List α, l.flatMap c = (l.map f).flatMap b
  | [] => rfl
  | x :: r => by rw [List.flatMap_cons, List.map_cons, List.flatMap_cons, h, flat_map f b c h r]
theorem formV_cfg (V : CfgV) : formV V = formK V.cfg := by
  unfold formV formK CfgV.cfg
  simp only [List.length_map]
  rw [flat_map PtV.pt bPt bPtV bPtV_pt V.ps]
theorem int_front (n : I64) (r : List UInt8) : St.int ⟨int8 n.1 ++ r, 0⟩ = (n, ⟨r, 0⟩) := by
  unfold St.int
  rw [read_front (int8 n.1) r 8 fInt 0 (int8_len _) rfl]
  have h : (fInt (int8 n.1)).1 = n.1 := i64_row n.1 n.2
  dsimp only
  rw [h]
  exact Prod.ext (Subtype.ext (mkI_val n.2)) rfl
theorem flag_front (b : Bool) (r : List UInt8) : St.read ⟨flagB b ++ r, 0⟩ 1 fFlag false = (b, ⟨r, 0⟩) := by
  rw [read_front (flagB b) r 1 fFlag false rfl (by cases b <;> decide)]
  cases b <;> rfl
theorem win_front (x : Win) (r : List UInt8) : readWin ⟨bWin x ++ r, 0⟩ = (x, ⟨r, 0⟩) := by
  unfold readWin bWin
  rw [List.append_assoc]
  simp only [int_front]
theorem ch_front (x : Ch) (r : List UInt8) : readCh ⟨bCh x ++ r, 0⟩ = (x, ⟨r, 0⟩) := by
  unfold readCh bCh
  simp only [List.append_assoc, int_front]
theorem pt_front (p : Pt) (h : p.img.length ≤ 65536) (r : List UInt8) : readPt ⟨bPt p ++ r, 0⟩ = (p, ⟨r, 0⟩) := by
  unfold readPt bPt
  simp only [List.append_assoc, int_front, flag_front, bytes_front p.img r h]
theorem count_front (n : Nat) (r : List UInt8) (most : Int) (h : (n : Int) ≤ most) (hr : n ≤ r.length) (h9 : most ≤ 100) : St.count ⟨int8 n ++ r, 0⟩ most = ((n : Int), ⟨r, 0⟩) := by
  have e1 : (int8 (n : Int) ++ r).take 8 = int8 n := by rw [List.take_append_of_le_length (by rw [int8_len]; exact Nat.le_refl _), List.take_of_length_le (by rw [int8_len]; exact Nat.le_refl _)]
  have e2 : (int8 (n : Int) ++ r).drop 8 = r := by rw [List.drop_append_of_le_length (by rw [int8_len]; exact Nat.le_refl _), List.drop_of_length_le (by rw [int8_len]; exact Nat.le_refl _), List.nil_append]
  have e3 : i64Q (numB (int8 (n : Int))) = n := i64_row n (by omega)
  rw [count_yes (by rw [List.length_append, int8_len]; omega) (by rw [e1, e2, e3]; simp; omega), e1, e2, e3]
theorem readN_front {α β : Type} (f : St → β × St) (b : α → List UInt8) (g : α → β) (L : List α) (hf : ∀ x ∈ L, ∀ r, f ⟨b x ++ r, 0⟩ = (g x, ⟨r, 0⟩)) (r : List UInt8) : ∀ k, k ≤ L.length → readN f k ⟨L.flatMap b ++ r, 0⟩ = ((L.take k).map g, ⟨(L.drop k).flatMap b ++ r, 0⟩)
  | 0, _ => by simp [readN]
  | k + 1, hk => by
    have ih := readN_front f b g L hf r k (by omega)
    rw [readN, ih]
    have hd : L.drop k = L[k] :: L.drop (k + 1) := List.drop_eq_getElem_cons (by omega)
    rw [hd, List.flatMap_cons, List.append_assoc, hf L[k] (List.getElem_mem (by omega)), List.take_succ_eq_append_getElem (by omega : k < L.length), List.map_append]
    rfl
theorem readL_front {α β : Type} (f : St → β × St) (b : α → List UInt8) (g : α → β) (L : List α) (hf : ∀ x ∈ L, ∀ r, f ⟨b x ++ r, 0⟩ = (g x, ⟨r, 0⟩)) (hb : ∀ x ∈ L, 1 ≤ (b x).length) (most : Int) (hm : (L.length : Int) ≤ most) (h9 : most ≤ 100) (r : List UInt8) :
    readL f most ⟨(int8 L.length ++ L.flatMap b) ++ r, 0⟩ = (L.map g, ⟨r, 0⟩) := by
  have hl : ∀ (M : List α), (∀ x ∈ M, 1 ≤ (b x).length) → M.length ≤ (M.flatMap b).length := by
    intro M
    induction M with
    | nil => intro _; simp
    | cons x M ih =>
      intro h
      have h1 := h x (by simp)
      have h2 := ih (fun y hy => h y (by simp [hy]))
      rw [List.flatMap_cons, List.length_append, List.length_cons]
      omega
  unfold readL
  rw [List.append_assoc, count_front L.length (L.flatMap b ++ r) most hm (by rw [List.length_append]; have := hl L hb; omega) h9]
  dsimp only
  rw [Int.toNat_natCast, readN_front f b g L hf r L.length (Nat.le_refl _), List.take_length, List.drop_length]
  rfl
theorem canC_spec {K : Cfg} (h : canC K = true) : K.wins.length ≤ 12 ∧ K.parts.length ≤ 6 ∧ K.chans.length ≤ 8 ∧ ∀ p ∈ K.parts, p.img.length ≤ 512 := by
  unfold canC at h
  simp only [Bool.and_eq_true, decide_eq_true_eq, Bool.not_eq_true'] at h
  refine ⟨h.1.1.1, h.1.1.2, h.1.2, fun p hp => ?_⟩
  have := List.any_eq_false.1 h.2 p hp
  simpa using this
theorem par_front {K : Cfg} (h : canC K = true) (r : List UInt8) (hr : (formK K ++ r).length ≤ 65536) : parC (formK K ++ r) = K ∧ (par3 (formK K ++ r)).2 = ⟨r, 0⟩ := by
  obtain ⟨h1, h2, h3, h4⟩ := canC_spec h
  have e0 : St.new (formK K ++ r) = ⟨formK K ++ r, 0⟩ := by unfold St.new; rw [if_pos hr]
  have e1 : par1 (formK K ++ r) = (K.wins, ⟨(int8 K.parts.length ++ K.parts.flatMap bPt) ++ ((int8 K.chans.length ++ K.chans.flatMap bCh) ++ r), 0⟩) := by
    unfold par1
    rw [e0]
    have := readL_front readWin bWin id K.wins (fun x _ r => win_front x r) (fun x _ => by simp [bWin, int8_len]) 12 (by omega) (by decide) ((int8 K.parts.length ++ K.parts.flatMap bPt) ++ ((int8 K.chans.length ++ K.chans.flatMap bCh) ++ r))
    rw [List.map_id] at this
    rw [← this]
    congr 2
    simp [formK]
  have e2 : par2 (formK K ++ r) = (K.parts, ⟨(int8 K.chans.length ++ K.chans.flatMap bCh) ++ r, 0⟩) := by
    unfold par2
    rw [e1]
    have := readL_front readPt bPt id K.parts (fun x hx r => pt_front x (Nat.le_trans (h4 x hx) (by decide)) r) (fun x _ => by simp [bPt, int8_len] <;> omega) 6 (by omega) (by decide) ((int8 K.chans.length ++ K.chans.flatMap bCh) ++ r)
    rw [List.map_id] at this
    exact this
  have e3 : par3 (formK K ++ r) = (K.chans, ⟨r, 0⟩) := by
    unfold par3
    rw [e2]
    have := readL_front readCh bCh id K.chans (fun x _ r => ch_front x r) (fun x _ => by simp [bCh, int8_len] <;> omega) 8 (by omega) (by decide) r
    rw [List.map_id] at this
    exact this
  exact ⟨by unfold parC; rw [e1, e2, e3], by rw [e3]⟩
theorem form_len {K : Cfg} (h : canC K = true) : (formK K).length ≤ 4000 := by
  obtain ⟨h1, h2, h3, h4⟩ := canC_spec h
  have a1 := win_flat K.wins
  have a3 := ch_flat K.chans
  have a2 : ∀ l : List Pt, (∀ p ∈ l, p.img.length ≤ 512) → (l.flatMap bPt).length ≤ 541 * l.length := by
    intro l
    induction l with
    | nil => intro _; simp
    | cons p l ih =>
      intro h
      have b1 := h p (by simp)
      have b2 := ih (fun q hq => h q (by simp [hq]))
      have b3 : (bPt p).length = 29 + p.img.length := by simp [bPt, int8_len, flagB, withB_length]; omega
      rw [List.flatMap_cons, List.length_append, List.length_cons]
      omega
  have a2 := a2 K.parts h4
  unfold formK
  simp only [List.length_append, int8_len]
  omega
theorem par_form {K : Cfg} (h : canC K = true) : parC (formK K) = K ∧ parOk (formK K) = true := by
  have hl := form_len h
  have := par_front h [] (by rw [List.append_nil]; omega)
  rw [List.append_nil] at this
  refine ⟨this.1, ?_⟩
  unfold parOk
  rw [this.1, this.2, h]
  decide
theorem par_more {K : Cfg} (h : canC K = true) {r : List UInt8} (hr : r ≠ []) (hl : (formK K ++ r).length ≤ 65536) : parOk (formK K ++ r) = false := by
  have := par_front h r hl
  unfold parOk
  rw [this.2]
  have : St.fin ⟨r, 0⟩ = 50 := by
    unfold St.fin St.left
    rw [if_pos]
    simp
    exact List.length_pos_iff.2 hr
  rw [this]
  rfl
/-! ### What was read is the bytes. -/
def Eats {α : Type} (f : St → α × St) (b : α → List UInt8) : Prop := ∀ s, (f s).2.e = 0 → s.e = 0 ∧ s.l = b (f s).1 ++ (f s).2.l
theorem read_bad_e {α : Type} {s : St} {n : Nat} {f : List UInt8 → α × Bool} {z : α} (h : s.e ≠ 0) : (s.read n f z).2.e ≠ 0 := by
  unfold St.read St.next
  rw [if_pos h]
  exact h
theorem eats_int : Eats St.int (fun n => int8 n.1) := by
  intro s h
  by_cases he : s.e = 0
  · refine ⟨he, ?_⟩
    unfold St.int at h ⊢
    rcases read_zero (n := 8) (f := fInt) (z := 0) he with ⟨hn, _, hr⟩ | hr
    · rw [hr]
      dsimp only
      have h8 : (s.l.take 8).length = 8 := by rw [List.length_take]; omega
      have : (mkI (fInt (s.l.take 8)).1).1 = i64Q (numB (s.l.take 8)) := mkI_val (by unfold fInt i64Q; exact wrap_range _)
      rw [this]
      unfold int8
      rw [qOfI_i64Q]
      have h9 := rowB_numB (s.l.take 8) (by omega)
      rw [h8] at h9
      rw [h9, List.take_append_drop]
    · rw [hr] at h; exact absurd h (by decide)
  · exact absurd h (read_bad_e he)
theorem eats_flag : Eats (fun s => s.read 1 fFlag false) flagB := by
  intro s h
  by_cases he : s.e = 0
  · refine ⟨he, ?_⟩
    rcases read_zero (n := 1) (f := fFlag) (z := false) he with ⟨hn, hf, hr⟩ | hr
    · show s.l = _
      dsimp only at h ⊢
      rw [hr]
      dsimp only
      have h1 : ((s.l.take 1).getD 0 0).toNat ≤ 1 := by simpa [fFlag] using hf
      rw [take1_get] at h1
      show s.l = flagB ((s.l.take 1).getD 0 0 == bI 1) ++ s.l.drop 1
      rw [take1_get, flag_one _ h1]
      exact take_one hn
    · dsimp only at h
      rw [hr] at h; exact absurd h (by decide)
  · exact absurd h (read_bad_e he)
theorem eats_bytes : Eats St.bytes withB := by
  intro s h
  by_cases he : s.e = 0
  · refine ⟨he, ?_⟩
    rcases bytes_zero he with ⟨m, rest, _, hl, hb⟩ | hb
    · rw [hb]; exact hl
    · rw [hb] at h; exact absurd h (by decide)
  · unfold St.bytes at h
    rw [if_neg (read_bad_e he)] at h
    exact absurd h (read_bad_e he)
theorem eats_win : Eats readWin bWin := by
  intro s h
  obtain ⟨h1, e1⟩ := eats_int _ h
  obtain ⟨h0, e0⟩ := eats_int _ h1
  refine ⟨h0, ?_⟩
  rw [e0, e1]
  simp [readWin, bWin]
theorem eats_ch : Eats readCh bCh := by
  intro s h
  obtain ⟨h4, e4⟩ := eats_int _ h
  obtain ⟨h3, e3⟩ := eats_int _ h4
  obtain ⟨h2, e2⟩ := eats_int _ h3
  obtain ⟨h1, e1⟩ := eats_int _ h2
  obtain ⟨h0, e0⟩ := eats_int _ h1
  refine ⟨h0, ?_⟩
  rw [e0, e1, e2, e3, e4]
  simp [readCh, bCh]
theorem eats_pt : Eats readPt bPt := by
  intro s h
  obtain ⟨h4, e4⟩ := eats_bytes _ h
  obtain ⟨h3, e3⟩ := eats_flag _ h4
  obtain ⟨h2, e2⟩ := eats_int _ h3
  obtain ⟨h1, e1⟩ := eats_int _ h2
  obtain ⟨h0, e0⟩ := eats_int _ h1
  refine ⟨h0, ?_⟩
  rw [e0, e1, e2, e3, e4]
  simp [readPt, bPt]
theorem eats_count (most : Int) : Eats (fun s => s.count most) int8 := by
  intro s h
  by_cases he : s.e = 0
  · refine ⟨he, ?_⟩
    dsimp only at h ⊢
    unfold St.count at h ⊢
    rw [show s.next 8 = if 8 ≤ s.l.length then (some (s.l.take 8), ⟨s.l.drop 8, 0⟩) else (none, St.broke) by unfold St.next; rw [if_neg (by rw [he]; decide)]] at h ⊢
    by_cases hn : 8 ≤ s.l.length
    · rw [if_pos hn] at h ⊢
      dsimp only at h ⊢
      split at h
      · rename_i hc
        rw [if_pos hc]
        dsimp only
        have h8 : (s.l.take 8).length = 8 := by rw [List.length_take]; omega
        unfold int8
        rw [qOfI_i64Q]
        have h9 := rowB_numB (s.l.take 8) (by omega)
        rw [h8] at h9
        rw [h9, List.take_append_drop]
      · exact absurd h (by decide)
    · rw [if_neg hn] at h
      exact absurd h (by show ¬ ((50 : Int) = 0); decide)
  · exfalso
    dsimp only at h
    unfold St.count at h
    rw [show s.next 8 = (none, s) by unfold St.next; rw [if_pos he]] at h
    exact he h
theorem eats_N {α : Type} {f : St → α × St} {b : α → List UInt8} (hf : Eats f b) : ∀ k s, (readN f k s).2.e = 0 → s.e = 0 ∧ s.l = (readN f k s).1.flatMap b ++ (readN f k s).2.l
  | 0, s, h => ⟨h, by simp [readN]⟩
  | k + 1, s, h => by
    have h1 := hf _ h
    have h0 := eats_N hf k s h1.1
    refine ⟨h0.1, ?_⟩
    rw [readN, h0.2, h1.2]
    simp
theorem eats_L {α : Type} {f : St → α × St} {b : α → List UInt8} (hf : Eats f b) (most : Int) (hm : 0 ≤ most) : ∀ s, (readL f most s).2.e = 0 → s.e = 0 ∧ s.l = (int8 (readL f most s).1.length ++ (readL f most s).1.flatMap b) ++ (readL f most s).2.l := by
  intro s h
  have h1 := eats_N hf _ _ h
  have h0 := eats_count most s h1.1
  refine ⟨h0.1, ?_⟩
  have hl : ((readL f most s).1.length : Int) = (s.count most).1 := by
    unfold readL
    rw [readN_len]
    have := (count_range s most hm).1
    omega
  rw [h0.2, hl, List.append_assoc]
  congr 1
  exact h1.2
theorem fin_zero {s : St} (h : s.fin = 0) : s.e = 0 ∧ s.l = [] := by
  by_cases he : s.e = 0
  · unfold St.fin St.left at h
    rw [if_pos he] at h
    by_cases hp : 0 < s.l.length
    · rw [if_pos hp] at h; exact absurd h (by decide)
    · exact ⟨he, List.eq_nil_of_length_eq_zero (by omega)⟩
  · unfold St.fin St.left at h
    rw [if_neg he, if_neg (by decide)] at h
    exact absurd h he
theorem par_back {l : List UInt8} (h : parOk l = true) : l = formK (parC l) ∧ canC (parC l) = true := by
  unfold parOk at h
  rw [Bool.and_eq_true, decide_eq_true_eq] at h
  obtain ⟨h3, e3⟩ := fin_zero h.1
  obtain ⟨h2, e2⟩ := eats_L eats_ch 8 (by decide) _ h3
  obtain ⟨h1, e1⟩ := eats_L eats_pt 6 (by decide) _ h2
  obtain ⟨h0, e0⟩ := eats_L eats_win 12 (by decide) _ h1
  refine ⟨?_, h.2⟩
  have hn : St.new l = ⟨l, 0⟩ := by
    unfold St.new at h0 ⊢
    split
    · rfl
    · rename_i hc; rw [if_neg hc] at h0; exact absurd h0 (by decide)
  rw [hn] at e0
  have e0 : l = _ := e0
  have e3 : (par3 l).2.l = [] := e3
  have e2 : (par2 l).2.l = (int8 (par3 l).1.length ++ (par3 l).1.flatMap bCh) ++ (par3 l).2.l := e2
  have e1 : (par1 l).2.l = (int8 (par2 l).1.length ++ (par2 l).1.flatMap bPt) ++ (par2 l).2.l := e1
  have e0 : l = (int8 (par1 l).1.length ++ (par1 l).1.flatMap bWin) ++ (par1 l).2.l := by
    have := hn
    unfold par1
    rw [hn]
    exact e0
  rw [e3, List.append_nil] at e2
  rw [e2] at e1
  rw [e1] at e0
  conv => lhs; rw [e0]
  simp [formK, parC]
theorem form_inj {K J : Cfg} (h : canC K = true) (k : canC J = true) (e : formK K = formK J) : K = J := by
  rw [← (par_form h).1, e, (par_form k).1]
theorem par_cut {K : Cfg} (h : canC K = true) {n : Nat} (hn : n < (formK K).length) : parOk ((formK K).take n) = false := by
  cases hp : parOk ((formK K).take n) with
  | false => rfl
  | true =>
    obtain ⟨e, hc⟩ := par_back hp
    have hd : (formK K).drop n ≠ [] := by
      intro h0
      have := congrArg List.length h0
      rw [List.length_drop] at this
      simp at this
      omega
    have hl := form_len h
    have h1 := par_more hc hd (by rw [← e, List.take_append_drop]; omega)
    rw [← e, List.take_append_drop, (par_form h).2] at h1
    exact absurd h1 (by decide)
end Go.Proofs.Ytpnbaapjjchlbaa

/- Chapter 11's law: shown: walked. -/
namespace Go.Proofs.Ytpnbaapjjchlbaa
open Go Go.RowKit Go.Cit

def winS : Win := ⟨i3, i1⟩
def ptS : Pt := ⟨i1, ⟨i16, i32⟩, true, [1, 2]⟩
def cfgS11 : Cfg := ⟨[winS], [ptS], []⟩
theorem etU : ElemType Try.prog 41 5 1 1 (.int .u8 0) := ElemType.ofBytes btP
set_option maxRecDepth 100000 in
set_option maxHeartbeats 4000000 in
theorem shown11_calls (w : World) : Calls Try.prog 99 #[] w fun e w' => ∃ U : CfgV, e = .returned (.agg (cU U)) ∧ U.cfg = cfgS11 ∧ U.At w' ∧ Below w.heap.size w w' := by
  go_enter Try.func99, Try.ntmps99
  go_wp2_with (first
    | ((with_reducible refine wpList_value (o := ⟨some 2, .buildSlice _ _ _, _, _, _, _⟩) (by with_unfolding_all rfl) (build1c etW (.tmp 1) (.agg #[.int .i64 3, .int .i64 1]) #[.int .i64 3, .int .i64 1] rfl (by with_unfolding_all rfl) (by with_unfolding_all rfl) (by with_unfolding_all rfl) (by decide) _) ?_)))
  obtain ⟨N, hN⟩ : ∃ N, N = w.heap.size := ⟨_, rfl⟩
  rw [← hN]
  obtain ⟨wa, hwa⟩ : ∃ wa, wa = w.alloc (.cells #[.slice (some ⟨N + 1, 0, none⟩) 1 1, .slice (some ⟨N + 1 + 1 + 1, 0, none⟩) 1 1, .slice none 0 0] 26) := ⟨_, rfl⟩
  obtain ⟨wb, hwb⟩ : ∃ wb, wb = wa.alloc (.cells #[.int .i64 3, .int .i64 1] 52) := ⟨_, rfl⟩
  obtain ⟨wc, hwc⟩ : ∃ wc, wc = wb.alloc (.cells #[.int .u8 1, .int .u8 2] 5) := ⟨_, rfl⟩
  obtain ⟨wd, hwd⟩ : ∃ wd, wd = wc.alloc (.cells #[.int .i64 1, .int .i64 16, .int .i64 32, .bool true, .slice (some ⟨N + 1 + 1, 0, none⟩) 2 2] 43) := ⟨_, rfl⟩
  rw [← hwa, ← hwb, ← hwc, ← hwd]
  have sa : wa.heap.size = N + 1 := by rw [hwa, hN]; simp
  have sb : wb.heap.size = N + 1 + 1 := by rw [hwb]; simp [sa]
  have sc : wc.heap.size = N + 1 + 1 + 1 := by rw [hwc]; simp [sb]
  have ba : Below w.heap.size w wa := by rw [hwa]; exact (Below.refl _ w).alloc (Nat.le_refl _) _
  have bb : Below wa.heap.size wa wb := by rw [hwb]; exact (Below.refl _ _).alloc (Nat.le_refl _) _
  have bc : Below wb.heap.size wb wc := by rw [hwc]; exact (Below.refl _ _).alloc (Nat.le_refl _) _
  have bd : Below wc.heap.size wc wd := by rw [hwd]; exact (Below.refl _ _).alloc (Nat.le_refl _) _
  have xa : wa.heap[N]? = some (.cells #[.slice (some ⟨N + 1, 0, none⟩) 1 1, .slice (some ⟨N + 1 + 1 + 1, 0, none⟩) 1 1, .slice none 0 0] 26 (0, 0)) := by rw [hwa, hN]; exact heap_alloc_new _ _
  have xb : wb.heap[N + 1]? = some (.cells #[.int .i64 3, .int .i64 1] 52 (0, 0)) := by rw [hwb, ← sa]; exact heap_alloc_new _ _
  have xc : wc.heap[N + 1 + 1]? = some (.cells #[.int .u8 1, .int .u8 2] 5 (0, 0)) := by rw [hwc, ← sb]; exact heap_alloc_new _ _
  have xd : wd.heap[N + 1 + 1 + 1]? = some (.cells #[.int .i64 1, .int .i64 16, .int .i64 32, .bool true, .slice (some ⟨N + 1 + 1, 0, none⟩) 2 2] 43 (0, 0)) := by rw [hwd, ← sc]; exact heap_alloc_new _ _
  have ya := blk_stay (blk_stay (blk_stay xa bb) bc) bd
  have yb := blk_stay (blk_stay xb bc) bd
  have yc := blk_stay xc bd
  have hB : Below w.heap.size w wd := ((ba.trans (bb.mono ba.size)).trans (bc.mono (Nat.le_trans ba.size bb.size))).trans (bd.mono (Nat.le_trans (Nat.le_trans ba.size bb.size) bc.size))
  obtain ⟨x, hx⟩ : ∃ x : PtV, x = ⟨i1, ⟨i16, i32⟩, true, some ⟨N + 1 + 1, 0, none⟩, [1, 2], 2⟩ := ⟨_, rfl⟩
  refine bodyPost_ret (resB1 rowCfg rfl (by rfl) ya rfl) rfl ⟨⟨some ⟨N + 1, 0, none⟩, [winS], 1, some ⟨N + 1 + 1 + 1, 0, none⟩, [x], 1, none, [], 0⟩, rfl, by rw [hx]; rfl, ?_, by rw [hN]; exact hB⟩
  refine ⟨(vown_of_blk (f := cWin) (n := 2) (B := 0) (l := [winS]) cWin_len (Nat.zero_le _) (by decide) yb rfl).vec cWin_len, (vown_of_blk (f := cPt) (n := 5) (B := 0) (l := [x]) cPt_len (Nat.zero_le _) (by simp) xd (by rw [hx]; rfl)).vec cPt_len, Vec.nil_ _, fun y hy => ?_⟩
  obtain rfl : y = x := by simpa using hy
  subst hx
  exact (vown_of_blk (f := cb) (n := 1) (E := 5) (B := 0) (l := [1, 2]) cb_len (Nat.zero_le _) (by decide) yc rfl).own.isRow
end Go.Proofs.Ytpnbaapjjchlbaa

