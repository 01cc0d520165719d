/- Texts of the proof, one behind the other: SameC, StrG, StrP, ShaDef. No condition but those that each names. -/
import Derived.Test.YtlholdllibghbaaGreatG15
import Derived.Test.YtlholdllibghbaaGreatG14
import Derived.Test.YtlholdllibghbaaGreatShelf
import Derived.Test.YtlholdllibghbaaGreatG10
import Derived.Test.YtlholdllibghbaaGreatG20
import Derived.Test.YtlholdllibghbaaGreatG09
import Derived.Test.YtlholdllibghbaaGreatG01
import Derived.Test.YtlholdllibghbaaGreatG04
/- config.Same: walked. -/
namespace Go.Proofs.YtlholdllibghbaaGreat
open Go Go.RowKit Go.Cit

theorem load_win {w0 w : World} {a : Option Addr} {l : List Win} {c : Nat} (h : Vec cWin 2 w0 a l c) (hb : Below w0.heap.size w0 w) (k : Nat) (hk : k < l.length) : (Instr.loadAt 77 (.pointer (some (ad a (k * 2))))).run Tryz.prog w = .ok (.agg #[.int .i64 l[k].len.1, .int .i64 l[k].part.1]) w := by
  obtain ⟨u0, u1⟩ := win_cells h hb k hk
  have e : ad a (k * 2) = ⟨(ad a (k * 2)).block, (ad a (k * 2)).off, none⟩ := by cases a <;> rfl
  rw [e] at u0
  rw [e]
  refine run_loadAt_mid w _ _ 77 [.int .i64 l[k].len.1, .int .i64 l[k].part.1] _ (fun j v hv => ?_) Tryz.underlying77 rfl (by kernel_rfl)
  match j, hv with
  | 0, hv => injection hv with hv; rw [← hv]; exact u0
  | 1, hv => injection hv with hv; rw [← hv]; exact u1
def eqW6 (aa bb : Option Addr) (l m : List Win) (c d k : Nat) (x y : Win) (e : Bool) : Nat → Value
  | 16 => (.slice aa l.length c)
  | 17 => (.int .i64 (k : Int))
  | 18 => (.pointer (some (ad aa (k * 2))))
  | 19 => (.agg #[.int .i64 x.len.1, .int .i64 x.part.1])
  | 20 => (.slice bb m.length d)
  | 21 => (.int .i64 (k : Int))
  | 22 => (.pointer (some (ad bb (k * 2))))
  | 23 => (.agg #[.int .i64 y.len.1, .int .i64 y.part.1])
  | 24 => (.bool (!e))
  | _ => undef
def eqW6o (aa bb : Option Addr) (l m : List Win) (c d k : Nat) (_ _ : Win) (_ : Bool) : Nat → Value
  | 0 => (.slice aa l.length c)
  | 1 => (.slice bb m.length d)
  | 5 => (.int .i64 (k : Int))
  | _ => undef
set_option maxRecDepth 100000 in
set_option maxHeartbeats 4000000 in
theorem eqW_calls (w : World) (aa bb : Option Addr) (l m : List Win) (c d : Nat) (h : Vec cWin 2 w aa l c) (h' : Vec cWin 2 w bb m d) : Calls Tryz.prog 168 #[.slice aa l.length c, .slice bb m.length d] w fun e w' => e = .returned (.bool (decide (l = m))) ∧ Below w.heap.size w w' := by
  obtain ⟨R, HR⟩ : ∃ R, Hid (R = decide (l = m)) := ⟨_, rfl⟩
  rw [← HR.out]
  have hl1 := h.len_le
  have hl2 := h'.len_le
  have HV := Lib.hid h
  have HU := Lib.hid h'
  clear h h'
  by_cases hg : ¬ (l.length = m.length)
  · have HF : Hid (R = false) := by
      rw [Hid, HR.out, decide_eq_false_iff_not]
      intro hh; exact hg (by rw [hh])
    have t1 : ((l.length : Int) != (m.length : Int)) = true := by simp; omega
    clear hg
    go_enter Tryz.func168, Tryz.ntmps168
    go_wp2_with fail
    go_ret
    exact ⟨ret_bool HF.out.symm, Below.refl _ _⟩
  have hg := Classical.not_not.1 hg
  have t1 : ((l.length : Int) != (m.length : Int)) = false := by rw [hg]; simp
  have HG := Lib.hid hg
  clear hg
  go_enter Tryz.func168, Tryz.ntmps168
  go_wp2_with fail
  go_loopw [13] (fun s wr => ∃ k : Nat, s = .int .i64 k ∧ k ≤ l.length ∧ Hid (l.take k = m.take k) ∧ Below w.heap.size w wr) (fun s _ => l.length - (intOf s).toNat)
  case atStart => exact ⟨0, rfl, Nat.zero_le _, rfl, Below.refl _ _⟩
  case round =>
    obtain ⟨k, rfl, hk, HE, B⟩ := hrel
    have HB := Lib.hid B
    by_cases hlt : k < l.length
    · have hlt' : k < m.length := by have := HG.out; omega
      have i0 := HV.out.index etW k hlt
      have i1 := HU.out.index etW k hlt'
      obtain ⟨x, hx⟩ : ∃ x : Win, Hid (x = l[k]) := ⟨l[k], rfl⟩
      obtain ⟨y, hy⟩ : ∃ y : Win, Hid (y = m[k]) := ⟨m[k], rfl⟩
      have l1 : ∀ q : After wr, (Instr.loadAt 77 (.pointer (some (ad aa (k * 2))))).run Tryz.prog q.to = .ok (.agg #[.int .i64 x.len.1, .int .i64 x.part.1]) q.to := fun q => by rw [hx.out]; exact load_win HV.out (B.trans (q.bel.mono B.size)) k hlt
      have l2 : ∀ q : After wr, (Instr.loadAt 77 (.pointer (some (ad bb (k * 2))))).run Tryz.prog q.to = .ok (.agg #[.int .i64 y.len.1, .int .i64 y.part.1]) q.to := fun q => by rw [hy.out]; exact load_win HU.out (B.trans (q.bel.mono B.size)) k hlt'
      obtain ⟨e, he⟩ : ∃ e, Hid (decide (x = y) = e) := ⟨_, rfl⟩
      have hneq : Hid (∀ w : World, (do eqGuard .neq 77 (.tmp 19) (.tmp 23) (.agg #[.int .i64 x.len.1, .int .i64 x.part.1]) (.agg #[.int .i64 y.len.1, .int .i64 y.part.1]); binOp .neq 77 (.agg #[.int .i64 x.len.1, .int .i64 x.part.1]) (.agg #[.int .i64 y.len.1, .int .i64 y.part.1]) : Sem Value).run Tryz.prog w = .ok (.bool (!e)) w) := fun w => by
        have h1 := run_neq_op gdW (.tmp 19) (.tmp 23) (eqIn_win x.len.1 x.part.1 y.len.1 y.part.1) w
        rw [h1, ← he.out]
        simp only [win_eq_iff]
      clear B
      go_upto_region 6 with fail
      refine wp_region_vals (eqW6 aa bb l m c d k x y e) (eqW6o aa bb l m c d k x y e) [0, 1, 5] (by kernel_rfl) (by kernel_rfl) (by kernel_rfl) ⟨rfl, rfl, rfl, trivial⟩ ?_ ?_
      · refine opsAll_cons ?_ (opsAll_cons ?_ (opsAll_cons ?_ (opsAll_cons ?_ (opsAll_cons ?_ (opsAll_cons ?_ (opsAll_cons ?_ (opsAll_cons ?_ (opsAll_cons ?_ opsAll_nil))))))))
        all_goals intro a hk
        · -- slot 16
          exact .inl ⟨wanted_free rfl, q_move (.tmp 0) rfl (show a.eval (.tmp 0) = (.slice aa l.length c) from hk.old 0 (by kernel_rfl) (by kernel_rfl))⟩
        · -- slot 17
          exact .inl ⟨wanted_free rfl, q_move (.tmp 5) rfl (show a.eval (.tmp 5) = (.int .i64 (k : Int)) from hk.old 5 (by kernel_rfl) (by kernel_rfl))⟩
        · -- slot 18
          exact .inl ⟨wanted_free rfl, q_index (.tmp 16) (.tmp 17) rfl (show a.eval (.tmp 16) = (.slice aa l.length c) from hk.slot 16 (by kernel_rfl)) (show a.eval (.tmp 17) = (.int .i64 (k : Int)) from hk.slot 17 (by kernel_rfl)) (v := (.pointer (some (ad aa (k * 2))))) (fun w => i0 w) rfl⟩
        · -- slot 19
          exact .inl ⟨wanted_free rfl, q_load (.tmp 18) rfl (show a.eval (.tmp 18) = (.pointer (some (ad aa (k * 2)))) from hk.slot 18 (by kernel_rfl)) (v := (.agg #[.int .i64 x.len.1, .int .i64 x.part.1])) (fun q => l1 q) rfl⟩
        · -- slot 20
          exact .inl ⟨wanted_free rfl, q_move (.tmp 1) rfl (show a.eval (.tmp 1) = (.slice bb m.length d) from hk.old 1 (by kernel_rfl) (by kernel_rfl))⟩
        · -- slot 21
          exact .inl ⟨wanted_free rfl, q_move (.tmp 5) rfl (show a.eval (.tmp 5) = (.int .i64 (k : Int)) from hk.old 5 (by kernel_rfl) (by kernel_rfl))⟩
        · -- slot 22
          exact .inl ⟨wanted_free rfl, q_index (.tmp 20) (.tmp 21) rfl (show a.eval (.tmp 20) = (.slice bb m.length d) from hk.slot 20 (by kernel_rfl)) (show a.eval (.tmp 21) = (.int .i64 (k : Int)) from hk.slot 21 (by kernel_rfl)) (v := (.pointer (some (ad bb (k * 2))))) (fun w => i1 w) rfl⟩
        · -- slot 23
          exact .inl ⟨wanted_free rfl, q_load (.tmp 22) rfl (show a.eval (.tmp 22) = (.pointer (some (ad bb (k * 2)))) from hk.slot 22 (by kernel_rfl)) (v := (.agg #[.int .i64 y.len.1, .int .i64 y.part.1])) (fun q => l2 q) rfl⟩
        · -- slot 24
          exact .inl ⟨wanted_free rfl, q_bin rfl (show a.eval (.tmp 19) = (.agg #[.int .i64 x.len.1, .int .i64 x.part.1]) from hk.slot 19 (by kernel_rfl)) (show a.eval (.tmp 23) = (.agg #[.int .i64 y.len.1, .int .i64 y.part.1]) from hk.slot 23 (by kernel_rfl)) (v := (.bool (!e))) (fun w => hneq.out w) rfl⟩
      intro a ⟨w3, hb3⟩ hsame hall
      have he := act_same hsame [16, 17, 18, 19, 20, 21, 22, 23, 24] (by kernel_rfl)
      simp only [List.foldl_cons, List.foldl_nil] at he
      rw [show a.eval (.tmp 24) = (.bool (!e)) from hall 24 (by kernel_rfl)] at he
      generalize a.eval (.tmp 16) = x16 at he
      generalize a.eval (.tmp 17) = x17 at he
      generalize a.eval (.tmp 18) = x18 at he
      generalize a.eval (.tmp 19) = x19 at he
      generalize a.eval (.tmp 20) = x20 at he
      generalize a.eval (.tmp 21) = x21 at he
      generalize a.eval (.tmp 22) = x22 at he
      generalize a.eval (.tmp 23) = x23 at he
      simp only [put_lit] at he
      dsimp only [List.set_cons_zero, List.set_cons_succ] at he
      subst he
      clear hsame hall
      have HB3 := Lib.hid (HB.out.trans (hb3.mono HB.out.size))
      clear l1 l2 i0 i1
      cases e with
      | true =>
        have HE2 : Hid (l.take (k + 1) = m.take (k + 1)) := take_next l m k hlt hlt' HE.out (by rw [← hx.out, ← hy.out]; exact of_decide_eq_true he.out)
        go_wp2_with fail
        go_roundw
        case rel => exact ⟨k + 1, by go_num, by omega, HE2.out, HB3.out⟩
        case measure => simp [intOf]; omega
      | false =>
        have HF : Hid (R = false) := by
          rw [Hid, HR.out, decide_eq_false_iff_not]
          intro hh
          refine of_decide_eq_false he.out ?_
          rw [hx.out, hy.out]
          exact List.getElem_of_eq hh hlt
        go_wp2_with fail
        go_ret
        exact ⟨ret_bool HF.out.symm, HB3.out⟩
    · have hk2 : k = l.length := by omega
      have HF : Hid (R = true) := by
        have h1 := HE.out
        rw [hk2, List.take_length, HG.out, List.take_length] at h1
        rw [Hid, HR.out, decide_eq_true_iff]; exact h1
      clear B
      subst hk2
      go_wp2_with fail
      go_ret
      exact ⟨ret_bool HF.out.symm, HB.out⟩
def eqC6 (aa bb : Option Addr) (l m : List Ch) (c d k : Nat) (x y : Ch) (e : Bool) : Nat → Value
  | 16 => (.slice aa l.length c)
  | 17 => (.int .i64 (k : Int))
  | 18 => (.pointer (some (ad aa (k * 5))))
  | 19 => (.agg #[.int .i64 x.id.1, .int .i64 x.src.1, .int .i64 x.dst.1, .int .i64 x.cap.1, .int .i64 x.size.1])
  | 20 => (.slice bb m.length d)
  | 21 => (.int .i64 (k : Int))
  | 22 => (.pointer (some (ad bb (k * 5))))
  | 23 => (.agg #[.int .i64 y.id.1, .int .i64 y.src.1, .int .i64 y.dst.1, .int .i64 y.cap.1, .int .i64 y.size.1])
  | 24 => (.bool (!e))
  | _ => undef
def eqC6o (aa bb : Option Addr) (l m : List Ch) (c d k : Nat) (_ _ : Ch) (_ : Bool) : Nat → Value
  | 0 => (.slice aa l.length c)
  | 1 => (.slice bb m.length d)
  | 5 => (.int .i64 (k : Int))
  | _ => undef
set_option maxRecDepth 100000 in
set_option maxHeartbeats 4000000 in
theorem eqC_calls (w : World) (aa bb : Option Addr) (l m : List Ch) (c d : Nat) (h : Vec cCh 5 w aa l c) (h' : Vec cCh 5 w bb m d) : Calls Tryz.prog 169 #[.slice aa l.length c, .slice bb m.length d] w fun e w' => e = .returned (.bool (decide (l = m))) ∧ Below w.heap.size w w' := by
  obtain ⟨R, HR⟩ : ∃ R, Hid (R = decide (l = m)) := ⟨_, rfl⟩
  rw [← HR.out]
  have hl1 := h.len_le
  have hl2 := h'.len_le
  have HV := Lib.hid h
  have HU := Lib.hid h'
  clear h h'
  by_cases hg : ¬ (l.length = m.length)
  · have HF : Hid (R = false) := by
      rw [Hid, HR.out, decide_eq_false_iff_not]
      intro hh; exact hg (by rw [hh])
    have t1 : ((l.length : Int) != (m.length : Int)) = true := by simp; omega
    clear hg
    go_enter Tryz.func169, Tryz.ntmps169
    go_wp2_with fail
    go_ret
    exact ⟨ret_bool HF.out.symm, Below.refl _ _⟩
  have hg := Classical.not_not.1 hg
  have t1 : ((l.length : Int) != (m.length : Int)) = false := by rw [hg]; simp
  have HG := Lib.hid hg
  clear hg
  go_enter Tryz.func169, Tryz.ntmps169
  go_wp2_with fail
  go_loopw [13] (fun s wr => ∃ k : Nat, s = .int .i64 k ∧ k ≤ l.length ∧ Hid (l.take k = m.take k) ∧ Below w.heap.size w wr) (fun s _ => l.length - (intOf s).toNat)
  case atStart => exact ⟨0, rfl, Nat.zero_le _, rfl, Below.refl _ _⟩
  case round =>
    obtain ⟨k, rfl, hk, HE, B⟩ := hrel
    have HB := Lib.hid B
    by_cases hlt : k < l.length
    · have hlt' : k < m.length := by have := HG.out; omega
      have i0 := HV.out.index etC k hlt
      have i1 := HU.out.index etC k hlt'
      obtain ⟨x, hx⟩ : ∃ x : Ch, Hid (x = l[k]) := ⟨l[k], rfl⟩
      obtain ⟨y, hy⟩ : ∃ y : Ch, Hid (y = m[k]) := ⟨m[k], rfl⟩
      have l1 : ∀ q : After wr, (Instr.loadAt 48 (.pointer (some (ad aa (k * 5))))).run Tryz.prog q.to = .ok (.agg #[.int .i64 x.id.1, .int .i64 x.src.1, .int .i64 x.dst.1, .int .i64 x.cap.1, .int .i64 x.size.1]) q.to := fun q => by rw [hx.out]; exact load_ch HV.out (B.trans (q.bel.mono B.size)) k hlt
      have l2 : ∀ q : After wr, (Instr.loadAt 48 (.pointer (some (ad bb (k * 5))))).run Tryz.prog q.to = .ok (.agg #[.int .i64 y.id.1, .int .i64 y.src.1, .int .i64 y.dst.1, .int .i64 y.cap.1, .int .i64 y.size.1]) q.to := fun q => by rw [hy.out]; exact load_ch HU.out (B.trans (q.bel.mono B.size)) k hlt'
      obtain ⟨e, he⟩ : ∃ e, Hid (decide (x = y) = e) := ⟨_, rfl⟩
      have hneq : Hid (∀ w : World, (do eqGuard .neq 48 (.tmp 19) (.tmp 23) (.agg #[.int .i64 x.id.1, .int .i64 x.src.1, .int .i64 x.dst.1, .int .i64 x.cap.1, .int .i64 x.size.1]) (.agg #[.int .i64 y.id.1, .int .i64 y.src.1, .int .i64 y.dst.1, .int .i64 y.cap.1, .int .i64 y.size.1]); binOp .neq 48 (.agg #[.int .i64 x.id.1, .int .i64 x.src.1, .int .i64 x.dst.1, .int .i64 x.cap.1, .int .i64 x.size.1]) (.agg #[.int .i64 y.id.1, .int .i64 y.src.1, .int .i64 y.dst.1, .int .i64 y.cap.1, .int .i64 y.size.1]) : Sem Value).run Tryz.prog w = .ok (.bool (!e)) w) := fun w => by
        have h1 := run_neq_op gdC (.tmp 19) (.tmp 23) (eqIn_ch x.id.1 x.src.1 x.dst.1 x.cap.1 x.size.1 y.id.1 y.src.1 y.dst.1 y.cap.1 y.size.1) w
        rw [h1, ← he.out]
        simp only [ch_eq_iff]
      clear B
      go_upto_region 6 with fail
      refine wp_region_vals (eqC6 aa bb l m c d k x y e) (eqC6o aa bb l m c d k x y e) [0, 1, 5] (by kernel_rfl) (by kernel_rfl) (by kernel_rfl) ⟨rfl, rfl, rfl, trivial⟩ ?_ ?_
      · refine opsAll_cons ?_ (opsAll_cons ?_ (opsAll_cons ?_ (opsAll_cons ?_ (opsAll_cons ?_ (opsAll_cons ?_ (opsAll_cons ?_ (opsAll_cons ?_ (opsAll_cons ?_ opsAll_nil))))))))
        all_goals intro a hk
        · -- slot 16
          exact .inl ⟨wanted_free rfl, q_move (.tmp 0) rfl (show a.eval (.tmp 0) = (.slice aa l.length c) from hk.old 0 (by kernel_rfl) (by kernel_rfl))⟩
        · -- slot 17
          exact .inl ⟨wanted_free rfl, q_move (.tmp 5) rfl (show a.eval (.tmp 5) = (.int .i64 (k : Int)) from hk.old 5 (by kernel_rfl) (by kernel_rfl))⟩
        · -- slot 18
          exact .inl ⟨wanted_free rfl, q_index (.tmp 16) (.tmp 17) rfl (show a.eval (.tmp 16) = (.slice aa l.length c) from hk.slot 16 (by kernel_rfl)) (show a.eval (.tmp 17) = (.int .i64 (k : Int)) from hk.slot 17 (by kernel_rfl)) (v := (.pointer (some (ad aa (k * 5))))) (fun w => i0 w) rfl⟩
        · -- slot 19
          exact .inl ⟨wanted_free rfl, q_load (.tmp 18) rfl (show a.eval (.tmp 18) = (.pointer (some (ad aa (k * 5)))) from hk.slot 18 (by kernel_rfl)) (v := (.agg #[.int .i64 x.id.1, .int .i64 x.src.1, .int .i64 x.dst.1, .int .i64 x.cap.1, .int .i64 x.size.1])) (fun q => l1 q) rfl⟩
        · -- slot 20
          exact .inl ⟨wanted_free rfl, q_move (.tmp 1) rfl (show a.eval (.tmp 1) = (.slice bb m.length d) from hk.old 1 (by kernel_rfl) (by kernel_rfl))⟩
        · -- slot 21
          exact .inl ⟨wanted_free rfl, q_move (.tmp 5) rfl (show a.eval (.tmp 5) = (.int .i64 (k : Int)) from hk.old 5 (by kernel_rfl) (by kernel_rfl))⟩
        · -- slot 22
          exact .inl ⟨wanted_free rfl, q_index (.tmp 20) (.tmp 21) rfl (show a.eval (.tmp 20) = (.slice bb m.length d) from hk.slot 20 (by kernel_rfl)) (show a.eval (.tmp 21) = (.int .i64 (k : Int)) from hk.slot 21 (by kernel_rfl)) (v := (.pointer (some (ad bb (k * 5))))) (fun w => i1 w) rfl⟩
        · -- slot 23
          exact .inl ⟨wanted_free rfl, q_load (.tmp 22) rfl (show a.eval (.tmp 22) = (.pointer (some (ad bb (k * 5)))) from hk.slot 22 (by kernel_rfl)) (v := (.agg #[.int .i64 y.id.1, .int .i64 y.src.1, .int .i64 y.dst.1, .int .i64 y.cap.1, .int .i64 y.size.1])) (fun q => l2 q) rfl⟩
        · -- slot 24
          exact .inl ⟨wanted_free rfl, q_bin rfl (show a.eval (.tmp 19) = (.agg #[.int .i64 x.id.1, .int .i64 x.src.1, .int .i64 x.dst.1, .int .i64 x.cap.1, .int .i64 x.size.1]) from hk.slot 19 (by kernel_rfl)) (show a.eval (.tmp 23) = (.agg #[.int .i64 y.id.1, .int .i64 y.src.1, .int .i64 y.dst.1, .int .i64 y.cap.1, .int .i64 y.size.1]) from hk.slot 23 (by kernel_rfl)) (v := (.bool (!e))) (fun w => hneq.out w) rfl⟩
      intro a ⟨w3, hb3⟩ hsame hall
      have he := act_same hsame [16, 17, 18, 19, 20, 21, 22, 23, 24] (by kernel_rfl)
      simp only [List.foldl_cons, List.foldl_nil] at he
      rw [show a.eval (.tmp 24) = (.bool (!e)) from hall 24 (by kernel_rfl)] at he
      generalize a.eval (.tmp 16) = x16 at he
      generalize a.eval (.tmp 17) = x17 at he
      generalize a.eval (.tmp 18) = x18 at he
      generalize a.eval (.tmp 19) = x19 at he
      generalize a.eval (.tmp 20) = x20 at he
      generalize a.eval (.tmp 21) = x21 at he
      generalize a.eval (.tmp 22) = x22 at he
      generalize a.eval (.tmp 23) = x23 at he
      simp only [put_lit] at he
      dsimp only [List.set_cons_zero, List.set_cons_succ] at he
      subst he
      clear hsame hall
      have HB3 := Lib.hid (HB.out.trans (hb3.mono HB.out.size))
      clear l1 l2 i0 i1
      cases e with
      | true =>
        have HE2 : Hid (l.take (k + 1) = m.take (k + 1)) := take_next l m k hlt hlt' HE.out (by rw [← hx.out, ← hy.out]; exact of_decide_eq_true he.out)
        go_wp2_with fail
        go_roundw
        case rel => exact ⟨k + 1, by go_num, by omega, HE2.out, HB3.out⟩
        case measure => simp [intOf]; omega
      | false =>
        have HF : Hid (R = false) := by
          rw [Hid, HR.out, decide_eq_false_iff_not]
          intro hh
          refine of_decide_eq_false he.out ?_
          rw [hx.out, hy.out]
          exact List.getElem_of_eq hh hlt
        go_wp2_with fail
        go_ret
        exact ⟨ret_bool HF.out.symm, HB3.out⟩
    · have hk2 : k = l.length := by omega
      have HF : Hid (R = true) := by
        have h1 := HE.out
        rw [hk2, List.take_length, HG.out, List.take_length] at h1
        rw [Hid, HR.out, decide_eq_true_iff]; exact h1
      clear B
      subst hk2
      go_wp2_with fail
      go_ret
      exact ⟨ret_bool HF.out.symm, HB.out⟩
set_option maxRecDepth 100000 in
set_option maxHeartbeats 4000000 in
theorem same1_calls (w : World) (x y : PtV) (hx : Row w x.a x.img x.c) (hy : Row w y.a y.img y.c) : Calls Tryz.prog 167 #[.agg #[.int .i64 x.id.1, .int .i64 x.reg.base.1, .int .i64 x.reg.size.1, .bool x.keep, .slice x.a x.img.length x.c], .agg #[.int .i64 y.id.1, .int .i64 y.reg.base.1, .int .i64 y.reg.size.1, .bool y.keep, .slice y.a y.img.length y.c]] w fun e w' => e = .returned (.bool (decide (x.pt = y.pt))) ∧ Below w.heap.size w w' := by
  obtain ⟨R, HR⟩ : ∃ R, Hid (R = decide (x.pt = y.pt)) := ⟨_, rfl⟩
  have HI := Lib.hid (pt_eq_iff x y)
  rw [← HR.out]
  have B1 : ∀ C D, Below w.heap.size w ((w.alloc (.cells C 46)).alloc (.cells D 46)) := fun C D => ((Below.refl _ w).alloc (Nat.le_refl _) _).alloc (by simp) _
  have HB1 := Lib.hid B1
  obtain ⟨S, hS⟩ : ∃ S : ByteArray, Hid (S = ⟨x.img.toArray⟩) := ⟨_, rfl⟩
  obtain ⟨T, hT⟩ : ∃ T : ByteArray, Hid (T = ⟨y.img.toArray⟩) := ⟨_, rfl⟩
  have HST : Hid (S.toList = T.toList ↔ x.img = y.img) := by
    rw [Hid, hS.out, hT.out, ByteArray.toList_eq, ByteArray.toList_eq]
  have HK : Hid (∀ {wx : World}, Below w.heap.size w wx → Calls Tryz.prog 103 #[.slice x.a x.img.length x.c, .slice y.a y.img.length y.c] wx fun e w' => e = .returned (.bool (S.toList == T.toList)) ∧ w' = wx) := fun {wx} hb => by
    rw [hS.out, hT.out]
    exact Tryz.bytes_Equal_strs _ _ _ _ wx (row_str (hx.stay hb)) (row_str (hy.stay hb))
  have hq := run_eql_op gdR (.tmp 12) (.tmp 14) (eqIn_reg x.reg.base.1 x.reg.size.1 y.reg.base.1 y.reg.size.1)
  clear hx hy B1
  go_enter Tryz.func167, Tryz.ntmps167
  go_wp2_with fail
  all_goals first
    | (go_ret
       refine ⟨ret_bool ?_, HB1.out _ _⟩
       rw [HR.out]
       have hi := HI.out
       have hst := HST.out
       first
         | (refine (decide_eq_false ?_).symm; intro hh; have := hi.1 hh; simp_all; done)
         | (rw [Bool.eq_iff_iff, decide_eq_true_iff, hi]; simp_all; done))
    | (refine (HK.out (HB1.out _ _)).mono ?_
       rintro e w2 ⟨rfl, rfl⟩
       go_wp2_with fail
       go_ret
       refine ⟨ret_bool ?_, HB1.out _ _⟩
       rw [HR.out]
       have hi := HI.out
       have hst := HST.out
       first
         | (refine (decide_eq_false ?_).symm; intro hh; have := hi.1 hh; simp_all; done)
         | (rw [Bool.eq_iff_iff, decide_eq_true_iff, hi]; simp_all; done))
set_option maxRecDepth 100000 in
set_option maxHeartbeats 4000000 in
theorem eqP_calls (w : World) (a b : Option Addr) (l m : List PtV) (c d : Nat) (h : Vec cPt 5 w a l c) (h' : Vec cPt 5 w b m d) (hi : ∀ x ∈ l, Row w x.a x.img x.c) (hi' : ∀ x ∈ m, Row w x.a x.img x.c) : Calls Tryz.prog 166 #[.slice a l.length c, .slice b m.length d, .func (.func 167) #[] #[]] w fun e w' => e = .returned (.bool (decide (l.map PtV.pt = m.map PtV.pt))) ∧ Below w.heap.size w w' := by
  obtain ⟨R, HR⟩ : ∃ R, Hid (R = decide (l.map PtV.pt = m.map PtV.pt)) := ⟨_, rfl⟩
  rw [← HR.out]
  have hl1 := h.len_le
  have hl2 := h'.len_le
  have HV := Lib.hid (And.intro h hi)
  have HU := Lib.hid (And.intro h' hi')
  clear h h' hi hi'
  by_cases hg : ¬ (l.length = m.length)
  · have HF : Hid (R = false) := by
      rw [Hid, HR.out, decide_eq_false_iff_not]
      intro hh; have := congrArg List.length hh; rw [List.length_map, List.length_map] at this; exact hg this
    have t1 : ((l.length : Int) != (m.length : Int)) = true := by simp; omega
    clear hg
    go_enter Tryz.func166, Tryz.ntmps166
    go_wp2_with fail
    go_ret
    exact ⟨ret_bool HF.out.symm, Below.refl _ _⟩
  have hg := Classical.not_not.1 hg
  have t1 : ((l.length : Int) != (m.length : Int)) = false := by rw [hg]; simp
  have HG := Lib.hid hg
  clear hg
  go_enter Tryz.func166, Tryz.ntmps166
  go_wp2_with fail
  go_loopw [17] (fun s wr => ∃ k : Nat, s = .int .i64 k ∧ k ≤ l.length ∧ Hid ((l.map PtV.pt).take k = (m.map PtV.pt).take k) ∧ Below w.heap.size w wr) (fun s _ => l.length - (intOf s).toNat)
  case atStart => exact ⟨0, rfl, Nat.zero_le _, rfl, Below.refl _ _⟩
  case round =>
    obtain ⟨k, rfl, hk, HE, B⟩ := hrel
    have HB := Lib.hid B
    by_cases hlt : k < l.length
    · have hlt' : k < m.length := by have := HG.out; omega
      have i0 := HV.out.1.index etP k hlt
      have i1 := HU.out.1.index etP k hlt'
      obtain ⟨u0, u1, u2, u3, u4⟩ := pts_cells HV.out.1 B k hlt
      have HRX := Lib.hid (HV.out.2 l[k] (List.getElem_mem hlt))
      have HRY := Lib.hid (HU.out.2 m[k] (List.getElem_mem hlt'))
      obtain ⟨x, hx⟩ : ∃ x : PtV, Hid (x = l[k]) := ⟨l[k], rfl⟩
      obtain ⟨y, hy⟩ : ∃ y : PtV, Hid (y = m[k]) := ⟨m[k], rfl⟩
      rw [← hx.out] at u0 u1 u2 u3 u4 HRX
      obtain ⟨wb, hwb⟩ : ∃ wb, wb = wr.alloc (.cells #[.int .i64 x.id.1, .int .i64 x.reg.base.1, .int .i64 x.reg.size.1, .bool x.keep, .slice x.a x.img.length x.c] 46) := ⟨_, rfl⟩
      have hbb : Below wr.heap.size wr wb := by rw [hwb]; exact (Below.refl _ _).alloc (Nat.le_refl _) _
      have hB1 := B.trans (hbb.mono B.size)
      obtain ⟨v0, v1, v2, v3, v4⟩ := pts_cells HU.out.1 hB1 k hlt'
      rw [← hy.out] at v0 v1 v2 v3 v4 HRY
      obtain ⟨wc, hwc⟩ : ∃ wc, wc = wb.alloc (.cells #[.int .i64 y.id.1, .int .i64 y.reg.base.1, .int .i64 y.reg.size.1, .bool y.keep, .slice y.a y.img.length y.c] 46) := ⟨_, rfl⟩
      have hbc : Below wb.heap.size wb wc := by rw [hwc]; exact (Below.refl _ _).alloc (Nat.le_refl _) _
      have hB2 := hB1.trans (hbc.mono hB1.size)
      have HB2 := Lib.hid hB2
      have hk1 := same1_calls wc x y (HRX.out.stay hB2) (HRY.out.stay hB2)
      obtain ⟨e, he⟩ : ∃ e, Hid (e = decide (x.pt = y.pt)) := ⟨_, rfl⟩
      rw [← he.out] at hk1
      have HK := Lib.hid hk1
      rw [hwb] at v0 v1 v2 v3 v4
      clear B hbb hB1 hbc hB2 hk1
      go_wp2_with fail
      rw [← hwb, ← hwc]
      clear hwb hwc
      refine (HK.out).mono ?_
      rintro e1 w5 ⟨rfl, hb5⟩
      have HB3 := Lib.hid (HB2.out.trans (hb5.mono HB2.out.size))
      clear hb5 u0 u1 u2 u3 u4 v0 v1 v2 v3 v4 i0 i1 HK
      cases e with
      | true =>
        have HE2 : Hid ((l.map PtV.pt).take (k + 1) = (m.map PtV.pt).take (k + 1)) := take_next _ _ k (by rw [List.length_map]; exact hlt) (by rw [List.length_map]; exact hlt') HE.out (by rw [List.getElem_map, List.getElem_map, ← hx.out, ← hy.out]; exact of_decide_eq_true he.out.symm)
        go_wp2_with fail
        go_roundw
        case rel => exact ⟨k + 1, by go_num, by omega, HE2.out, HB3.out⟩
        case measure => simp [intOf]; omega
      | false =>
        have HF : Hid (R = false) := by
          rw [Hid, HR.out, decide_eq_false_iff_not]
          intro hh
          refine of_decide_eq_false he.out.symm ?_
          have := List.getElem_of_eq hh (i := k) (by rw [List.length_map]; exact hlt)
          rw [List.getElem_map, List.getElem_map] at this
          rw [hx.out, hy.out]; exact this
        go_wp2_with fail
        go_ret
        exact ⟨ret_bool HF.out.symm, HB3.out⟩
    · have hk2 : k = l.length := by omega
      have HF : Hid (R = true) := by
        have h1 := HE.out
        rw [hk2, List.take_of_length_le (by rw [List.length_map]; exact Nat.le_refl _), List.take_of_length_le (by rw [List.length_map, HG.out]; exact Nat.le_refl _)] at h1
        rw [Hid, HR.out, decide_eq_true_iff]; exact h1
      clear B
      subst hk2
      go_wp2_with fail
      go_ret
      exact ⟨ret_bool HF.out.symm, HB.out⟩
set_option maxRecDepth 100000 in
set_option maxHeartbeats 4000000 in
theorem csame_calls (w : World) (V U : CfgV) (h : V.At w) (h' : U.At w) : Calls Tryz.prog 82 #[.agg #[.slice V.wa V.ws.length V.wc, .slice V.pa V.ps.length V.pc, .slice V.ca V.cs.length V.cc], .agg #[.slice U.wa U.ws.length U.wc, .slice U.pa U.ps.length U.pc, .slice U.ca U.cs.length U.cc]] w fun e w' => e = .returned (.bool (decide (V.cfg = U.cfg))) ∧ Below w.heap.size w w' := by
  obtain ⟨w0, hw0⟩ : ∃ w0, w0 = (w.alloc (.cells #[.slice V.wa V.ws.length V.wc, .slice V.pa V.ps.length V.pc, .slice V.ca V.cs.length V.cc] 26)).alloc (.cells #[.slice U.wa U.ws.length U.wc, .slice U.pa U.ps.length U.pc, .slice U.ca U.cs.length U.cc] 26) := ⟨_, rfl⟩
  have B0 : Below w.heap.size w w0 := by rw [hw0]; exact ((Below.refl _ w).alloc (Nat.le_refl _) _).alloc (by simp) _
  have hI := two_box w V U
  rw [← hw0] at hI
  have HI := Lib.hid hI
  have HV := Lib.hid (And.intro (h.stay B0) (h'.stay B0))
  have HB0 := Lib.hid B0
  obtain ⟨R, HR⟩ : ∃ R, Hid (R = decide (V.cfg = U.cfg)) := ⟨_, rfl⟩
  rw [← HR.out]
  obtain ⟨e1, he1⟩ : ∃ e, Hid (e = decide (V.ps.map PtV.pt = U.ps.map PtV.pt)) := ⟨_, rfl⟩
  obtain ⟨e2, he2⟩ : ∃ e, Hid (e = decide (V.ws = U.ws)) := ⟨_, rfl⟩
  obtain ⟨e3, he3⟩ : ∃ e, Hid (e = decide (V.cs = U.cs)) := ⟨_, rfl⟩
  have HRE : Hid (R = ((e1 && e2) && e3)) := by
    rw [Hid, HR.out, he1.out, he2.out, he3.out, Bool.eq_iff_iff]
    simp only [Bool.and_eq_true, decide_eq_true_eq, cfg_eq_iff]
    exact ⟨fun h => ⟨⟨h.2.1, h.1⟩, h.2.2⟩, fun h => ⟨h.1.2, h.1.1, h.2⟩⟩
  have hk := eqP_calls w0 V.pa U.pa V.ps U.ps V.pc U.pc HV.out.1.pts HV.out.2.pts HV.out.1.img HV.out.2.img
  rw [← he1.out] at hk
  have HK := Lib.hid hk
  obtain ⟨⟨c0, c1, c2⟩, ⟨d0, d1, d2⟩⟩ := hI
  clear h h' B0 hk
  go_enter Tryz.func82, Tryz.ntmps82
  go_wp2_with fail
  rw [← hw0]
  clear hw0
  refine (HK.out).mono ?_
  rintro e w1 ⟨rfl, hb1⟩
  have HB1 := Lib.hid hb1
  clear c0 c1 c2 d0 d1 d2 HK hb1
  cases e1 with
  | false =>
    go_wp2_with fail
    go_ret
    exact ⟨ret_bool (by rw [HRE.out]; rfl), HB0.out.trans (HB1.out.mono HB0.out.size)⟩
  | true =>
    obtain ⟨c0, c1, c2⟩ := HI.out.1.keep HB1.out
    obtain ⟨d0, d1, d2⟩ := HI.out.2.keep HB1.out
    have hk := eqW_calls w1 V.wa U.wa V.ws U.ws V.wc U.wc (HV.out.1.stay HB1.out).win (HV.out.2.stay HB1.out).win
    rw [← he2.out] at hk
    have HK := Lib.hid hk
    clear hk
    go_wp2_with fail
    refine (HK.out).mono ?_
    rintro e w2 ⟨rfl, hb2⟩
    have HB2 := Lib.hid (HB1.out.trans (hb2.mono HB1.out.size))
    clear c0 c1 c2 d0 d1 d2 HK hb2
    cases e2 with
    | false =>
      go_wp2_with fail
      go_ret
      exact ⟨ret_bool (by rw [HRE.out]; rfl), HB0.out.trans (HB2.out.mono HB0.out.size)⟩
    | true =>
      obtain ⟨c0, c1, c2⟩ := HI.out.1.keep HB2.out
      obtain ⟨d0, d1, d2⟩ := HI.out.2.keep HB2.out
      have hk := eqC_calls w2 V.ca U.ca V.cs U.cs V.cc U.cc (HV.out.1.stay HB2.out).chs (HV.out.2.stay HB2.out).chs
      rw [← he3.out] at hk
      have HK := Lib.hid hk
      clear hk
      go_wp2_with fail
      refine (HK.out).mono ?_
      rintro e w3 ⟨rfl, hb3⟩
      have HB3 := Lib.hid (HB2.out.trans (hb3.mono HB2.out.size))
      clear c0 c1 c2 d0 d1 d2 HK hb3
      go_wp2_with fail
      go_ret
      exact ⟨ret_bool (by rw [HRE.out]; rfl), HB0.out.trans (HB3.out.mono HB0.out.size)⟩
end Go.Proofs.YtlholdllibghbaaGreat

/- A region that draws its order, told slot by slot: bytes to a string, equality of strings, rows of bytes as results. -/
namespace Go.Proofs.YtlholdllibghbaaGreat
open Go Go.RowKit Go.Cit

theorem toCfg_img {w : World} {d : shCfg.D} (h : shCfg.ok w d) : ∀ x ∈ (toCfg d).ps, x.img.length ≤ 140737488351232 := by
  obtain ⟨_, h2, _, _⟩ := h
  intro x hx
  obtain ⟨y, hy, rfl⟩ := List.mem_map.1 hx
  obtain ⟨i, hi, rfl⟩ := List.mem_iff_getElem.1 hy
  have h3 := (h2.2.2.2.2 i hi).2
  generalize d.2.1.l[i] = z at h3
  obtain ⟨x1, ⟨x2, x3, ⟨⟩⟩, x4, ⟨a, c, l⟩, ⟨⟩⟩ := z
  obtain ⟨_, _, _, h5, _⟩ := h3
  exact Nat.le_trans h5.1.le h5.2
end Go.Proofs.YtlholdllibghbaaGreat

/- A plain region: bytes to a string, a guarded value. -/
namespace Go.Cit
open Go Go.RowKit
section
variable {P : Program} {ops : Array Oper} {rest : List Oper} {o : Oper} {act : Act} {w w' : World} {Q : Exit → Act → World → Prop}
theorem wpList_value_gs {v : Value} (hgd : Region.wanted o (yielded ops act.tmps) = true) (hr : (execOp act.eval o).run P w = .ok (.value v) w')
    (h : wpList P ops Q rest (act.put o.dst v) w') : wpList P ops Q (o :: rest) act w := by
  unfold wpList
  rw [if_pos hgd]
  left
  unfold Oper.wp
  rw [hr]
  exact h
end
end Go.Cit
namespace Go.Proofs.YtlholdllibghbaaGreat
open Go Go.RowKit Go.Cit
theorem exec_conv {w : World} {o : Oper} {ρ : Operand → Value} {x : Operand} {a : Option Addr} {l : List UInt8} {n c : Nat} (h : o.op = .convert 40 9 x) (hx : ρ x = .slice a n c) (hn : l.length = n) (hr : Row w a l c) :
    (execOp ρ o).run Tryz.prog w = .ok (.value (.string ⟨l.toArray⟩)) w := by
  subst hn
  unfold execOp; rw [h]; dsimp only; rw [hx]
  rw [Sem.run_bind, row_str hr]; rfl
theorem small_can {V : CfgV} (h : canV V = true) : SmallV V := by
  obtain ⟨h1, h2, h3, h4⟩ := can_spec h
  refine ⟨by omega, by omega, by omega, fun x hx => ?_⟩
  have := List.any_eq_false.1 h4 x hx
  simp only [longP, decide_eq_true_eq] at this
  omega
end Go.Proofs.YtlholdllibghbaaGreat

/- SHA-256, by itself: plain functions. No condition. -/
namespace Go.Cit

def rotN (n : Nat) (x : UInt32) : UInt32 := UInt32.ofNat ((x.toNat % 2 ^ n) * 2 ^ (32 - n) + x.toNat / 2 ^ n)
def shrN (n : Nat) (x : UInt32) : UInt32 := UInt32.ofNat (x.toNat / 2 ^ n)

theorem rot_sum (x n : Nat) (h1 : 1 ≤ n) (h31 : n ≤ 31) (hx : x < 4294967296) : (x % 2 ^ n) * 2 ^ (32 - n) + x / 2 ^ n < 4294967296 := by
  have e : 2 ^ n * 2 ^ (32 - n) = 4294967296 := by rw [← Nat.pow_add, show n + (32 - n) = 32 by omega]
  have hp : 0 < 2 ^ n := Nat.pow_pos (by decide)
  have hq : 0 < 2 ^ (32 - n) := Nat.pow_pos (by decide)
  have h2 : x / 2 ^ n < 2 ^ (32 - n) := by
    rw [Nat.div_lt_iff_lt_mul hp, Nat.mul_comm, e]; exact hx
  have h3 := Nat.mod_lt x hp
  have h4 : (x % 2 ^ n + 1) * 2 ^ (32 - n) ≤ 2 ^ n * 2 ^ (32 - n) := Nat.mul_le_mul_right _ h3
  rw [e, Nat.add_mul, Nat.one_mul] at h4
  omega
theorem rot_low (x n : Nat) (h31 : n ≤ 31) : x * 2 ^ (32 - n) % 4294967296 = (x % 2 ^ n) * 2 ^ (32 - n) := by
  have e : 4294967296 = 2 ^ n * 2 ^ (32 - n) := by rw [← Nat.pow_add, show n + (32 - n) = 32 by omega]
  rw [e, Nat.mul_mod_mul_right]
theorem rotN_toNat (n : Nat) (x : UInt32) (h1 : 1 ≤ n) (h31 : n ≤ 31) : (rotN n x).toNat = (x.toNat % 2 ^ n) * 2 ^ (32 - n) + x.toNat / 2 ^ n := by
  unfold rotN
  exact UInt32.toNat_ofNat_of_lt' (rot_sum x.toNat n h1 h31 (w_lt x))
theorem shrN_toNat (n : Nat) (x : UInt32) : (shrN n x).toNat = x.toNat / 2 ^ n := by
  unfold shrN
  exact UInt32.toNat_ofNat_of_lt' (Nat.lt_of_le_of_lt (Nat.div_le_self _ _) (w_lt x))
theorem rot_or (n : Nat) (x : UInt32) (h1 : 1 ≤ n) (h31 : n ≤ 31) : (x.toNat * 2 ^ (32 - n) % 4294967296) ||| (x.toNat / 2 ^ n) = (rotN n x).toNat := by
  have hp : 0 < 2 ^ n := Nat.pow_pos (by decide)
  have e : 2 ^ (32 - n) * 2 ^ n = 4294967296 := by rw [← Nat.pow_add, show 32 - n + n = 32 by omega]
  have h2 : x.toNat / 2 ^ n < 2 ^ (32 - n) := by
    rw [Nat.div_lt_iff_lt_mul hp, e]; exact w_lt x
  rw [rot_low _ _ h31, rotN_toNat n x h1 h31, ← Nat.shiftLeft_eq, Nat.shiftLeft_add_eq_or_of_lt h2]
def threeW (a b : Nat) (x y : UInt32) : UInt32 := wXor (wXor (rotN a x) (rotN b x)) y
def turnedW (a b c : Nat) (x : UInt32) : UInt32 := threeW a b x (rotN c x)
def movedW (a b c : Nat) (x : UInt32) : UInt32 := threeW a b x (shrN c x)

def sched (b : List UInt8) : Nat → List UInt32
  | 0 => []
  | i + 1 => sched b i ++ [if i < 16 then wOfQ (numB ((b.drop (4 * i)).take 4))
      else wAdd (wAdd (wAdd ((sched b i).getD (i - 16) 0) ((sched b i).getD (i - 7) 0)) (movedW 7 18 3 ((sched b i).getD (i - 15) 0))) (movedW 17 19 10 ((sched b i).getD (i - 2) 0))]
theorem sched_length (b : List UInt8) : ∀ n, (sched b n).length = n
  | 0 => rfl
  | n + 1 => by rw [sched, List.length_append, sched_length b n]; rfl

structure S8 where
  a : UInt32
  b : UInt32
  c : UInt32
  d : UInt32
  e : UInt32
  f : UInt32
  g : UInt32
  h : UInt32
def S8.l (s : S8) : List UInt32 := [s.a, s.b, s.c, s.d, s.e, s.f, s.g, s.h]
def S8.rnd (s : S8) (k w : UInt32) : S8 :=
  let t := wAdd (wAdd (wAdd (wAdd s.h (turnedW 6 11 25 s.e)) (wXor s.g (wAnd s.e (wXor s.f s.g)))) k) w
  let u := wAdd (turnedW 2 13 22 s.a) (wOr (wAnd s.a s.b) (wAnd s.c (wOr s.a s.b)))
  ⟨wAdd t u, s.a, s.b, s.c, wAdd s.d t, s.e, s.f, s.g⟩
def S8.rounds (s : S8) (k w : List UInt32) : Nat → S8
  | 0 => s
  | n + 1 => (s.rounds k w n).rnd (k.getD n 0) (w.getD n 0)
def S8.plus (x s : S8) : S8 := ⟨wAdd x.a s.a, wAdd x.b s.b, wAdd x.c s.c, wAdd x.d s.d, wAdd x.e s.e, wAdd x.f s.f, wAdd x.g s.g, wAdd x.h s.h⟩
def S8.eat (s : S8) (k : List UInt32) (b : List UInt8) : S8 := (s.rounds k (sched b 64) 64).plus s

def kTab : List UInt32 := [0x428a2f98, 0x71374491, 0xb5c0fbcf, 0xe9b5dba5, 0x3956c25b, 0x59f111f1, 0x923f82a4, 0xab1c5ed5, 0xd807aa98, 0x12835b01, 0x243185be, 0x550c7dc3, 0x72be5d74, 0x80deb1fe, 0x9bdc06a7, 0xc19bf174,
  0xe49b69c1, 0xefbe4786, 0x0fc19dc6, 0x240ca1cc, 0x2de92c6f, 0x4a7484aa, 0x5cb0a9dc, 0x76f988da, 0x983e5152, 0xa831c66d, 0xb00327c8, 0xbf597fc7, 0xc6e00bf3, 0xd5a79147, 0x06ca6351, 0x14292967,
  0x27b70a85, 0x2e1b2138, 0x4d2c6dfc, 0x53380d13, 0x650a7354, 0x766a0abb, 0x81c2c92e, 0x92722c85, 0xa2bfe8a1, 0xa81a664b, 0xc24b8b70, 0xc76c51a3, 0xd192e819, 0xd6990624, 0xf40e3585, 0x106aa070,
  0x19a4c116, 0x1e376c08, 0x2748774c, 0x34b0bcb5, 0x391c0cb3, 0x4ed8aa4a, 0x5b9cca4f, 0x682e6ff3, 0x748f82ee, 0x78a5636f, 0x84c87814, 0x8cc70208, 0x90befffa, 0xa4506ceb, 0xbef9a3f7, 0xc67178f2]
def first8 : S8 := ⟨0x6a09e667, 0xbb67ae85, 0x3c6ef372, 0xa54ff53a, 0x510e527f, 0x9b05688c, 0x1f83d9ab, 0x5be0cd19⟩
def tailB (n : Nat) : List UInt8 := 128 :: (List.replicate ((119 - n % 64) % 64) 0 ++ rowB (qMul (qI 8) (qOfI n)) 8)
def eatAll (k : List UInt32) : Nat → S8 → List UInt8 → S8
  | 0, s, _ => s
  | n + 1, s, b => eatAll k n (s.eat k (b.take 64)) (b.drop 64)
def sprintB (s : S8) : List UInt8 := s.l.flatMap fun x => rowB (qOfW x) 4
def sumB (b : List UInt8) : List UInt8 := sprintB (eatAll kTab ((b.length + (tailB b.length).length) / 64) first8 (b ++ tailB b.length))
end Go.Cit

