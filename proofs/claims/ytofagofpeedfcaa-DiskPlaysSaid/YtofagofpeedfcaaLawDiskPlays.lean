/- Chapter 6's law DiskPlays: walked. -/
import Derived.Test.YtofagofpeedfcaaOne6b
namespace Go.Proofs.Ytofagofpeedfcaa
open Go Go.RowKit Go.Cit

set_option maxRecDepth 100000 in
theorem new_bad (w : World) (n : Int) (h : n < 1 ∨ 1024 < n) : Calls Try.prog 23 #[.int .i64 n] w fun e w' => e = .returned (.tuple #[.pointer none, .int .i64 2]) ∧ w' = w := by
  rcases h with h | h
  · go_enter Try.func23, Try.ntmps23
    go_wp2_with fail
    go_ret2
    exact ⟨rfl, rfl⟩
  · have h1 : ¬ n < 1 := by omega
    go_enter Try.func23, Try.ntmps23
    go_wp2_with fail
    go_ret2
    exact ⟨rfl, rfl⟩
theorem wpList_load_rg {P : Program} {ops : Array Oper} {rest : List Oper} {o : Oper} {act : Act} {w : World} {Q : Exit → Act → World → Prop} {T : TypeId} {q : Addr} {v : Value} (x : Operand) (hw : Region.wanted o (yielded ops act.tmps) = true) (ho : o.op = .load T x) (hx : act.eval x = .pointer (some q)) (hr : (loadVar T q).run P w = .ok v w)
    (h : wpList P ops Q rest (act.put o.dst v) w) : wpList P ops Q (o :: rest) act w := by
  refine wpList_step fun K hK => ?_
  rw [if_pos hw]
  unfold Oper.wp execOp
  simp only [ho, hx, Sem.run_bind, Instr.loadAt, Instr.sureAddr, Sem.run_pure, Result.andThen, hr]
  exact hK _ _ h
set_option maxRecDepth 100000 in
set_option maxHeartbeats 4000000 in
theorem diskPlays_all (w : World) (n : Int) (a : Option Addr) (L : List Ac) (c : Nat) (hn : -9223372036854775808 ≤ n ∧ n ≤ 9223372036854775807) (h : Acts w a L c) :
    Calls Try.prog 4 #[.int .i64 n, .slice a L.length c] w fun e w' => e = .returned (.bool true) ∧ Below w.heap.size w w' := by
  have hgr := great6_calls w a L c h
  have HH := Lib.hid h
  have hll := h.vec.len_le
  clear h hn
  by_cases hm : 12 < n ∧ n ≤ 1024
  · obtain ⟨m1, m2⟩ := hm
    clear hgr
    go_enter Try.func4, Try.ntmps4
    go_wp2_with fail
    go_ret
    exact ⟨rfl, Below.refl _ _⟩
  cases hg : decide (6000 < totA L) with
  | true =>
    rw [hg] at hgr
    by_cases h12 : 12 < n
    · have m2 : ¬ n ≤ 1024 := by omega
      clear hm hg
      go_enter Try.func4, Try.ntmps4
      go_wp2_with fail
      refine (hgr).mono ?_
      rintro e w2 ⟨rfl, rfl⟩
      go_wp2_with fail
      go_ret
      exact ⟨rfl, Below.refl _ _⟩
    · clear hm hg
      go_enter Try.func4, Try.ntmps4
      go_wp2_with fail
      refine (hgr).mono ?_
      rintro e w2 ⟨rfl, rfl⟩
      go_wp2_with fail
      go_ret
      exact ⟨rfl, Below.refl _ _⟩
  | false =>
    rw [hg] at hgr
    have hTot : Hid (totA L ≤ 6000) := by rw [decide_eq_false_iff_not] at hg; rw [Hid]; omega
    clear hg
    by_cases hbad : n < 1 ∨ 1024 < n
    · have hb := new_bad w n hbad
      rcases hbad with hb1 | hb1
      · have m1 : ¬ 12 < n := by omega
        clear hm
        go_enter Try.func4, Try.ntmps4
        go_wp2_with fail
        refine (hgr).mono ?_
        rintro e w2 ⟨rfl, rfl⟩
        go_wp2_with fail
        refine (hb).mono ?_
        rintro e w2 ⟨rfl, rfl⟩
        go_wp2_with fail
        go_ret
        exact ⟨rfl, Below.refl _ _⟩
      · have m1 : 12 < n := by omega
        have m2 : ¬ n ≤ 1024 := by omega
        have m3 : ¬ n < 1 := by omega
        clear hm
        go_enter Try.func4, Try.ntmps4
        go_wp2_with fail
        refine (hgr).mono ?_
        rintro e w2 ⟨rfl, rfl⟩
        go_wp2_with fail
        refine (hb).mono ?_
        rintro e w2 ⟨rfl, rfl⟩
        go_wp2_with fail
        go_ret
        exact ⟨rfl, Below.refl _ _⟩
    · have m1 : ¬ 12 < n := by omega
      have m3 : ¬ n < 1 := by omega
      have m4 : ¬ 1024 < n := by omega
      obtain ⟨k, rfl⟩ : ∃ k : Nat, n = (k : Int) := ⟨n.toNat, by omega⟩
      have hnew := new_calls w k (by omega) (by omega)
      have hk0 : 0 < k := by omega
      have hk9 : k ≤ 1024 := by omega
      clear hm hbad
      go_enter Try.func4, Try.ntmps4
      go_wp2_with fail
      refine (hgr).mono ?_
      rintro e w2 ⟨rfl, rfl⟩
      go_wp2_with fail
      refine (hnew).mono ?_
      rintro e w3 ⟨p0, rfl, hD, hc4, hpl, hb3⟩
      have hrn := rnew_calls w3 k hk0 hk9
      have HD := Lib.hid hD
      have HC4 := Lib.hid hc4
      have HPL := Lib.hid hpl
      have HB3 := Lib.hid hb3
      clear hD hc4 hpl hb3 hnew hgr
      go_wp2_with fail
      refine (hrn).mono ?_
      rintro e w4 ⟨r, rfl, hR, hrB, hb4⟩
      obtain ⟨p, hp⟩ : ∃ p : Pl, Hid (p = { p0 with x := fun k => k = r.b ∨ k = r.lb }) := ⟨{ p0 with x := fun k => k = r.b ∨ k = r.lb }, rfl⟩
      have HPB : Hid (p.b = p0.b ∧ p.sb = p0.sb ∧ p.mb = p0.mb) := by rw [hp.out]; exact ⟨rfl, rfl, rfl⟩
      have HP : Hid (Pair w4 p r (newD k)) := by
        have hlr : r.b < w4.heap.size ∧ r.lb < w4.heap.size := by
          obtain ⟨L9, c9, sa9, sc9, hr9⟩ := hR
          exact ⟨(Array.getElem?_eq_some_iff.1 hr9.box).1, (Array.getElem?_eq_some_iff.1 hr9.held.blk.choose_spec).1⟩
        have hl := HD.out.lt
        rw [hp.out]
        exact ⟨(HD.out.stay hb4).elsewhere (keep hb4 HC4.out) _ (fun k hk => by rcases hk with rfl | rfl <;> omega), hR, fun k hk => hk, by show p0.b < r.B; omega, by show p0.sb < r.B; omega, by show p0.mb < r.B; omega⟩
      have HB4 := Lib.hid (HB3.out.trans (hb4.mono HB3.out.size))
      have HLOW : Hid (∀ k, k < w2.heap.size → p.Off k ∧ r.Off k) := fun k hk => by
        have h1 := HPL.out
        have h2 := hR.low
        have h3 := HB3.out.size
        refine ⟨⟨?_, ?_, ?_⟩, ?_, ?_⟩
        · rw [HPB.out.1]; omega
        · rw [HPB.out.2.1]; omega
        · rw [HPB.out.2.2]; omega
        · omega
        · omega
      rw [← HPB.out.1]
      clear hR hrB hb4 hrn
      go_wp2_with fail
      go_loopw [8] (fun i wr => ∃ q : Nat, q ≤ L.length ∧ i = .int .i64 (q : Int) ∧ Hid ((∃ D, Pair wr p r D) ∧ Below w2.heap.size w2 wr)) (fun i _ => L.length - (intOf i).toNat)
      case atStart => exact ⟨0, Nat.zero_le _, rfl, ⟨_, HP.out⟩, HB4.out⟩
      case round =>
        obtain ⟨q, hq, rfl, HI⟩ := hrel
        obtain ⟨⟨D, hPD⟩, hBD⟩ := HI.out
        have ht := told_calls wr p r D hPD
        have HPD := Lib.hid hPD
        have HBD := Lib.hid hBD
        clear hPD hBD HI
        by_cases hlt : q < L.length
        · have hA := HH.out.stay HBD.out
          have i0 := hA.vec.index etA q hlt
          have hxl : (L[q]).l.length ≤ 6000 := by have h1 := totA_one L q hlt; have h2 := hTot.out; omega
          have hxo : (L[q]).l ≠ [] → ∀ g, Go.Cit.blk (L[q]).a = some g → p.Off g ∧ r.Off g := fun hne g hg => by
            have hrow := (HH.out.at_ _ (List.getElem_mem hlt)).row
            obtain ⟨g2, off, e2⟩ := hrow.spot hne
            rw [e2] at hg hrow
            have e3 := blk_some hg
            have := hrow.blk (i := 0) (List.length_pos_iff.2 hne)
            simp [ad] at this
            exact HLOW.out g (by omega)
          have HAL := Lib.hid (fun w' (hb : Below wr.heap.size wr w') => (hA.stay hb).load q hlt)
          have HAT := Lib.hid (fun w' (hb : Below wr.heap.size wr w') => (hA.stay hb).at_ _ (List.getElem_mem hlt))
          clear hA
          go_wp2_with fail
          refine (ht).mono ?_
          rintro e w5 ⟨rfl, hb5⟩
          have hLD := HAL.out w5 hb5
          have hone := one_calls w5 p r D L[q] (HPD.out.stay hb5) (HAT.out w5 hb5) hxl hxo
          have HBD5 := Lib.hid (HBD.out.trans (hb5.mono HBD.out.size))
          generalize L[q] = x at hLD hone
          have HLD := Lib.hid hLD
          have HONE := Lib.hid hone
          clear hLD hone hb5 hxl hxo HAL HAT
          go_wp2_with ((with_reducible refine wpList_load_rg (o := ⟨some 60, .load _ (.tmp 59), _, _, _, _⟩) (.tmp 59) (by with_unfolding_all rfl) (by with_unfolding_all rfl) (by with_unfolding_all rfl) HLD.out ?_))
          refine (HONE.out).mono ?_
          rintro e w6 ⟨rfl, hP6, hs6⟩
          have HP6 := Lib.hid hP6
          have HB6 := Lib.hid (HBD5.out.trans (hs6.below HBD5.out.size (fun k hk => HLOW.out k hk)))
          clear hP6 hs6
          go_wp2_with fail
          go_roundw
          case rel => exact ⟨q + 1, hlt, by go_num, ⟨_, HP6.out⟩, HB6.out⟩
          case measure => simp [intOf]; omega
        · go_wp2_with fail
          refine (ht).mono ?_
          rintro e w5 ⟨rfl, hb5⟩
          go_wp2_with fail
          go_ret
          exact ⟨rfl, HBD.out.trans (hb5.mono HBD.out.size)⟩
end Go.Proofs.Ytofagofpeedfcaa
