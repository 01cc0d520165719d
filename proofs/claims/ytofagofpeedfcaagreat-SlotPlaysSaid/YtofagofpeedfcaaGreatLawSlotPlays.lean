/- Chapter 15's law SlotPlays: walked. -/
import Derived.Test.YtofagofpeedfcaaGreatOne15g
namespace Go.Proofs.YtofagofpeedfcaaGreat
open Go Go.RowKit Go.Cit

theorem one15_calls (w0 : World) (p : Pl) (r : Rl) (D : Dk) (x : Ax) (h : Pair w0 p r D) (hx : x.At w0) (hl : x.l.length ≤ 6000) (hxo : x.l ≠ [] → ∀ g, Go.Cit.blk x.a = some g → p.Off g ∧ r.Off g) :
    Calls Tryz.prog 7 #[.pointer (some ⟨p.b, 0, none⟩), .pointer (some ⟨r.b, 0, none⟩), .agg x.cs.toArray] w0 fun e w' => e = .returned (.bool true) ∧ (∃ D', Pair w' p r D') ∧ Save (fun k => p.Off k ∧ r.Off k) w0 w' := by
  by_cases h0 : 0 ≤ x.kind ∧ x.kind ≤ 8
  · obtain h1 | h1 | h1 | h1 | h1 | h1 | h1 : (x.kind = 0 ∨ x.kind = 1 ∨ x.kind = 2) ∨ x.kind = 3 ∨ x.kind = 4 ∨ x.kind = 5 ∨ x.kind = 6 ∨ x.kind = 7 ∨ x.kind = 8 := by omega
    · exact one15_write w0 p r D x h hx hl hxo h1
    · exact one15_read w0 p r D x h hx hl hxo h1
    · exact one15_get w0 p r D x h hx hl hxo h1
    · exact one15_flush w0 p r D x h hx hl hxo h1
    · exact one15_crash w0 p r D x h hx hl hxo h1
    · exact one15_start w0 p r D x h hx hl hxo h1
    · exact one15_arm w0 p r D x h hx hl hxo h1
  · exact one15_else w0 p r D x h hx hl hxo h0
set_option maxRecDepth 100000 in
set_option maxHeartbeats 4000000 in
theorem slotPlays_all (w : World) (n : Int) (a : Option Addr) (L : List Ax) (c : Nat) (hn : -9223372036854775808 ≤ n ∧ n ≤ 9223372036854775807) (h : Axs w a L c) :
    Calls Tryz.prog 3 #[.int .i64 n, .slice a L.length c] w fun e w' => e = .returned (.bool true) ∧ Below w.heap.size w w' := by
  have hgr := great15_calls w a L c h
  have HH := Lib.hid h
  have hll := h.vec.len_le
  clear h hn
  by_cases m1 : n < 1
  · clear hgr
    go_enter Tryz.func3, Tryz.ntmps3
    go_wp2_with fail
    go_ret
    exact ⟨rfl, Below.refl _ _⟩
  by_cases m2 : 140 < n
  · clear hgr
    go_enter Tryz.func3, Tryz.ntmps3
    go_wp2_with fail
    go_ret
    exact ⟨rfl, Below.refl _ _⟩
  cases hg : decide (6000 < totX L) with
  | true =>
    rw [hg] at hgr
    clear hg
    go_enter Tryz.func3, Tryz.ntmps3
    go_wp2_with fail
    refine (hgr).mono ?_
    rintro e w2 ⟨rfl, rfl⟩
    go_wp2_with fail
    go_ret
    exact ⟨rfl, Below.refl _ _⟩
  | false =>
    rw [hg] at hgr
    have hTot : Hid (totX L ≤ 6000) := by rw [decide_eq_false_iff_not] at hg; rw [Hid]; omega
    clear hg
    obtain ⟨k, rfl⟩ : ∃ k : Nat, n = (k : Int) := ⟨n.toNat, by omega⟩
    have hnew := new_calls w k (by omega) (by omega)
    have hk0 : 0 < k := by omega
    have hk9 : k ≤ 1024 := by omega
    go_enter Tryz.func3, Tryz.ntmps3
    go_wp2_with fail
    refine (hgr).mono ?_
    rintro e w2 ⟨rfl, rfl⟩
    go_wp2_with fail
    refine (hnew).mono ?_
    rintro e w3 ⟨p0, rfl, hD, hc4, hpl, hb3⟩
    have hrn := rnew_calls w3 k hk0 hk9
    have HD := Lib.hid hD
    have HC4 := Lib.hid hc4
    have HPL := Lib.hid hpl
    have HB3 := Lib.hid hb3
    clear hD hc4 hpl hb3 hnew hgr
    go_wp2_with fail
    refine (hrn).mono ?_
    rintro e w4 ⟨r, rfl, hR, hrB, hb4⟩
    obtain ⟨p, hp⟩ : ∃ p : Pl, Hid (p = { p0 with x := fun k => k = r.b ∨ k = r.lb }) := ⟨{ p0 with x := fun k => k = r.b ∨ k = r.lb }, rfl⟩
    have HPB : Hid (p.b = p0.b ∧ p.sb = p0.sb ∧ p.mb = p0.mb) := by rw [hp.out]; exact ⟨rfl, rfl, rfl⟩
    have HP : Hid (Pair w4 p r (newD k)) := by
      have hlr : r.b < w4.heap.size ∧ r.lb < w4.heap.size := by
        obtain ⟨L9, c9, sa9, sc9, hr9⟩ := hR
        exact ⟨(Array.getElem?_eq_some_iff.1 hr9.box).1, (Array.getElem?_eq_some_iff.1 hr9.held.blk.choose_spec).1⟩
      have hl := HD.out.lt
      rw [hp.out]
      exact ⟨(HD.out.stay hb4).elsewhere (keep hb4 HC4.out) _ (fun k hk => by rcases hk with rfl | rfl <;> omega), hR, fun k hk => hk, by show p0.b < r.B; omega, by show p0.sb < r.B; omega, by show p0.mb < r.B; omega⟩
    have HB4 := Lib.hid (HB3.out.trans (hb4.mono HB3.out.size))
    have HLOW : Hid (∀ k, k < w2.heap.size → p.Off k ∧ r.Off k) := fun k hk => by
      have h1 := HPL.out
      have h2 := hR.low
      have h3 := HB3.out.size
      refine ⟨⟨?_, ?_, ?_⟩, ?_, ?_⟩
      · rw [HPB.out.1]; omega
      · rw [HPB.out.2.1]; omega
      · rw [HPB.out.2.2]; omega
      · omega
      · omega
    rw [← HPB.out.1]
    clear hR hrB hb4 hrn
    go_wp2_with fail
    go_loopw [8] (fun i wr => ∃ q : Nat, q ≤ L.length ∧ i = .int .i64 (q : Int) ∧ Hid ((∃ D, Pair wr p r D) ∧ Below w2.heap.size w2 wr)) (fun i _ => L.length - (intOf i).toNat)
    case atStart => exact ⟨0, Nat.zero_le _, rfl, ⟨_, HP.out⟩, HB4.out⟩
    case round =>
      obtain ⟨q, hq, rfl, HI⟩ := hrel
      obtain ⟨⟨D, hPD⟩, hBD⟩ := HI.out
      have HPD := Lib.hid hPD
      have HBD := Lib.hid hBD
      clear hPD hBD HI
      by_cases hlt : q < L.length
      · have hA := HH.out.stay HBD.out
        have i0 := hA.vec.index etAx q hlt
        have hxl : (L[q]).l.length ≤ 6000 := by have h1 := totX_one L q hlt; have h2 := hTot.out; omega
        have hxo : (L[q]).l ≠ [] → ∀ g, Go.Cit.blk (L[q]).a = some g → p.Off g ∧ r.Off g := fun hne g hg => by
          have hrow := (HH.out.at_ _ (List.getElem_mem hlt)).row
          obtain ⟨g2, off, e2⟩ := hrow.spot hne
          rw [e2] at hg hrow
          have e3 := blk_some hg
          have := hrow.blk (i := 0) (List.length_pos_iff.2 hne)
          simp [ad] at this
          exact HLOW.out g (by omega)
        have hLD := hA.load q hlt
        have hone := one15_calls wr p r D L[q] HPD.out (hA.at_ _ (List.getElem_mem hlt)) hxl hxo
        generalize L[q] = x at hLD hone
        have HLD := Lib.hid hLD
        have HONE := Lib.hid hone
        clear hLD hone hxl hxo hA
        go_wp2_with ((with_reducible refine wpList_load_run (o := ⟨some 43, .load _ (.tmp 42), _, _, _, _⟩) (.tmp 42) (by with_unfolding_all rfl) (by with_unfolding_all rfl) (by with_unfolding_all rfl) HLD.out ?_))
        refine (HONE.out).mono ?_
        rintro e w6 ⟨rfl, ⟨D6, hP6⟩, hs6⟩
        have HP6 := Lib.hid hP6
        have HB6 := Lib.hid (HBD.out.trans (hs6.below HBD.out.size (fun k hk => HLOW.out k hk)))
        have ht := same15_calls w6 p r D6 hP6
        clear hP6 hs6
        go_wp2_with fail
        refine (ht).mono ?_
        rintro e w7 ⟨rfl, hb7⟩
        have HP7 := Lib.hid (HP6.out.stay hb7)
        have HB7 := Lib.hid (HB6.out.trans (hb7.mono HB6.out.size))
        clear hb7 ht
        go_wp2_with fail
        go_roundw
        case rel => exact ⟨q + 1, hlt, by go_num, ⟨_, HP7.out⟩, HB7.out⟩
        case measure => simp [intOf]; omega
      · go_wp2_with fail
        go_ret
        exact ⟨rfl, HBD.out⟩
end Go.Proofs.YtofagofpeedfcaaGreat
