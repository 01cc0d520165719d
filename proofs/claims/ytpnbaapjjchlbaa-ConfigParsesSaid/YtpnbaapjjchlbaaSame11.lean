/- The reference's Same; chapter 12's is: walked. -/
import Derived.Test.YtpnbaapjjchlbaaLaw11
namespace Go.Proofs.Ytpnbaapjjchlbaa
open Go Go.RowKit Go.Cit

theorem take_next {α : Type} (l m : List α) (k : Nat) (hl : k < l.length) (hm : k < m.length) (h : l.take k = m.take k) (he : l[k] = m[k]) : l.take (k + 1) = m.take (k + 1) := by
  rw [List.take_succ_eq_append_getElem hl, List.take_succ_eq_append_getElem hm, h, he]
theorem win_eq_iff (x y : Win) : x = y ↔ x.len.1 = y.len.1 ∧ x.part.1 = y.part.1 := by
  obtain ⟨a, b⟩ := x; obtain ⟨c, d⟩ := y
  simp only [Win.mk.injEq, Subtype.ext_iff]
theorem ch_eq_iff (x y : Ch) : x = y ↔ x.id.1 = y.id.1 ∧ x.src.1 = y.src.1 ∧ x.dst.1 = y.dst.1 ∧ x.cap.1 = y.cap.1 ∧ x.size.1 = y.size.1 := by
  obtain ⟨a, b, c, d, e⟩ := x; obtain ⟨a', b', c', d', e'⟩ := y
  simp only [Ch.mk.injEq, Subtype.ext_iff]
theorem cfg_eq_iff (V U : CfgV) : V.cfg = U.cfg ↔ V.ws = U.ws ∧ V.ps.map PtV.pt = U.ps.map PtV.pt ∧ V.cs = U.cs := by
  simp only [CfgV.cfg, Cfg.mk.injEq]
theorem inBox_next (w : World) (V : CfgV) (C : Array Value) (T : TypeId) : InBox ((w.alloc (.cells C T)).alloc (.cells #[.slice V.wa V.ws.length V.wc, .slice V.pa V.ps.length V.pc, .slice V.ca V.cs.length V.cc] T)) (w.heap.size + 1) V := by
  have := inBox_new (w.alloc (.cells C T)) V T
  rwa [World.size_alloc] at this

set_option maxRecDepth 100000 in
set_option maxHeartbeats 8000000 in
theorem same11_calls (w : World) (V U : CfgV) (h : V.At w) (h' : U.At w) : Calls Try.prog 25 #[.agg #[.slice V.wa V.ws.length V.wc, .slice V.pa V.ps.length V.pc, .slice V.ca V.cs.length V.cc], .agg #[.slice U.wa U.ws.length U.wc, .slice U.pa U.ps.length U.pc, .slice U.ca U.cs.length U.cc]] w fun e w' => e = .returned (.bool (decide (V.cfg = U.cfg))) ∧ Below w.heap.size w w' := by
  obtain ⟨R, HR⟩ : ∃ R, Hid (R = decide (V.cfg = U.cfg)) := ⟨_, rfl⟩
  rw [← HR.out]
  obtain ⟨w0, hw0⟩ : ∃ w0, w0 = (w.alloc (.cells #[.slice V.wa V.ws.length V.wc, .slice V.pa V.ps.length V.pc, .slice V.ca V.cs.length V.cc] 26)).alloc (.cells #[.slice U.wa U.ws.length U.wc, .slice U.pa U.ps.length U.pc, .slice U.ca U.cs.length U.cc] 26) := ⟨_, rfl⟩
  have B0 : Below w.heap.size w w0 := by rw [hw0]; exact ((Below.refl _ w).alloc (Nat.le_refl _) _).alloc (by simp) _
  have hI : InBox w0 w.heap.size V := by rw [hw0]; exact (inBox_new w V _).keep ((Below.refl _ _).alloc (Nat.le_refl _) _)
  have hJ : InBox w0 (w.heap.size + 1) U := by rw [hw0]; exact inBox_next w U _ _
  have hl1 := h.win.len_le
  have hl2 := h.pts.len_le
  have hl3 := h.chs.len_le
  have hl4 := h'.win.len_le
  have hl5 := h'.pts.len_le
  have hl6 := h'.chs.len_le
  have HV := Lib.hid (h.stay B0)
  have HU := Lib.hid (h'.stay B0)
  have HI := Lib.hid (And.intro hI hJ)
  obtain ⟨c0, c1, c2⟩ := hI
  obtain ⟨d0, d1, d2⟩ := hJ
  have HB0 := Lib.hid B0
  clear h h' B0
  have HBA : Hid (∀ C D, Below w.heap.size w ((w.alloc (.cells C 26)).alloc (.cells D 26))) := fun C D => ((Below.refl _ w).alloc (Nat.le_refl _) _).alloc (by simp) _
  by_cases hg : ¬ (V.ws.length = U.ws.length ∧ V.ps.length = U.ps.length ∧ V.cs.length = U.cs.length)
  · have HF : Hid (R = false) := by
      rw [Hid, HR.out, decide_eq_false_iff_not, cfg_eq_iff]
      intro hh
      apply hg
      have h2 := congrArg List.length hh.2.1
      rw [List.length_map, List.length_map] at h2
      exact ⟨by rw [hh.1], h2, by rw [hh.2.2]⟩
    have HG := Lib.hid hg
    clear hg
    go_enter Try.func25, Try.ntmps25
    go_wp2_with fail
    all_goals first
      | (go_ret; exact ⟨ret_bool HF.out.symm, HBA.out _ _⟩)
      | (exfalso; have := HG.out; omega)
      | (exfalso; have := HG.out; simp only [bne_eq_false_iff_eq] at *; omega)
  have hg := Classical.not_not.1 hg
  obtain ⟨g1, g2, g3⟩ := hg
  have t1 : ((V.ws.length : Int) != (U.ws.length : Int)) = false := by rw [g1]; simp
  have t2 : ((V.ps.length : Int) != (U.ps.length : Int)) = false := by rw [g2]; simp
  have t3 : ((V.cs.length : Int) != (U.cs.length : Int)) = false := by rw [g3]; simp
  have HG := Lib.hid (And.intro g1 (And.intro g2 g3))
  clear g1 g2 g3
  go_enter Try.func25, Try.ntmps25
  go_wp2_with fail
  rw [← hw0]
  clear hw0
  go_loopw [5] (fun s wr => ∃ k : Nat, s = .int .i64 k ∧ k ≤ V.ws.length ∧ Hid (V.ws.take k = U.ws.take k) ∧ Below w0.heap.size w0 wr) (fun s _ => V.ws.length - (intOf s).toNat)
  case atStart => exact ⟨0, rfl, Nat.zero_le _, rfl, Below.refl _ _⟩
  case round =>
    obtain ⟨k, rfl, hk, HE, B⟩ := hrel
    have hIk := HI.out.1.keep B
    have hJk := HI.out.2.keep B
    by_cases hlt : k < V.ws.length
    · have hlt' : k < U.ws.length := by have := HG.out; omega
      have i0 := HV.out.win.index etW k hlt
      have i1 := HU.out.win.index etW k hlt'
      obtain ⟨x, hx⟩ : ∃ x : Win, Hid (x = V.ws[k]) := ⟨V.ws[k], rfl⟩
      obtain ⟨y, hy⟩ : ∃ y : Win, Hid (y = U.ws[k]) := ⟨U.ws[k], rfl⟩
      have qx0 : ∀ q : After wr, q.to.cell? (ad V.wa (k * 2)) = some (.int .i64 x.len.1) := fun q => by rw [hx.out]; exact (win_cells HV.out.win (B.trans (q.bel.mono B.size)) k hlt).1
      have qx1 : ∀ q : After wr, q.to.cell? ⟨(ad V.wa (k * 2)).block, (ad V.wa (k * 2)).off + 1, none⟩ = some (.int .i64 x.part.1) := fun q => by rw [hx.out]; exact (win_cells HV.out.win (B.trans (q.bel.mono B.size)) k hlt).2
      have qy0 : ∀ q : After wr, q.to.cell? (ad U.wa (k * 2)) = some (.int .i64 y.len.1) := fun q => by rw [hy.out]; exact (win_cells HU.out.win (B.trans (q.bel.mono B.size)) k hlt').1
      have qy1 : ∀ q : After wr, q.to.cell? ⟨(ad U.wa (k * 2)).block, (ad U.wa (k * 2)).off + 1, none⟩ = some (.int .i64 y.part.1) := fun q => by rw [hy.out]; exact (win_cells HU.out.win (B.trans (q.bel.mono B.size)) k hlt').2
      have c0 := hIk.c0
      have cq0 : ∀ q : After wr, _ := fun q => keep q.bel hIk.c0
      have c1 := hIk.c1
      have cq1 : ∀ q : After wr, _ := fun q => keep q.bel hIk.c1
      have c2 := hIk.c2
      have cq2 : ∀ q : After wr, _ := fun q => keep q.bel hIk.c2
      have d0 := hJk.c0
      have dq0 : ∀ q : After wr, _ := fun q => keep q.bel hJk.c0
      have d1 := hJk.c1
      have dq1 : ∀ q : After wr, _ := fun q => keep q.bel hJk.c1
      have d2 := hJk.c2
      have dq2 : ∀ q : After wr, _ := fun q => keep q.bel hJk.c2
      have HB := Lib.hid (HB0.out.trans (B.mono HB0.out.size))
      have HBk := Lib.hid B
      clear B hIk hJk
      by_cases e0 : ¬ (x.len.1 = y.len.1)
      · have HF : Hid (R = false) := by
          rw [Hid, HR.out, decide_eq_false_iff_not, cfg_eq_iff]
          intro hh0
          apply e0
          rw [hx.out, hy.out]
          have hh := (win_eq_iff _ _).1 (List.getElem_of_eq hh0.1 (i := k) hlt)
          exact hh.1
        go_wp2_with fail
        refine wp_region_after (by kernel_rfl) (by kernel_rfl) ?_
        iterate 11
          refine wq_step (fun K hK => ?_)
          go_simp
          refine hK _ ?_
          clear hK K
        refine wq_nil ?_
        intro _ hw'
        obtain ⟨⟨w3, hb3⟩, hw'⟩ := hw'
        subst hw'
        go_wp2_with fail
        go_ret
        exact ⟨ret_bool HF.out.symm, HB.out.trans (hb3.mono HB.out.size)⟩
      have e0 := Classical.not_not.1 e0
      by_cases e1 : ¬ (x.part.1 = y.part.1)
      · have HF : Hid (R = false) := by
          rw [Hid, HR.out, decide_eq_false_iff_not, cfg_eq_iff]
          intro hh0
          apply e1
          rw [hx.out, hy.out]
          have hh := (win_eq_iff _ _).1 (List.getElem_of_eq hh0.1 (i := k) hlt)
          exact hh.2
        go_wp2_with fail
        refine wp_region_after (by kernel_rfl) (by kernel_rfl) ?_
        iterate 11
          refine wq_step (fun K hK => ?_)
          go_simp
          refine hK _ ?_
          clear hK K
        refine wq_nil ?_
        intro _ hw'
        obtain ⟨⟨w3, hb3⟩, hw'⟩ := hw'
        subst hw'
        go_wp2_with fail
        go_ret
        exact ⟨ret_bool HF.out.symm, HB.out.trans (hb3.mono HB.out.size)⟩
      have e1 := Classical.not_not.1 e1
      have HN : Hid (V.ws.take (k + 1) = U.ws.take (k + 1)) := take_next _ _ k hlt hlt' HE.out (by rw [← hx.out, ← hy.out]; exact (win_eq_iff x y).2 ⟨e0, e1⟩)
      go_wp2_with fail
      refine wp_region_after (by kernel_rfl) (by kernel_rfl) ?_
      iterate 11
        refine wq_step (fun K hK => ?_)
        go_simp
        refine hK _ ?_
        clear hK K
      refine wq_nil ?_
      intro _ hw'
      obtain ⟨⟨w3, hb3⟩, hw'⟩ := hw'
      subst hw'
      go_wp2_with fail
      go_roundw
      case rel => exact ⟨k + 1, by go_num, by omega, HN.out, HBk.out.trans (hb3.mono HBk.out.size)⟩
      case measure => simp [intOf]; omega
    · have hk2 : k = V.ws.length := by omega
      have HX0 : Hid (V.ws = U.ws) := by
        have := HE.out
        rw [hk2] at this
        rwa [List.take_length, HG.out.1, List.take_length] at this
      clear hk2
      obtain ⟨c0, c1, c2⟩ := hIk
      obtain ⟨d0, d1, d2⟩ := hJk
      go_wp2_with fail
      go_loopw [6] (fun s wr => ∃ k : Nat, s = .int .i64 k ∧ k ≤ V.ps.length ∧ Hid ((V.ps.map PtV.pt).take k = (U.ps.map PtV.pt).take k) ∧ Below w0.heap.size w0 wr) (fun s _ => V.ps.length - (intOf s).toNat)
      case atStart => exact ⟨0, rfl, Nat.zero_le _, rfl, B⟩
      case round =>
        obtain ⟨k, rfl, hk, HE, B⟩ := hrel
        have hIk := HI.out.1.keep B
        have hJk := HI.out.2.keep B
        by_cases hlt : k < V.ps.length
        · have hlt' : k < U.ps.length := by have := HG.out; omega
          have i0 := HV.out.pts.index etP k hlt
          have i1 := HU.out.pts.index etP k hlt'
          obtain ⟨x, hx⟩ : ∃ x : PtV, Hid (x = V.ps[k]) := ⟨V.ps[k], rfl⟩
          obtain ⟨y, hy⟩ : ∃ y : PtV, Hid (y = U.ps[k]) := ⟨U.ps[k], rfl⟩
          have qx0 : ∀ q : After wr, q.to.cell? (ad V.pa (k * 5)) = some (.int .i64 x.id.1) := fun q => by rw [hx.out]; exact (pts_cells HV.out.pts (B.trans (q.bel.mono B.size)) k hlt).1
          have qx1 : ∀ q : After wr, q.to.cell? ⟨(ad V.pa (k * 5)).block, (ad V.pa (k * 5)).off + 1, none⟩ = some (.int .i64 x.reg.base.1) := fun q => by rw [hx.out]; exact (pts_cells HV.out.pts (B.trans (q.bel.mono B.size)) k hlt).2.1
          have qx2 : ∀ q : After wr, q.to.cell? ⟨(ad V.pa (k * 5)).block, (ad V.pa (k * 5)).off + 2, none⟩ = some (.int .i64 x.reg.size.1) := fun q => by rw [hx.out]; exact (pts_cells HV.out.pts (B.trans (q.bel.mono B.size)) k hlt).2.2.1
          have qx3 : ∀ q : After wr, q.to.cell? ⟨(ad V.pa (k * 5)).block, (ad V.pa (k * 5)).off + 3, none⟩ = some (.bool x.keep) := fun q => by rw [hx.out]; exact (pts_cells HV.out.pts (B.trans (q.bel.mono B.size)) k hlt).2.2.2.1
          have qx4 : ∀ q : After wr, q.to.cell? ⟨(ad V.pa (k * 5)).block, (ad V.pa (k * 5)).off + 4, none⟩ = some (.slice x.a x.img.length x.c) := fun q => by rw [hx.out]; exact (pts_cells HV.out.pts (B.trans (q.bel.mono B.size)) k hlt).2.2.2.2
          have qy0 : ∀ q : After wr, q.to.cell? (ad U.pa (k * 5)) = some (.int .i64 y.id.1) := fun q => by rw [hy.out]; exact (pts_cells HU.out.pts (B.trans (q.bel.mono B.size)) k hlt').1
          have qy1 : ∀ q : After wr, q.to.cell? ⟨(ad U.pa (k * 5)).block, (ad U.pa (k * 5)).off + 1, none⟩ = some (.int .i64 y.reg.base.1) := fun q => by rw [hy.out]; exact (pts_cells HU.out.pts (B.trans (q.bel.mono B.size)) k hlt').2.1
          have qy2 : ∀ q : After wr, q.to.cell? ⟨(ad U.pa (k * 5)).block, (ad U.pa (k * 5)).off + 2, none⟩ = some (.int .i64 y.reg.size.1) := fun q => by rw [hy.out]; exact (pts_cells HU.out.pts (B.trans (q.bel.mono B.size)) k hlt').2.2.1
          have qy3 : ∀ q : After wr, q.to.cell? ⟨(ad U.pa (k * 5)).block, (ad U.pa (k * 5)).off + 3, none⟩ = some (.bool y.keep) := fun q => by rw [hy.out]; exact (pts_cells HU.out.pts (B.trans (q.bel.mono B.size)) k hlt').2.2.2.1
          have qy4 : ∀ q : After wr, q.to.cell? ⟨(ad U.pa (k * 5)).block, (ad U.pa (k * 5)).off + 4, none⟩ = some (.slice y.a y.img.length y.c) := fun q => by rw [hy.out]; exact (pts_cells HU.out.pts (B.trans (q.bel.mono B.size)) k hlt').2.2.2.2
          have c0 := hIk.c0
          have cq0 : ∀ q : After wr, _ := fun q => keep q.bel hIk.c0
          have c1 := hIk.c1
          have cq1 : ∀ q : After wr, _ := fun q => keep q.bel hIk.c1
          have c2 := hIk.c2
          have cq2 : ∀ q : After wr, _ := fun q => keep q.bel hIk.c2
          have d0 := hJk.c0
          have dq0 : ∀ q : After wr, _ := fun q => keep q.bel hJk.c0
          have d1 := hJk.c1
          have dq1 : ∀ q : After wr, _ := fun q => keep q.bel hJk.c1
          have d2 := hJk.c2
          have dq2 : ∀ q : After wr, _ := fun q => keep q.bel hJk.c2
          have HB := Lib.hid (HB0.out.trans (B.mono HB0.out.size))
          have HBk := Lib.hid B
          have HS := Lib.hid (fun q : After wr => samepart_calls q.to x y (by rw [hx.out]; exact (HV.out.img _ (List.getElem_mem hlt)).stay (B.trans (q.bel.mono B.size))) (by rw [hy.out]; exact (HU.out.img _ (List.getElem_mem hlt')).stay (B.trans (q.bel.mono B.size))))
          clear B hIk hJk
          by_cases hq : x.pt = y.pt
          · rw [decide_eq_true hq] at HS
            have HN : Hid ((V.ps.map PtV.pt).take (k + 1) = (U.ps.map PtV.pt).take (k + 1)) := by rw [hx.out, hy.out] at hq; exact take_next _ _ k (by simpa using hlt) (by simpa using hlt') HE.out (by simpa using hq)
            clear hq
            go_wp2_with fail
            refine wp_region_after (by kernel_rfl) (by kernel_rfl) ?_
            iterate 12
              refine wq_step (fun K hK => ?_)
              go_simp
              first
                | (refine hK _ ?_; clear hK K)
                | (apply Exists.intro
                   refine ⟨fun _ => ?_, hK _ ?_⟩
                   first | with_reducible exact after_calls (HS.out _)
                   clear hK K)
            refine wq_nil ?_
            intro _ hw'
            obtain ⟨⟨w3, hb3⟩, hw'⟩ := hw'
            subst hw'
            go_wp2_with fail
            go_roundw
            case rel => exact ⟨k + 1, by go_num, by omega, HN.out, HBk.out.trans (hb3.mono HBk.out.size)⟩
            case measure => simp [intOf]; omega
          · rw [decide_eq_false hq] at HS
            have HF : Hid (R = false) := by
              rw [Hid, HR.out, decide_eq_false_iff_not, cfg_eq_iff]
              intro hh
              apply hq
              rw [hx.out, hy.out]
              have := List.getElem_of_eq hh.2.1 (i := k) (by simpa using hlt)
              simpa using this
            clear hq
            go_wp2_with fail
            refine wp_region_after (by kernel_rfl) (by kernel_rfl) ?_
            iterate 12
              refine wq_step (fun K hK => ?_)
              go_simp
              first
                | (refine hK _ ?_; clear hK K)
                | (apply Exists.intro
                   refine ⟨fun _ => ?_, hK _ ?_⟩
                   first | with_reducible exact after_calls (HS.out _)
                   clear hK K)
            refine wq_nil ?_
            intro _ hw'
            obtain ⟨⟨w3, hb3⟩, hw'⟩ := hw'
            subst hw'
            go_wp2_with fail
            go_ret
            exact ⟨ret_bool HF.out.symm, HB.out.trans (hb3.mono HB.out.size)⟩
        · have hk2 : k = V.ps.length := by omega
          have HX1 : Hid (V.ps.map PtV.pt = U.ps.map PtV.pt) := by
            have := HE.out
            rw [hk2] at this
            rw [List.take_of_length_le (by simp), List.take_of_length_le (by have := HG.out; simp; omega)] at this; exact this
          clear hk2
          obtain ⟨c0, c1, c2⟩ := hIk
          obtain ⟨d0, d1, d2⟩ := hJk
          go_wp2_with fail
          go_loopw [7] (fun s wr => ∃ k : Nat, s = .int .i64 k ∧ k ≤ V.cs.length ∧ Hid (V.cs.take k = U.cs.take k) ∧ Below w0.heap.size w0 wr) (fun s _ => V.cs.length - (intOf s).toNat)
          case atStart => exact ⟨0, rfl, Nat.zero_le _, rfl, B⟩
          case round =>
            obtain ⟨k, rfl, hk, HE, B⟩ := hrel
            have hIk := HI.out.1.keep B
            have hJk := HI.out.2.keep B
            by_cases hlt : k < V.cs.length
            · have hlt' : k < U.cs.length := by have := HG.out; omega
              have i0 := HV.out.chs.index etC k hlt
              have i1 := HU.out.chs.index etC k hlt'
              obtain ⟨x, hx⟩ : ∃ x : Ch, Hid (x = V.cs[k]) := ⟨V.cs[k], rfl⟩
              obtain ⟨y, hy⟩ : ∃ y : Ch, Hid (y = U.cs[k]) := ⟨U.cs[k], rfl⟩
              have qx0 : ∀ q : After wr, q.to.cell? (ad V.ca (k * 5)) = some (.int .i64 x.id.1) := fun q => by rw [hx.out]; exact (chs_cells HV.out.chs (B.trans (q.bel.mono B.size)) k hlt).1
              have qx1 : ∀ q : After wr, q.to.cell? ⟨(ad V.ca (k * 5)).block, (ad V.ca (k * 5)).off + 1, none⟩ = some (.int .i64 x.src.1) := fun q => by rw [hx.out]; exact (chs_cells HV.out.chs (B.trans (q.bel.mono B.size)) k hlt).2.1
              have qx2 : ∀ q : After wr, q.to.cell? ⟨(ad V.ca (k * 5)).block, (ad V.ca (k * 5)).off + 2, none⟩ = some (.int .i64 x.dst.1) := fun q => by rw [hx.out]; exact (chs_cells HV.out.chs (B.trans (q.bel.mono B.size)) k hlt).2.2.1
              have qx3 : ∀ q : After wr, q.to.cell? ⟨(ad V.ca (k * 5)).block, (ad V.ca (k * 5)).off + 3, none⟩ = some (.int .i64 x.cap.1) := fun q => by rw [hx.out]; exact (chs_cells HV.out.chs (B.trans (q.bel.mono B.size)) k hlt).2.2.2.1
              have qx4 : ∀ q : After wr, q.to.cell? ⟨(ad V.ca (k * 5)).block, (ad V.ca (k * 5)).off + 4, none⟩ = some (.int .i64 x.size.1) := fun q => by rw [hx.out]; exact (chs_cells HV.out.chs (B.trans (q.bel.mono B.size)) k hlt).2.2.2.2
              have qy0 : ∀ q : After wr, q.to.cell? (ad U.ca (k * 5)) = some (.int .i64 y.id.1) := fun q => by rw [hy.out]; exact (chs_cells HU.out.chs (B.trans (q.bel.mono B.size)) k hlt').1
              have qy1 : ∀ q : After wr, q.to.cell? ⟨(ad U.ca (k * 5)).block, (ad U.ca (k * 5)).off + 1, none⟩ = some (.int .i64 y.src.1) := fun q => by rw [hy.out]; exact (chs_cells HU.out.chs (B.trans (q.bel.mono B.size)) k hlt').2.1
              have qy2 : ∀ q : After wr, q.to.cell? ⟨(ad U.ca (k * 5)).block, (ad U.ca (k * 5)).off + 2, none⟩ = some (.int .i64 y.dst.1) := fun q => by rw [hy.out]; exact (chs_cells HU.out.chs (B.trans (q.bel.mono B.size)) k hlt').2.2.1
              have qy3 : ∀ q : After wr, q.to.cell? ⟨(ad U.ca (k * 5)).block, (ad U.ca (k * 5)).off + 3, none⟩ = some (.int .i64 y.cap.1) := fun q => by rw [hy.out]; exact (chs_cells HU.out.chs (B.trans (q.bel.mono B.size)) k hlt').2.2.2.1
              have qy4 : ∀ q : After wr, q.to.cell? ⟨(ad U.ca (k * 5)).block, (ad U.ca (k * 5)).off + 4, none⟩ = some (.int .i64 y.size.1) := fun q => by rw [hy.out]; exact (chs_cells HU.out.chs (B.trans (q.bel.mono B.size)) k hlt').2.2.2.2
              have c0 := hIk.c0
              have cq0 : ∀ q : After wr, _ := fun q => keep q.bel hIk.c0
              have c1 := hIk.c1
              have cq1 : ∀ q : After wr, _ := fun q => keep q.bel hIk.c1
              have c2 := hIk.c2
              have cq2 : ∀ q : After wr, _ := fun q => keep q.bel hIk.c2
              have d0 := hJk.c0
              have dq0 : ∀ q : After wr, _ := fun q => keep q.bel hJk.c0
              have d1 := hJk.c1
              have dq1 : ∀ q : After wr, _ := fun q => keep q.bel hJk.c1
              have d2 := hJk.c2
              have dq2 : ∀ q : After wr, _ := fun q => keep q.bel hJk.c2
              have HB := Lib.hid (HB0.out.trans (B.mono HB0.out.size))
              have HBk := Lib.hid B
              clear B hIk hJk
              by_cases e0 : ¬ (x.id.1 = y.id.1)
              · have HF : Hid (R = false) := by
                  rw [Hid, HR.out, decide_eq_false_iff_not, cfg_eq_iff]
                  intro hh0
                  apply e0
                  rw [hx.out, hy.out]
                  have hh := (ch_eq_iff _ _).1 (List.getElem_of_eq hh0.2.2 (i := k) hlt)
                  exact hh.1
                go_wp2_with fail
                refine wp_region_after (by kernel_rfl) (by kernel_rfl) ?_
                iterate 11
                  refine wq_step (fun K hK => ?_)
                  go_simp
                  refine hK _ ?_
                  clear hK K
                refine wq_nil ?_
                intro _ hw'
                obtain ⟨⟨w3, hb3⟩, hw'⟩ := hw'
                subst hw'
                go_wp2_with fail
                go_ret
                exact ⟨ret_bool HF.out.symm, HB.out.trans (hb3.mono HB.out.size)⟩
              have e0 := Classical.not_not.1 e0
              by_cases e1 : ¬ (x.src.1 = y.src.1)
              · have HF : Hid (R = false) := by
                  rw [Hid, HR.out, decide_eq_false_iff_not, cfg_eq_iff]
                  intro hh0
                  apply e1
                  rw [hx.out, hy.out]
                  have hh := (ch_eq_iff _ _).1 (List.getElem_of_eq hh0.2.2 (i := k) hlt)
                  exact hh.2.1
                go_wp2_with fail
                refine wp_region_after (by kernel_rfl) (by kernel_rfl) ?_
                iterate 11
                  refine wq_step (fun K hK => ?_)
                  go_simp
                  refine hK _ ?_
                  clear hK K
                refine wq_nil ?_
                intro _ hw'
                obtain ⟨⟨w3, hb3⟩, hw'⟩ := hw'
                subst hw'
                go_wp2_with fail
                go_ret
                exact ⟨ret_bool HF.out.symm, HB.out.trans (hb3.mono HB.out.size)⟩
              have e1 := Classical.not_not.1 e1
              by_cases e2 : ¬ (x.dst.1 = y.dst.1)
              · have HF : Hid (R = false) := by
                  rw [Hid, HR.out, decide_eq_false_iff_not, cfg_eq_iff]
                  intro hh0
                  apply e2
                  rw [hx.out, hy.out]
                  have hh := (ch_eq_iff _ _).1 (List.getElem_of_eq hh0.2.2 (i := k) hlt)
                  exact hh.2.2.1
                go_wp2_with fail
                refine wp_region_after (by kernel_rfl) (by kernel_rfl) ?_
                iterate 11
                  refine wq_step (fun K hK => ?_)
                  go_simp
                  refine hK _ ?_
                  clear hK K
                refine wq_nil ?_
                intro _ hw'
                obtain ⟨⟨w3, hb3⟩, hw'⟩ := hw'
                subst hw'
                go_wp2_with fail
                go_ret
                exact ⟨ret_bool HF.out.symm, HB.out.trans (hb3.mono HB.out.size)⟩
              have e2 := Classical.not_not.1 e2
              by_cases e3 : ¬ (x.cap.1 = y.cap.1)
              · have HF : Hid (R = false) := by
                  rw [Hid, HR.out, decide_eq_false_iff_not, cfg_eq_iff]
                  intro hh0
                  apply e3
                  rw [hx.out, hy.out]
                  have hh := (ch_eq_iff _ _).1 (List.getElem_of_eq hh0.2.2 (i := k) hlt)
                  exact hh.2.2.2.1
                go_wp2_with fail
                refine wp_region_after (by kernel_rfl) (by kernel_rfl) ?_
                iterate 11
                  refine wq_step (fun K hK => ?_)
                  go_simp
                  refine hK _ ?_
                  clear hK K
                refine wq_nil ?_
                intro _ hw'
                obtain ⟨⟨w3, hb3⟩, hw'⟩ := hw'
                subst hw'
                go_wp2_with fail
                go_ret
                exact ⟨ret_bool HF.out.symm, HB.out.trans (hb3.mono HB.out.size)⟩
              have e3 := Classical.not_not.1 e3
              by_cases e4 : ¬ (x.size.1 = y.size.1)
              · have HF : Hid (R = false) := by
                  rw [Hid, HR.out, decide_eq_false_iff_not, cfg_eq_iff]
                  intro hh0
                  apply e4
                  rw [hx.out, hy.out]
                  have hh := (ch_eq_iff _ _).1 (List.getElem_of_eq hh0.2.2 (i := k) hlt)
                  exact hh.2.2.2.2
                go_wp2_with fail
                refine wp_region_after (by kernel_rfl) (by kernel_rfl) ?_
                iterate 11
                  refine wq_step (fun K hK => ?_)
                  go_simp
                  refine hK _ ?_
                  clear hK K
                refine wq_nil ?_
                intro _ hw'
                obtain ⟨⟨w3, hb3⟩, hw'⟩ := hw'
                subst hw'
                go_wp2_with fail
                go_ret
                exact ⟨ret_bool HF.out.symm, HB.out.trans (hb3.mono HB.out.size)⟩
              have e4 := Classical.not_not.1 e4
              have HN : Hid (V.cs.take (k + 1) = U.cs.take (k + 1)) := take_next _ _ k hlt hlt' HE.out (by rw [← hx.out, ← hy.out]; exact (ch_eq_iff x y).2 ⟨e0, e1, e2, e3, e4⟩)
              go_wp2_with fail
              refine wp_region_after (by kernel_rfl) (by kernel_rfl) ?_
              iterate 11
                refine wq_step (fun K hK => ?_)
                go_simp
                refine hK _ ?_
                clear hK K
              refine wq_nil ?_
              intro _ hw'
              obtain ⟨⟨w3, hb3⟩, hw'⟩ := hw'
              subst hw'
              go_wp2_with fail
              go_roundw
              case rel => exact ⟨k + 1, by go_num, by omega, HN.out, HBk.out.trans (hb3.mono HBk.out.size)⟩
              case measure => simp [intOf]; omega
            · have hk2 : k = V.cs.length := by omega
              have HX2 : Hid (V.cs = U.cs) := by
                have := HE.out
                rw [hk2] at this
                rwa [List.take_length, HG.out.2.2, List.take_length] at this
              clear hk2
              obtain ⟨c0, c1, c2⟩ := hIk
              obtain ⟨d0, d1, d2⟩ := hJk
              go_wp2_with fail
              go_ret
              exact ⟨ret_bool (by rw [HR.out, eq_comm, decide_eq_true_iff, cfg_eq_iff]; exact ⟨HX0.out, HX1.out, HX2.out⟩), HB0.out.trans (B.mono HB0.out.size)⟩
end Go.Proofs.Ytpnbaapjjchlbaa
