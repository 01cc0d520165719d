/- Chapter 6's law: sector, told: walked. -/
import Derived.Test.YtofagofpeedfcaaRDisk5
import Derived.Test.YtofagofpeedfcaaAct6
namespace Go.Proofs.Ytofagofpeedfcaa
open Go Go.RowKit Go.Cit

/-- What an act writes. -/
def secL (l : List UInt8) : List UInt8 := if l.length = 1 then List.replicate 64 (l.getD 0 0) else l
set_option maxRecDepth 100000 in
set_option maxHeartbeats 1000000 in
theorem sector_calls (w : World) (a : Option Addr) (l : List UInt8) (c : Nat) (h : Row w a l c) (hl : l.length ≤ 100000000) :
    Calls Try.prog 31 #[.slice a l.length c] w fun e w' => ∃ a' c', e = .returned (.slice a' (secL l).length c') ∧ Cit.Own 5 w.heap.size w' a' (secL l) c' ∧ Below w.heap.size w w' := by
  by_cases h1 : l.length = 1
  · have HS : Hid (secL l = List.replicate 64 (l.getD 0 0)) := by rw [Hid, secL, if_pos h1]
    have i0 := h.index bt.slice bt.sz 0 (by omega)
    have HH := Lib.hid h
    obtain ⟨x, hx⟩ : ∃ x, Hid (x = l.getD 0 0) := ⟨_, rfl⟩
    have HC : Hid (∀ wr, Below w.heap.size w wr → wr.cell? (ad a 0) = some (vb x)) := fun wr hb => by
      have := (h.stay hb).cell 0 (by omega)
      rw [this, hx.out]; simp [List.getD, h1]
    rw [← hx.out] at HS
    rw [h1] at i0 ⊢
    rw [HS.out]
    clear h hl
    have i0 : ∀ w, (Instr.indexAt 22 (.slice a 1 c) (.int .i64 0)).run Try.prog w = .ok (.pointer (some (ad a 0))) w := i0
    go_enter Try.func31, Try.ntmps31
    go_wp2_with fail
    go_loopw [3, 4] (fun o i wr => ∃ (k : Nat) (a2 : Option Addr) (c2 : Nat) (Z : List UInt8), k ≤ 64 ∧ i = .int .i64 (k : Int) ∧ o = .slice a2 Z.length c2 ∧ Hid (Z = List.replicate k x) ∧ Hid (Cit.Own 5 w.heap.size wr a2 Z c2 ∧ Below w.heap.size w wr)) (fun _ i _ => 64 - (intOf i).toNat)
    case atStart => exact ⟨0, none, 0, [], by omega, rfl, rfl, rfl, Cit.Own.nil _ _ _, Below.refl _ _⟩
    case round =>
      obtain ⟨k, a2, c2, Z, hk, rfl, rfl, HZ, HO⟩ := hrel
      by_cases hlt : k < 64
      · have e0 := HC.out wr HO.out.2
        have HZ2 : Hid (Z ++ [x] = List.replicate (k + 1) x) := by rw [Hid, HZ.out, List.replicate_succ']
        have HZL : Hid (Z.length ≤ 64) := by rw [Hid, HZ.out, List.length_replicate]; exact hk
        go_wp2_with ((with_reducible refine wp_append_box (o := ⟨some 19, .call _, _, _, _, _⟩) bt (.tmp 14) (.tmp 18) (by with_unfolding_all rfl) (by with_unfolding_all rfl) HO.out.1 (by have := HZL.out; omega) HO.out.2.size (by with_unfolding_all rfl) (by with_unfolding_all rfl) ?_); intro a3 c3 w3 hO3 hg3; have HO3 := Lib.hid (And.intro hO3 (HO.out.2.trans (grown_below hg3 HO.out.2.size (fun g hg => (HO.out.1.blk_ge hg).1)))); clear hO3 hg3)
        go_roundw
        case rel => exact ⟨k + 1, a3, c3, _, hlt, by go_num, by rw [List.length_append]; rfl, HZ2, HO3⟩
        case measure => simp [intOf]; omega
      · have HE : Hid (Z = List.replicate 64 x) := by rw [Hid, HZ.out, show k = 64 by omega]
        go_wp2_with fail
        go_ret
        exact ⟨a2, c2, by rw [← HE.out]; rfl, by rw [← HE.out]; exact HO.out.1, HO.out.2⟩
  · have HS : Hid (secL l = l) := by rw [Hid, secL, if_neg h1]
    rw [HS.out]
    have hc := copy_calls w a l c h (by omega)
    have hll := h.le
    have hlm := h.top
    unfold maxLen at hlm
    generalize l.length = n at *
    have t1 : ((n : Int) == 1) = false := by simp; omega
    have t2 : ¬ (n : Int) = 1 := by omega
    clear h
    go_enter Try.func31, Try.ntmps31
    go_wp2_with fail
    refine (hc).mono ?_
    rintro e w2 ⟨a2, c2, rfl, hO, hb⟩
    go_wp2_with fail
    go_ret
    exact ⟨a2, c2, rfl, hO, hb⟩

/-- What is told of a disk and the reference's. -/
structure Pair (w : World) (p : Pl) (q : Rl) (D : Dk) : Prop where
  d : DiskAt w p D
  r : RefAt w q D
  hx : ∀ k, (k = q.b ∨ k = q.lb) → p.x k
  lt : p.b < q.B ∧ p.sb < q.B ∧ p.mb < q.B
theorem Pair.stay {w w' : World} {p : Pl} {r : Rl} {D : Dk} (h : Pair w p r D) (hb : Below w.heap.size w w') : Pair w' p r D := ⟨h.d.stay hb, h.r.stay hb, h.hx, h.lt⟩
theorem RefAt.low {w : World} {r : Rl} {D : Dk} (h : RefAt w r D) : r.B ≤ r.b ∧ r.B ≤ r.lb := by
  obtain ⟨L, c, sa, sc, h⟩ := h
  exact ⟨h.bB, h.lB⟩
/-- Behind an operation of the disk. -/
theorem Pair.ref {w w' : World} {p : Pl} {r : Rl} {D : Dk} (h : Pair w p r D) (hs : Save p.Off w w') : RefAt w' r D :=
  h.r.save hs (fun k hk => ⟨by have := h.lt.1; omega, by have := h.lt.2.1; omega, by have := h.lt.2.2; omega⟩)
/-- Behind the reference's, too. -/
theorem Pair.both {w w1 w2 : World} {p : Pl} {r : Rl} {D D' : Dk} (h : Pair w p r D) (hd : DiskAt w1 p D') (hr : RefAt w2 r D') (hs : Save r.Off w1 w2) : Pair w2 p r D' := by
  refine ⟨hd.saveX hs (fun k hk => ?_) (fun k hk => ⟨fun e => hk (h.hx k (.inl e)), fun e => hk (h.hx k (.inr e))⟩), hr, h.hx, h.lt⟩
  have hl := h.r.low
  have h1 := h.lt
  refine ⟨fun e => hk ⟨?_, ?_, ?_⟩, fun e => hk ⟨?_, ?_, ?_⟩⟩ <;> omega
theorem RefAt.cells {w : World} {r : Rl} {D : Dk} (h : RefAt w r D) : (∃ c, w.cell? ⟨r.b, 0, none⟩ = some (.slice (some ⟨r.lb, 0, none⟩) D.S.length c)) ∧ w.cell? ⟨r.b, 1, none⟩ = some (.bool (!D.up)) := by
  obtain ⟨L, c, sa, sc, h⟩ := h
  obtain ⟨h0, h1, _⟩ := h.cells
  rw [h.len] at h0
  exact ⟨⟨c, h0⟩, h1⟩
theorem RefAt.flushed {w : World} {r : Rl} {D : Dk} (h : RefAt w r D) (k : Nat) (hk : k < D.S.length) : ∃ a c, w.cell? ⟨r.lb, k * 2, none⟩ = some (.slice a (D.S[k]).length c) ∧ Row w a D.S[k] c := by
  obtain ⟨L, c, sa, sc, h⟩ := h
  have hkL : k < L.length := by rw [h.len]; exact hk
  have e : D.S[k] = L[k].f := by
    have := h.hS
    have h2 : D.S[k]? = (L.map (·.f))[k]? := by rw [this]
    rw [List.getElem?_eq_getElem hk, List.getElem?_map, List.getElem?_eq_getElem hkL] at h2
    exact Option.some.inj h2
  rw [e]
  exact ⟨_, _, (h.elem k hkL).1, (h.rows _ (List.getElem_mem hkL)).rf⟩
set_option maxRecDepth 100000 in
set_option maxHeartbeats 4000000 in
theorem told_calls (w : World) (p : Pl) (r : Rl) (D : Dk) (h : Pair w p r D) :
    Calls Try.prog 25 #[.pointer (some ⟨p.b, 0, none⟩), .pointer (some ⟨r.b, 0, none⟩)] w fun e w' => e = .returned (.bool true) ∧ Below w.heap.size w w' := by
  have hd := dirty_calls w p D h.d
  have HH := Lib.hid h
  have hfew := h.d.ok.few
  clear h
  go_enter Try.func25, Try.ntmps25
  go_wp2_with fail
  refine (hd).mono ?_
  rintro e w2 ⟨a1, c1, rfl, hO1, hb2⟩
  have H2 := Lib.hid (HH.out.stay hb2)
  have hd2 := rdirty_calls w2 r D H2.out.r
  have HB2 := Lib.hid hb2
  have HO1 := Lib.hid hO1
  clear hb2 hO1 hd
  go_wp2_with fail
  refine (hd2).mono ?_
  rintro e w3 ⟨a2, c2, rfl, hO2, hb3⟩
  have H3 := Lib.hid (H2.out.stay hb3)
  have HB3 := Lib.hid (HB2.out.trans (hb3.mono HB2.out.size))
  have HV1 := Lib.hid ((HO1.out.vec (fun _ => rfl)).stay (fun _ => rfl) hb3)
  have HV2 := Lib.hid (hO2.vec (fun _ => rfl))
  have HUP : Hid (∀ q : After w3, Calls Try.prog 19 #[.pointer (some ⟨p.b, 0, none⟩)] q.to fun e w' => e = .returned (.bool D.up) ∧ Below q.to.heap.size q.to w') := fun q => (up_calls q.to p D (H3.out.d.stay q.bel)).mono fun e w' ⟨h1, h2⟩ => ⟨h1, by rw [h2]; exact Below.refl _ _⟩
  have HLN : Hid (∀ q : After w3, Calls Try.prog 20 #[.pointer (some ⟨p.b, 0, none⟩)] q.to fun e w' => e = .returned (.int .i64 D.S.length) ∧ Below q.to.heap.size q.to w') := fun q => (len_calls q.to p D (H3.out.d.stay q.bel)).mono fun e w' ⟨h1, h2⟩ => ⟨h1, by rw [h2]; exact Below.refl _ _⟩
  obtain ⟨⟨cc, r0⟩, r1⟩ := H3.out.r.cells
  have q0 : ∀ q : After w3, q.to.cell? ⟨r.b, 0, none⟩ = some (.slice (some ⟨r.lb, 0, none⟩) D.S.length cc) := fun q => After.cell r0 q
  have q1 : ∀ q : After w3, q.to.cell? ⟨r.b, 1, none⟩ = some (.bool (!D.up)) := fun q => After.cell r1 q
  have tu : (D.up == !D.up) = false := by cases D.up <;> rfl
  have hdl : (dirtyI D.C).length ≤ 1024 := by
    have h1 := dirtyL_len D.C
    have h2 := HH.out.d.ok.len
    rw [dirtyI, List.length_map]; omega
  clear hb3 hO2 hd2 r0 r1 HO1
  go_upto_region 2 with fail
  generalize D.up = u at *
  refine wp_region_after (by kernel_rfl) (by kernel_rfl) ?_
  iterate 24
    refine wq_step (fun K hK => ?_)
    go_simp
    first
      | (refine hK _ ?_; clear hK K)
      | (apply Exists.intro
         refine ⟨fun _ => ?_, hK _ ?_⟩
         first | with_reducible exact after_calls (HUP.out _) | with_reducible exact after_calls (HLN.out _)
         clear hK K)
  refine wq_nil ?_
  intro w4 hw'
  obtain ⟨⟨_, hb4⟩, hw'⟩ := hw'
  subst hw'
  have H4 := Lib.hid (H3.out.stay hb4)
  have HB4 := Lib.hid (HB3.out.trans (hb4.mono HB3.out.size))
  have HW1 := Lib.hid (HV1.out.stay (fun _ => rfl) hb4)
  have HW2 := Lib.hid (HV2.out.stay (fun _ => rfl) hb4)
  clear hb4 HUP HLN q0 q1 tu HV1 HV2
  go_wp2_with fail
  go_loopw [7] (fun i wr => ∃ k : Nat, k ≤ (dirtyI D.C).length ∧ i = .int .i64 (k : Int) ∧ Hid (Below w4.heap.size w4 wr)) (fun i _ => (dirtyI D.C).length - (intOf i).toNat)
  case atStart => exact ⟨0, Nat.zero_le _, rfl, Below.refl _ _⟩
  case round =>
    obtain ⟨k, hk, rfl, HK⟩ := hrel
    by_cases hlt : k < (dirtyI D.C).length
    · have i1 := HW1.out.index1 etZ k hlt
      have i2 := HW2.out.index1 etZ k hlt
      have g1 : ∀ q : After wr, q.to.cell? (ad a1 k) = some (.int .i64 (dirtyI D.C)[k]) := fun q => After.cell ((HW1.out.stay (fun _ => rfl) HK.out).cell1 k hlt) q
      have g2 : ∀ q : After wr, q.to.cell? (ad a2 k) = some (.int .i64 (dirtyI D.C)[k]) := fun q => After.cell ((HW2.out.stay (fun _ => rfl) HK.out).cell1 k hlt) q
      generalize (dirtyI D.C)[k] = v at g1 g2
      go_upto_region 7 with fail
      refine wp_region_after (by kernel_rfl) (by kernel_rfl) ?_
      iterate 9
        refine wq_step (fun K hK => ?_)
        go_simp
        refine hK _ ?_
        clear hK K
      refine wq_nil ?_
      intro w5 hw'
      obtain ⟨⟨_, hb5⟩, hw'⟩ := hw'
      subst hw'
      have HK5 := Lib.hid (HK.out.trans (hb5.mono HK.out.size))
      clear hb5 g1 g2 i1 i2
      go_wp2_with fail
      go_roundw
      case rel => exact ⟨k + 1, hlt, by go_num, HK5⟩
      case measure => simp [intOf]; omega
    · go_wp2_with fail
      have H5 := Lib.hid (H4.out.stay HK.out)
      have HB5 := Lib.hid (HB4.out.trans (HK.out.mono HB4.out.size))
      clear hlt HW1 HW2 hk
      obtain ⟨wa, hwa⟩ : ∃ wa, wa = wr := ⟨_, rfl⟩
      subst hwa
      go_loopw [8] (fun i wq => ∃ k : Nat, k ≤ D.S.length + 2 ∧ i = .int .i64 ((k : Int) - 1) ∧ Hid (Below wa.heap.size wa wq)) (fun i _ => D.S.length + 2 - (intOf i + 1).toNat)
      case atStart => exact ⟨0, by omega, rfl, Below.refl _ _⟩
      case round =>
        obtain ⟨k, hk, rfl, HK⟩ := hrel
        obtain ⟨wv, hwv⟩ : ∃ wv, wv = wr := ⟨_, rfl⟩
        subst hwv
        by_cases hlt : k ≤ D.S.length + 1
        · have H6 := Lib.hid (H5.out.stay HK.out)
          obtain ⟨i, hi⟩ : ∃ i : Int, Hid (i = (k : Int) - 1) := ⟨_, rfl⟩
          have hr1 := read_calls wv p D H6.out.d i
          obtain ⟨⟨cc2, r0⟩, _⟩ := H6.out.r.cells
          obtain ⟨l3, hl3⟩ : ∃ l, Hid (l = readR D i) := ⟨_, rfl⟩
          obtain ⟨E, hE⟩ : ∃ E, Hid (E = readE D i) := ⟨_, rfl⟩
          rw [← hl3.out, ← hE.out] at hr1
          have tt : ((k : Int) - 1 ≤ (D.S.length : Int)) := by omega
          rw [hi.out] at hr1
          go_wp2_with fail
          refine (hr1).mono ?_
          rintro e wb ⟨a3, c3, rfl, hM3, hb3⟩
          have H7 := Lib.hid (H6.out.stay hb3)
          have hr2 := rread_calls wb r D H7.out.r i
          rw [← hl3.out, ← hE.out, hi.out] at hr2
          have HM3 := Lib.hid hM3
          have HB7 := Lib.hid hb3
          have HLT3 : Hid (l3 ≠ [] → ∀ g, Go.Cit.blk a3 = some g → g < wb.heap.size) := fun hne g hg => by
            obtain ⟨g2, off, e2⟩ := hM3.row.spot hne
            rw [e2] at hg
            have e3 := blk_some hg
            have h4 := hM3.row
            rw [e2] at h4
            have := h4.blk (i := 0) (List.length_pos_iff.2 hne)
            simp [ad] at this
            omega
          clear hM3 hb3 hr1 r0
          go_wp2_with fail
          refine (hr2).mono ?_
          rintro e wc ⟨a4, c4, rfl, hO4, hb4⟩
          have H8 := Lib.hid (H7.out.stay hb4)
          have HM4 := Lib.hid (HM3.out.stay hb4)
          have HB8 := Lib.hid (HB7.out.trans (hb4.mono HB7.out.size))
          have HZ78 : Hid (wb.heap.size ≤ wc.heap.size) := hb4.size
          have hsm := same_calls wc a3 a4 l3 l3 c3 c4 HM4.out.row hO4.isRow
          rw [ordB_self] at hsm
          clear hO4 hb4 hr2
          go_wp2_with fail
          refine (hsm).mono ?_
          rintro e wd ⟨rfl, hdr⟩
          have hbd := hdr.below wc.heap.size
          have H9 := Lib.hid (H8.out.stay hbd)
          have HM5 := Lib.hid (HM4.out.stay hbd)
          have HB9 := Lib.hid (HB8.out.trans (hbd.mono HB8.out.size))
          have HZ79 : Hid (wb.heap.size ≤ wd.heap.size) := Nat.le_trans HZ78.out hbd.size
          have hf := flushed_calls wd p D H9.out.d i
          obtain ⟨l5, hl5⟩ : ∃ l, Hid (l = flushedR D i) := ⟨_, rfl⟩
          rw [← hl5.out, hi.out] at hf
          clear hdr hbd hsm
          go_wp2_with fail
          refine (hf).mono ?_
          rintro e we ⟨a5, c5, rfl, hO5, hb5⟩
          have H10 := Lib.hid (H9.out.stay hb5)
          have HM6 := Lib.hid (HM5.out.stay hb5)
          have HO5 := Lib.hid (hO5.low HZ79.out)
          have HB10 := Lib.hid (HB9.out.trans (hb5.mono HB9.out.size))
          obtain ⟨⟨cc3, r0⟩, _⟩ := H10.out.r.cells
          have tt1 : l3.length ≤ 9223372036854775807 := HM6.out.row.len_le
          have tt2 : l5.length ≤ 9223372036854775807 := HO5.out.isRow.len_le
          clear hO5 hb5 hf HM3 HM4 HM5
          by_cases hi0 : k = 0
          · have ei : i = -1 := by rw [hi.out, hi0]; rfl
            have hl0 : l5 = [] := by rw [hl5.out, ei, flushedR, if_neg (by omega)]
            have HL5 := Lib.hid hl5
            have t1 : ((k : Int) - 1) < 0 := by omega
            have t2 : ¬ (0 : Int) ≤ (k : Int) - 1 := by omega
            have tl : l5.length = 0 := by rw [hl0]; rfl
            have TL := Lib.hid tl
            clear hl5 hl0 ei tl
            generalize hn5 : l5.length = n5 at *
            have tn : n5 = 0 := TL.out
            subst tn
            go_upto_region 19 with fail
            obtain ⟨n3, hn3⟩ : ∃ n, Hid (n = l3.length) := ⟨_, rfl⟩
            rw [← hn3.out]
            have hb9 : n3 ≤ 9223372036854775807 := by rw [hn3.out]; exact tt1
            clear r0 tt tt1
            go_wp2_with fail
            go_loopw [14] (fun j wq => ∃ (q : Nat) (m : List UInt8), q ≤ n3 ∧ j = .int .i64 (q : Int) ∧ Hid (m.length = n3) ∧ Hid (Mine wv.heap.size wq a3 m c3 ∧ Cit.Own 5 wb.heap.size wq a5 l5 c5 ∧ Below wv.heap.size wv wq)) (fun j _ => n3 - (intOf j).toNat)
            case atStart => exact ⟨0, l3, Nat.zero_le _, rfl, hn3.out.symm, HM6.out, HO5.out, HB10.out⟩
            case round =>
              obtain ⟨q, m, hq, rfl, HML, HMM⟩ := hrel
              by_cases hlq : q < n3
              · have hqm : q < m.length := by rw [HML.out]; exact hlq
                have ij := HMM.out.1.row.index bt.slice bt.sz q hqm
                have ej := HMM.out.1.row.cell q hqm
                have fj := HMM.out.1.free q hqm
                rw [HML.out] at ij
                obtain ⟨st1, st2, st3⟩ := HMM.out.1.stored q hqm (bAdd m[q] (bI 1))
                have hst5 : Cit.Own 5 wb.heap.size (wr.setCell (ad a3 q) (vb (bAdd m[q] (bI 1)))) a5 l5 c5 := HMM.out.2.1.kept st2 (by
                  cases ha5 : Go.Cit.blk a5 with
                  | none => exact .inl rfl
                  | some g5 =>
                    refine .inr (fun e => ?_)
                    have h5 := (HMM.out.2.1.blk_ge ha5).1
                    have h3 := HLT3.out (by intro h0; have := hn3.out; rw [h0] at this; simp at this; omega) g5 e.symm
                    omega)
                have HST := Lib.hid (And.intro st1 (And.intro hst5 (HMM.out.2.2.trans (st3.mono (Nat.le_refl _)))))
                obtain ⟨y, hy⟩ : ∃ y, m[q] = y := ⟨_, rfl⟩
                rw [hy] at ej HST
                have HLS : Hid ((m.set q (bAdd y (bI 1))).length = n3) := by rw [Hid, List.length_set]; exact HML.out
                clear st1 st2 st3 hst5 hy hqm
                go_wp2_with fail
                go_roundw
                case rel => exact ⟨q + 1, _, hlq, by go_num, HLS, HST⟩
                case measure => simp [intOf]; omega
              · have HB12 := Lib.hid HMM.out.2.2
                clear HMM HML
                go_wp2_with fail
                go_loopw [15] (fun j wq => j = .int .i64 0 ∧ Hid (Below wv.heap.size wv wq)) (fun j _ => 0)
                case atStart => exact ⟨rfl, HB12.out⟩
                case round =>
                  obtain ⟨rfl, HMM⟩ := hrel
                  go_wp2_with fail
                  go_roundw
                  case rel => exact ⟨k + 1, by omega, by first | go_num | (congr 1; omega), HK.out.trans (HMM.out.mono HK.out.size)⟩
                  case measure => simp [intOf]; omega
          · by_cases hir : k ≤ D.S.length
            · have hkk : k - 1 < D.S.length := by omega
              obtain ⟨a6, c6, g6, hr6⟩ := H10.out.r.flushed (k - 1) hkk
              have ei : i = ((k - 1 : Nat) : Int) := by rw [hi.out]; omega
              have hl6 : l5 = D.S[k - 1] := by rw [hl5.out, ei, flushedR, if_pos (by omega)]; simp [hkk]
              rw [← hl6] at hr6 g6
              have hsm := same_calls we a5 a6 l5 l5 c5 c6 HO5.out.isRow hr6
              rw [ordB_self] at hsm
              have hx := ro_index r.lb D.S.length cc3 (k - 1) hkk
              have t0 : ((k : Int) - 1) = ((k - 1 : Nat) : Int) := by omega
              rw [← t0] at hx
              have t1 : ¬ ((k : Int) - 1) < 0 := by omega
              have t2 : (0 : Int) ≤ (k : Int) - 1 := by omega
              have t3 : ((k : Int) - 1) < (D.S.length : Int) := by omega
              have t4 : ¬ (D.S.length : Int) ≤ ((k : Int) - 1) := by omega
              clear hl6 ei hr6 t0 hl5
              go_wp2_with fail
              refine (hsm).mono ?_
              rintro e wf ⟨rfl, hdr⟩
              have hbd := hdr.below we.heap.size
              have HM6 := Lib.hid (HM6.out.stay hbd)
              have HO5 := Lib.hid (HO5.out.stay hbd)
              have HB10 := Lib.hid (HB10.out.trans (hbd.mono HB10.out.size))
              have r0 := keep hbd r0
              clear hdr hbd hsm g6 hx
              go_upto_region 19 with fail
              obtain ⟨n3, hn3⟩ : ∃ n, Hid (n = l3.length) := ⟨_, rfl⟩
              rw [← hn3.out]
              have hb9 : n3 ≤ 9223372036854775807 := by rw [hn3.out]; exact tt1
              clear r0 tt tt1
              go_wp2_with fail
              go_loopw [14] (fun j wq => ∃ (q : Nat) (m : List UInt8), q ≤ n3 ∧ j = .int .i64 (q : Int) ∧ Hid (m.length = n3) ∧ Hid (Mine wv.heap.size wq a3 m c3 ∧ Cit.Own 5 wb.heap.size wq a5 l5 c5 ∧ Below wv.heap.size wv wq)) (fun j _ => n3 - (intOf j).toNat)
              case atStart => exact ⟨0, l3, Nat.zero_le _, rfl, hn3.out.symm, HM6.out, HO5.out, HB10.out⟩
              case round =>
                obtain ⟨q, m, hq, rfl, HML, HMM⟩ := hrel
                by_cases hlq : q < n3
                · have hqm : q < m.length := by rw [HML.out]; exact hlq
                  have ij := HMM.out.1.row.index bt.slice bt.sz q hqm
                  have ej := HMM.out.1.row.cell q hqm
                  have fj := HMM.out.1.free q hqm
                  rw [HML.out] at ij
                  obtain ⟨st1, st2, st3⟩ := HMM.out.1.stored q hqm (bAdd m[q] (bI 1))
                  have hst5 : Cit.Own 5 wb.heap.size (wr.setCell (ad a3 q) (vb (bAdd m[q] (bI 1)))) a5 l5 c5 := HMM.out.2.1.kept st2 (by
                    cases ha5 : Go.Cit.blk a5 with
                    | none => exact .inl rfl
                    | some g5 =>
                      refine .inr (fun e => ?_)
                      have h5 := (HMM.out.2.1.blk_ge ha5).1
                      have h3 := HLT3.out (by intro h0; have := hn3.out; rw [h0] at this; simp at this; omega) g5 e.symm
                      omega)
                  have HST := Lib.hid (And.intro st1 (And.intro hst5 (HMM.out.2.2.trans (st3.mono (Nat.le_refl _)))))
                  obtain ⟨y, hy⟩ : ∃ y, m[q] = y := ⟨_, rfl⟩
                  rw [hy] at ej HST
                  have HLS : Hid ((m.set q (bAdd y (bI 1))).length = n3) := by rw [Hid, List.length_set]; exact HML.out
                  clear st1 st2 st3 hst5 hy hqm
                  go_wp2_with fail
                  go_roundw
                  case rel => exact ⟨q + 1, _, hlq, by go_num, HLS, HST⟩
                  case measure => simp [intOf]; omega
                · have HN5 := Lib.hid (HMM.out.2.1.mine.low HB7.out.size)
                  have HB12 := Lib.hid HMM.out.2.2
                  clear HMM HML
                  go_wp2_with fail
                  go_loopw [15] (fun j wq => ∃ (q : Nat) (m : List UInt8), q ≤ l5.length ∧ j = .int .i64 (q : Int) ∧ Hid (m.length = l5.length) ∧ Hid (Mine wv.heap.size wq a5 m c5 ∧ Below wv.heap.size wv wq)) (fun j _ => l5.length - (intOf j).toNat)
                  case atStart => exact ⟨0, l5, Nat.zero_le _, rfl, rfl, HN5.out, HB12.out⟩
                  case round =>
                    obtain ⟨q, m, hq, rfl, HML, HMM⟩ := hrel
                    by_cases hlq : q < l5.length
                    · have hqm : q < m.length := by rw [HML.out]; exact hlq
                      have ij := HMM.out.1.row.index bt.slice bt.sz q hqm
                      have ej := HMM.out.1.row.cell q hqm
                      have fj := HMM.out.1.free q hqm
                      rw [HML.out] at ij
                      obtain ⟨st1, st2, st3⟩ := HMM.out.1.stored q hqm (bAdd m[q] (bI 1))
                      have HST := Lib.hid (And.intro st1 (HMM.out.2.trans (st3.mono (Nat.le_refl _))))
                      obtain ⟨y, hy⟩ : ∃ y, m[q] = y := ⟨_, rfl⟩
                      rw [hy] at ej HST
                      have HLS : Hid ((m.set q (bAdd y (bI 1))).length = l5.length) := by rw [Hid, List.length_set]; exact HML.out
                      clear st1 st2 st3 hy hqm
                      go_wp2_with fail
                      go_roundw
                      case rel => exact ⟨q + 1, _, hlq, by go_num, HLS, HST⟩
                      case measure => simp [intOf]; omega
                    · go_wp2_with fail
                      go_roundw
                      case rel => exact ⟨k + 1, by omega, by first | go_num | (congr 1; omega), HK.out.trans (HMM.out.2.mono HK.out.size)⟩
                      case measure => simp [intOf]; omega
            · have ei : i = (D.S.length : Int) := by rw [hi.out]; omega
              have hl0 : l5 = [] := by rw [hl5.out, ei, flushedR, if_neg (by omega)]
              have HL5 := Lib.hid hl5
              have t1 : ¬ ((k : Int) - 1) < 0 := by omega
              have t2 : (0 : Int) ≤ (k : Int) - 1 := by omega
              have t3 : ¬ ((k : Int) - 1) < (D.S.length : Int) := by omega
              have t4 : (D.S.length : Int) ≤ ((k : Int) - 1) := by omega
              have tl : l5.length = 0 := by rw [hl0]; rfl
              have TL := Lib.hid tl
              clear hl5 hl0 ei tl
              generalize hn5 : l5.length = n5 at *
              have tn : n5 = 0 := TL.out
              subst tn
              go_upto_region 19 with fail
              obtain ⟨n3, hn3⟩ : ∃ n, Hid (n = l3.length) := ⟨_, rfl⟩
              rw [← hn3.out]
              have hb9 : n3 ≤ 9223372036854775807 := by rw [hn3.out]; exact tt1
              clear r0 tt tt1
              go_wp2_with fail
              go_loopw [14] (fun j wq => ∃ (q : Nat) (m : List UInt8), q ≤ n3 ∧ j = .int .i64 (q : Int) ∧ Hid (m.length = n3) ∧ Hid (Mine wv.heap.size wq a3 m c3 ∧ Cit.Own 5 wb.heap.size wq a5 l5 c5 ∧ Below wv.heap.size wv wq)) (fun j _ => n3 - (intOf j).toNat)
              case atStart => exact ⟨0, l3, Nat.zero_le _, rfl, hn3.out.symm, HM6.out, HO5.out, HB10.out⟩
              case round =>
                obtain ⟨q, m, hq, rfl, HML, HMM⟩ := hrel
                by_cases hlq : q < n3
                · have hqm : q < m.length := by rw [HML.out]; exact hlq
                  have ij := HMM.out.1.row.index bt.slice bt.sz q hqm
                  have ej := HMM.out.1.row.cell q hqm
                  have fj := HMM.out.1.free q hqm
                  rw [HML.out] at ij
                  obtain ⟨st1, st2, st3⟩ := HMM.out.1.stored q hqm (bAdd m[q] (bI 1))
                  have hst5 : Cit.Own 5 wb.heap.size (wr.setCell (ad a3 q) (vb (bAdd m[q] (bI 1)))) a5 l5 c5 := HMM.out.2.1.kept st2 (by
                    cases ha5 : Go.Cit.blk a5 with
                    | none => exact .inl rfl
                    | some g5 =>
                      refine .inr (fun e => ?_)
                      have h5 := (HMM.out.2.1.blk_ge ha5).1
                      have h3 := HLT3.out (by intro h0; have := hn3.out; rw [h0] at this; simp at this; omega) g5 e.symm
                      omega)
                  have HST := Lib.hid (And.intro st1 (And.intro hst5 (HMM.out.2.2.trans (st3.mono (Nat.le_refl _)))))
                  obtain ⟨y, hy⟩ : ∃ y, m[q] = y := ⟨_, rfl⟩
                  rw [hy] at ej HST
                  have HLS : Hid ((m.set q (bAdd y (bI 1))).length = n3) := by rw [Hid, List.length_set]; exact HML.out
                  clear st1 st2 st3 hst5 hy hqm
                  go_wp2_with fail
                  go_roundw
                  case rel => exact ⟨q + 1, _, hlq, by go_num, HLS, HST⟩
                  case measure => simp [intOf]; omega
                · have HB12 := Lib.hid HMM.out.2.2
                  clear HMM HML
                  go_wp2_with fail
                  go_loopw [15] (fun j wq => j = .int .i64 0 ∧ Hid (Below wv.heap.size wv wq)) (fun j _ => 0)
                  case atStart => exact ⟨rfl, HB12.out⟩
                  case round =>
                    obtain ⟨rfl, HMM⟩ := hrel
                    go_wp2_with fail
                    go_roundw
                    case rel => exact ⟨k + 1, by omega, by first | go_num | (congr 1; omega), HK.out.trans (HMM.out.mono HK.out.size)⟩
                    case measure => simp [intOf]; omega
        · have tt : ¬ ((k : Int) - 1 ≤ (D.S.length : Int)) := by omega
          have ttk : k = D.S.length + 2 := by omega
          have tte : ((k : Int) - 1) = (D.S.length : Int) + 1 := by omega
          obtain ⟨⟨cc2, r0⟩, _⟩ := (H5.out.stay HK.out).r.cells
          go_wp2_with fail
          go_ret
          exact ⟨rfl, HB5.out.trans (HK.out.mono HB5.out.size)⟩
end Go.Proofs.Ytofagofpeedfcaa
