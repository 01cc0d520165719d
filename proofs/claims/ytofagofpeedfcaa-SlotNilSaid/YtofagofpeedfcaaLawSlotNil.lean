/- Chapter 15's law SlotNil: walked. -/
import Derived.Test.YtofagofpeedfcaaAct15
import Derived.Test.YtofagofpeedfcaaSlotG
import Derived.Test.YtofagofpeedfcaaLawDiskNil
import Derived.Test.YtofagofpeedfcaaAfter
namespace Go.Proofs.Ytofagofpeedfcaa
open Go Go.RowKit Go.Cit

theorem alloc_ax (b : Nat) (w : World) (x : Ax) (h : w.heap[b]? = some (.cells x.cs.toArray 68 (0, 0))) : w.cell? ⟨b, 1, none⟩ = some (.int .i64 x.slot) ∧ w.cell? ⟨b, 2, none⟩ = some (.int .i64 x.at_) ∧ w.cell? ⟨b, 3, none⟩ = some (.slice x.a x.l.length x.c) := by
  refine ⟨?_, ?_, ?_⟩ <;> (rw [World.cell?, h]; rfl)
theorem axs_one {w : World} {b : Nat} {x : Ax} (h : w.heap[b]? = some (.cells x.cs.toArray 68 (0, 0))) (hx : x.At w) : Axs w (some ⟨b, 0, none⟩) [x] 1 := by
  refine ⟨⟨by simp, by unfold maxLen; decide, fun h => by simp at h, fun _ => ⟨b, 0, rfl⟩, fun i hi j hj => ?_⟩, fun y hy => by rw [List.mem_singleton.1 hy]; exact hx⟩
  obtain rfl : i = 0 := by simp at hi; exact hi
  rw [ad_some, World.cell?, h]
  simp
set_option maxRecDepth 100000 in
set_option maxHeartbeats 4000000 in
theorem slotNil_all (w : World) (x : Ax) (h : x.At w) : Calls Try.prog 10 #[.agg x.cs.toArray] w fun e w' => e = .returned (.bool true) ∧ Below w.heap.size w w' := by
  obtain ⟨w1, hw1⟩ : ∃ w1, w1 = w.alloc (.cells x.cs.toArray 68) := ⟨_, rfl⟩
  obtain ⟨w2, hw2⟩ : ∃ w2, w2 = w1.alloc (.cells x.cs.toArray 68) := ⟨_, rfl⟩
  have B1 : Below w.heap.size w w1 := by rw [hw1]; exact (Below.refl _ w).alloc (Nat.le_refl _) _
  have B2 : Below w1.heap.size w1 w2 := by rw [hw2]; exact (Below.refl _ w1).alloc (Nat.le_refl _) _
  have s1 : w1.heap.size = w.heap.size + 1 := by rw [hw1]; simp
  have x1 : w1.heap[w.heap.size]? = some (.cells x.cs.toArray 68 (0, 0)) := by rw [hw1]; exact heap_alloc_new _ _
  have x2 : w2.heap[w1.heap.size]? = some (.cells x.cs.toArray 68 (0, 0)) := by rw [hw2]; exact heap_alloc_new _ _
  have hg := great15_calls w2 _ _ _ (axs_one x2 ((h.stay B1).stay B2))
  obtain ⟨d1, d2, d3⟩ := alloc_ax _ _ _ ((B2.block _ (by omega)).trans x1)
  have HX := Lib.hid ((h.stay B1).stay B2)
  have HB2 := Lib.hid (B1.trans (B2.mono B1.size))
  have HD1 := Lib.hid d1
  have HD2 := Lib.hid d2
  have HD3 := Lib.hid d3
  obtain ⟨c1, c2, c3⟩ := alloc_ax _ _ _ x1
  clear h B1 B2 x1 x2 d1 d2 d3
  go_enter Try.func10, Try.ntmps10
  go_wp2_with fail
  rw [← hw1]
  rw [show w1.alloc (Obj.cells #[Value.int .i64 x.kind, Value.int .i64 x.slot, Value.int .i64 x.at_, Value.slice x.a x.l.length x.c, Value.bool x.odd] 68) = w2 from hw2.symm]
  rw [s1] at hg
  clear hw1 hw2
  refine (hg).mono ?_
  rintro e w3 ⟨rfl, rfl⟩
  cases hgg : decide (6000 < totX [x]) with
  | true =>
    clear c1 c2 c3
    go_wp2_with fail
    go_ret
    exact ⟨rfl, HB2.out⟩
  | false =>
    obtain ⟨w4, hw4⟩ : ∃ w4, w4 = (w3.alloc (.cells #[.bool false, .slice none 0 0, .map none, .int .i64 0, .slice none 0 0] 31)).alloc (.cells #[.pointer none, .pointer (some ⟨w3.heap.size, 0, none⟩)] 27) := ⟨_, rfl⟩
    have B4 : Below w3.heap.size w3 w4 := by rw [hw4]; exact ((Below.refl _ w3).alloc (Nat.le_refl _) _).alloc (by simp) _
    have z2 : w4.cell? ⟨w3.heap.size, 2, none⟩ = some (.map none) := by rw [hw4]; refine keepA _ ?_; rw [World.cell?, heap_alloc_new]; rfl
    have l0 : w4.heap[w3.heap.size + 1]? = some (.cells #[.pointer none, .pointer (some ⟨w3.heap.size, 0, none⟩)] 27 (0, 0)) := by
      rw [hw4, show w3.heap.size + 1 = (w3.alloc (.cells #[.bool false, .slice none 0 0, .map none, .int .i64 0, .slice none 0 0] 31)).heap.size by simp, heap_alloc_new]
    have HN : Hid (∀ k, k < 2 → ∃ v : Option Addr, w4.cell? ⟨w3.heap.size + 1, k, none⟩ = some (.pointer v) ∧ NoDisk w4 (.pointer v)) := by
      intro k hk
      rcases (show k = 0 ∨ k = 1 by omega) with rfl | rfl
      · exact ⟨none, by rw [World.cell?, l0]; rfl, .inl rfl⟩
      · exact ⟨some ⟨w3.heap.size, 0, none⟩, by rw [World.cell?, l0]; rfl, .inr ⟨_, rfl, z2⟩⟩
    have HA := Lib.hid (HX.out.stay B4)
    have E1 := Lib.hid (keep B4 HD1.out)
    have E2 := Lib.hid (keep B4 HD2.out)
    have E3 := Lib.hid (keep B4 HD3.out)
    have HB4 := Lib.hid (HB2.out.trans (B4.mono HB2.out.size))
    clear z2 l0 B4 HX c1 c2 c3 hg s1 HD1 HD2 HD3 hgg
    go_wp2_with fail
    rw [← hw4]
    clear hw4
    go_loopw [5] (fun i wr => ∃ k : Nat, k ≤ 2 ∧ i = .int .i64 (k : Int) ∧ Hid (Below w4.heap.size w4 wr)) (fun i _ => 2 - (intOf i).toNat)
    case atStart => exact ⟨0, by omega, rfl, Below.refl _ _⟩
    case round =>
      obtain ⟨k, hk, rfl, HR⟩ := hrel
      by_cases hlt : k < 2
      · obtain ⟨v, hv, hn⟩ := HN.out k hlt
        have e0 : ∀ q : After wr, q.to.cell? ⟨w3.heap.size + 1, k, none⟩ = some (.pointer v) := fun q => keep q.bel (keep HR.out hv)
        have d1 : ∀ q : After wr, _ := fun q => keep q.bel (keep HR.out E1.out)
        have d2 : ∀ q : After wr, _ := fun q => keep q.bel (keep HR.out E2.out)
        have HNv := Lib.hid (fun (W : World) (hb : Below wr.heap.size wr W) => (hn.stay HR.out).stay hb)
        have i0 := idx1 (P := Try.prog) Try.underlying32 (fun w => by kernel_rfl) (w3.heap.size + 1) 2 2 k hlt
        have HRD := Lib.hid (fun (W : World) (hb : Below wr.heap.size wr W) => sread_ref W v x.slot x.at_ 1 (by decide) (fun W2 hb2 => refused_nil W2 _ (HNv.out _ (hb.trans (hb2.mono hb.size))) x.slot 0 x.at_ HA.out.hs (by decide) HA.out.hn))
        have HR1 := Lib.hid (fun q : After wr => HRD.out q.to q.bel)
        have HV := Lib.hid (keep HR.out hv)
        have HBK := Lib.hid (keep HR.out E1.out)
        have HBL := Lib.hid (keep HR.out E2.out)
        have HBM := Lib.hid (keep HR.out E3.out)
        clear hv hn
        go_wp2_with fail
        refine wp_region_after (by kernel_rfl) (by kernel_rfl) ?_
        iterate 14
          refine wq_step (fun K hK => ?_)
          go_simp
          first
            | (refine hK _ ?_; clear hK K)
            | (apply Exists.intro
               refine ⟨fun _ => ?_, hK _ ?_⟩
               first | with_reducible exact after_calls (HR1.out _)
               clear hK K)
        refine wq_nil ?_
        intro wb hw'
        obtain ⟨⟨_, hb1⟩, hw'⟩ := hw'
        subst hw'
        clear e0 d1 d2 HR1
        have HB1 := Lib.hid hb1
        have e0 : ∀ q : After wb, q.to.cell? ⟨w3.heap.size + 1, k, none⟩ = some (.pointer v) := fun q => keep q.bel (keep HB1.out HV.out)
        have d1 : ∀ q : After wb, _ := fun q => keep q.bel (keep HB1.out HBK.out)
        have d2 : ∀ q : After wb, _ := fun q => keep q.bel (keep HB1.out HBL.out)
        have HR2 : Hid (∀ q : After wb, Calls Try.prog 38 #[.pointer v, .int .i64 x.slot, .int .i64 x.at_, .agg (#[.int .u8 0, .int .u8 0, .int .u8 0, .int .u8 0, .int .u8 0, .int .u8 0, .int .u8 0, .int .u8 0, .int .u8 0, .int .u8 0, .int .u8 0, .int .u8 0, .int .u8 0, .int .u8 0, .int .u8 0, .int .u8 0, .int .u8 0, .int .u8 0, .int .u8 0, .int .u8 0, .int .u8 0, .int .u8 0, .int .u8 0, .int .u8 0, .int .u8 0, .int .u8 0, .int .u8 0, .int .u8 0, .int .u8 0, .int .u8 0, .int .u8 0, .int .u8 0] : Array Value)] q.to fun e w' => e = .returned (.tuple #[.slice none 0 0, .int .i64 1]) ∧ Below q.to.heap.size q.to w') := fun q => by
          have h9 := sget_err q.to v x.slot x.at_ (List.replicate 32 0) 1 (by decide) (fun W hb => HRD.out W (HB1.out.trans ((q.bel.trans (hb.mono q.bel.size)).mono HB1.out.size)))
          rw [show ((List.replicate 32 (0 : UInt8)).map vb).toArray = (#[.int .u8 0, .int .u8 0, .int .u8 0, .int .u8 0, .int .u8 0, .int .u8 0, .int .u8 0, .int .u8 0, .int .u8 0, .int .u8 0, .int .u8 0, .int .u8 0, .int .u8 0, .int .u8 0, .int .u8 0, .int .u8 0, .int .u8 0, .int .u8 0, .int .u8 0, .int .u8 0, .int .u8 0, .int .u8 0, .int .u8 0, .int .u8 0, .int .u8 0, .int .u8 0, .int .u8 0, .int .u8 0, .int .u8 0, .int .u8 0, .int .u8 0, .int .u8 0] : Array Value) by kernel_rfl] at h9
          exact h9
        clear hb1
        go_wp2_with fail
        refine wp_region_after (by kernel_rfl) (by kernel_rfl) ?_
        iterate 15
          refine wq_step (fun K hK => ?_)
          go_simp
          first
            | (refine hK _ ?_; clear hK K)
            | (apply Exists.intro
               refine ⟨fun _ => ?_, hK _ ?_⟩
               first | with_reducible exact after_calls (HR2.out _)
               clear hK K)
        refine wq_nil ?_
        intro wc hw'
        obtain ⟨⟨_, hb2⟩, hw'⟩ := hw'
        subst hw'
        clear e0 d1 d2 HR2
        have HB2 := Lib.hid (HB1.out.trans (hb2.mono HB1.out.size))
        clear hb2
        have e0 : ∀ q : After wc, q.to.cell? ⟨w3.heap.size + 1, k, none⟩ = some (.pointer v) := fun q => keep q.bel (keep HB2.out HV.out)
        have d1 : ∀ q : After wc, _ := fun q => keep q.bel (keep HB2.out HBK.out)
        have d2 : ∀ q : After wc, _ := fun q => keep q.bel (keep HB2.out HBL.out)
        have d3 : ∀ q : After wc, _ := fun q => keep q.bel (keep HB2.out HBM.out)
        have HR3 : Hid (∀ q : After wc, Calls Try.prog 35 #[.pointer v, .int .i64 x.slot, .int .i64 x.at_, .slice x.a x.l.length x.c] q.to fun e w' => e = .returned (.int .i64 1) ∧ Below q.to.heap.size q.to w') := fun q =>
          swrite_ref q.to v x.slot x.at_ x.a x.l.length x.c 1 (by decide) HA.out.row.len_le (fun W2 hb2 => refused_nil W2 _ (HNv.out _ (HB2.out.trans ((q.bel.trans (hb2.mono q.bel.size)).mono HB2.out.size))) x.slot x.at_ x.l.length HA.out.hs HA.out.hn (by have := HA.out.row.len_le; omega))
        go_wp2_with fail
        refine wp_region_after (by kernel_rfl) (by kernel_rfl) ?_
        iterate 30
          refine wq_step (fun K hK => ?_)
          go_simp
          first
            | (refine hK _ ?_; clear hK K)
            | (apply Exists.intro
               refine ⟨fun _ => ?_, hK _ ?_⟩
               first | with_reducible exact after_calls (HR3.out _)
               clear hK K)
        refine wq_nil ?_
        intro wd hw'
        obtain ⟨⟨_, hb3⟩, hw'⟩ := hw'
        subst hw'
        clear e0 d1 d2 d3 HR3
        have HB3 := Lib.hid (HR.out.trans ((HB2.out.trans (hb3.mono HB2.out.size)).mono HR.out.size))
        clear hb3
        go_wp2_with fail
        go_roundw
        case rel => exact ⟨k + 1, by omega, by go_num, HB3.out⟩
        case measure => simp [intOf]; omega
      · go_wp2_with fail
        go_ret
        exact ⟨rfl, HB4.out.trans (HR.out.mono HB4.out.size)⟩
theorem slotNil_law (w : World) (x : Ax) (h : x.At w) : Calls Try.prog 10 #[.agg x.cs.toArray] w fun e w' => e = .returned (.bool true) ∧ Below w.heap.size w w' := slotNil_all w x h
end Go.Proofs.Ytofagofpeedfcaa
