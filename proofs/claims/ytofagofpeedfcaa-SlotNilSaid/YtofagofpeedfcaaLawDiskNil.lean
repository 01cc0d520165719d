/- Chapter 6's law DiskNil: walked. -/
import Derived.Test.YtofagofpeedfcaaAct6
namespace Go.Proofs.Ytofagofpeedfcaa
open Go Go.RowKit Go.Cit

theorem alloc_ac (b : Nat) (w : World) (x : Ac) (h : w.heap[b]? = some (.cells x.cs.toArray 24 (0, 0))) : w.cell? ⟨b, 0, none⟩ = some (.int .i64 x.kind) ∧ w.cell? ⟨b, 1, none⟩ = some (.int .i64 x.n) ∧ w.cell? ⟨b, 2, none⟩ = some (.slice x.a x.l.length x.c) := by
  refine ⟨?_, ?_, ?_⟩ <;> (rw [World.cell?, h]; rfl)
theorem acts_one {w : World} {b : Nat} {x : Ac} (h : w.heap[b]? = some (.cells x.cs.toArray 24 (0, 0))) (hx : x.At w) : Acts w (some ⟨b, 0, none⟩) [x] 1 := by
  refine ⟨⟨by simp, by unfold maxLen; decide, fun h => by simp at h, fun _ => ⟨b, 0, rfl⟩, fun i hi j hj => ?_⟩, fun y hy => by rw [List.mem_singleton.1 hy]; exact hx⟩
  obtain rfl : i = 0 := by simp at hi; exact hi
  rw [ad_some, World.cell?, h]
  simp
theorem idx1 {P : Program} {T E : TypeId} (hT : P.underlying T = some (.slice E)) (hE : ∀ w, (sizeOf E).run P w = .ok 1 w) (g n c k : Nat) (hk : k < n) (w : World) : (Instr.indexAt T (.slice (some ⟨g, 0, none⟩) n c) (.int .i64 (k : Int))).run P w = .ok (.pointer (some ⟨g, k, none⟩)) w := by
  have he : P.elem T = E := by simp [Program.elem, hT]
  rw [run_indexAt_slice w _ _ _ _ _ _ (by rw [he]; exact hT), if_pos (by omega), he, hE]
  simp only [Result.andThen, Addr.add]
  by_cases h0 : k = 0
  · simp [h0]
  · simp [h0]
set_option maxRecDepth 100000 in
set_option maxHeartbeats 4000000 in
theorem diskNil_all (w : World) (x : Ac) (h : x.At w) : Calls Try.prog 3 #[.agg x.cs.toArray] w fun e w' => e = .returned (.bool true) ∧ Below w.heap.size w w' := by
  obtain ⟨w1, hw1⟩ : ∃ w1, w1 = w.alloc (.cells x.cs.toArray 24) := ⟨_, rfl⟩
  obtain ⟨w2, hw2⟩ : ∃ w2, w2 = w1.alloc (.cells x.cs.toArray 24) := ⟨_, rfl⟩
  have B1 : Below w.heap.size w w1 := by rw [hw1]; exact (Below.refl _ w).alloc (Nat.le_refl _) _
  have B2 : Below w1.heap.size w1 w2 := by rw [hw2]; exact (Below.refl _ w1).alloc (Nat.le_refl _) _
  have s1 : w1.heap.size = w.heap.size + 1 := by rw [hw1]; simp
  have s2 : w2.heap.size = w.heap.size + 2 := by rw [hw2]; simp; omega
  have x1 : w1.heap[w.heap.size]? = some (.cells x.cs.toArray 24 (0, 0)) := by rw [hw1]; exact heap_alloc_new _ _
  have x2 : w2.heap[w1.heap.size]? = some (.cells x.cs.toArray 24 (0, 0)) := by rw [hw2]; exact heap_alloc_new _ _
  have hg := great6_calls w2 _ _ _ (acts_one x2 ((h.stay B1).stay B2))
  obtain ⟨d0, d1, d2⟩ := alloc_ac _ _ _ ((B2.block _ (by omega)).trans x1)
  have HX := Lib.hid ((h.stay B1).stay B2)
  have HB2 := Lib.hid (B1.trans (B2.mono B1.size))
  obtain ⟨c0, c1, c2⟩ := alloc_ac _ _ _ x1
  have HLD : Hid ((Instr.loadAt 24 (.pointer (some ⟨w.heap.size, 0, none⟩))).run Try.prog w1 = .ok (.agg x.cs.toArray) w1) := by
    have := run_loadB (P := Try.prog) (T := 24) Try.underlying24 rfl (by kernel_rfl) x1
    simp only [Hid, Instr.loadAt, Instr.sureAddr, Sem.run_bind, Sem.run_pure, Result.andThen, this]
  clear h B1 B2 x1 x2
  go_enter Try.func3, Try.ntmps3
  go_wp2_with fail
  rw [← hw1]
  rw [show w1.alloc (Obj.cells #[Value.int .i64 x.kind, Value.int .i64 x.n, Value.slice x.a x.l.length x.c] 24) = w2 from hw2.symm]
  rw [s1] at hg
  clear hw1 hw2
  refine (hg).mono ?_
  rintro e w3 ⟨rfl, rfl⟩
  cases hgg : decide (6000 < totA [x]) with
  | true =>
    go_wp2_with fail
    go_ret
    exact ⟨rfl, HB2.out⟩
  | false =>
    obtain ⟨Z, hZ⟩ : ∃ Z, Hid (Z = w3.heap.size) := ⟨_, rfl⟩
    obtain ⟨w4, hw4⟩ : ∃ w4, w4 = (w3.alloc (.cells #[.bool false, .slice none 0 0, .map none, .int .i64 0, .slice none 0 0] 31)).alloc (.cells #[.pointer none, .pointer (some ⟨w3.heap.size, 0, none⟩)] 27) := ⟨_, rfl⟩
    have B4 : Below w3.heap.size w3 w4 := by rw [hw4]; exact ((Below.refl _ w3).alloc (Nat.le_refl _) _).alloc (by simp) _
    have z2 : w4.cell? ⟨w3.heap.size, 2, none⟩ = some (.map none) := by rw [hw4]; refine keepA _ ?_; rw [World.cell?, heap_alloc_new]; rfl
    have l0 : w4.heap[w3.heap.size + 1]? = some (.cells #[.pointer none, .pointer (some ⟨w3.heap.size, 0, none⟩)] 27 (0, 0)) := by
      rw [hw4, show w3.heap.size + 1 = (w3.alloc (.cells #[.bool false, .slice none 0 0, .map none, .int .i64 0, .slice none 0 0] 31)).heap.size by simp, heap_alloc_new]
    have HN : Hid (∀ k, k < 2 → ∃ v, w4.cell? ⟨w3.heap.size + 1, k, none⟩ = some v ∧ NoDisk w4 v) := by
      intro k hk
      rcases (show k = 0 ∨ k = 1 by omega) with rfl | rfl
      · exact ⟨.pointer none, by rw [World.cell?, l0]; rfl, .inl rfl⟩
      · exact ⟨.pointer (some ⟨w3.heap.size, 0, none⟩), by rw [World.cell?, l0]; rfl, .inr ⟨_, rfl, z2⟩⟩
    have HA := Lib.hid (HX.out.stay B4)
    have d0 := keep B4 d0
    have d1 := keep B4 d1
    have d2 := keep B4 d2
    have HB4 := Lib.hid (HB2.out.trans (B4.mono HB2.out.size))
    clear z2 l0 B4 HX c0 c1 c2 HLD hg s1 s2
    go_wp2_with fail
    rw [← hw4]
    clear hw4
    go_loopw [5] (fun i wr => ∃ k : Nat, k ≤ 2 ∧ i = .int .i64 (k : Int) ∧ Hid (Below w4.heap.size w4 wr)) (fun i _ => 2 - (intOf i).toNat)
    case atStart => exact ⟨0, by omega, rfl, Below.refl _ _⟩
    case round =>
      obtain ⟨k, hk, rfl, HR⟩ := hrel
      by_cases hlt : k < 2
      · obtain ⟨v, hv, hn⟩ := HN.out k hlt
        have e0 := keep HR.out hv
        have d1 := keep HR.out d1
        have d2 := keep HR.out d2
        have HNv := Lib.hid (hn.stay HR.out)
        have i0 := idx1 (P := Try.prog) Try.underlying32 (fun w => by kernel_rfl) (w3.heap.size + 1) 2 2 k hlt
        have r1 := read_nil wr v HNv.out x.n
        clear hv hn
        go_wp2_with fail
        refine (r1).mono ?_
        rintro e wa ⟨rfl, rfl⟩
        have r2 := write_nil wa v HNv.out x.n x.a x.l.length x.c
        go_wp2_with fail
        refine (r2).mono ?_
        rintro e wb ⟨rfl, hb2⟩
        have f1 := keep hb2 d1
        have f2 := keep hb2 d2
        have HNw := Lib.hid (HNv.out.stay hb2)
        have HB5 := Lib.hid (HR.out.trans (hb2.mono HR.out.size))
        clear hb2 r2 d1 d2 r1
        have r3 := flush_nil wb v HNw.out
        go_wp2_with fail
        refine (r3).mono ?_
        rintro e wc ⟨rfl, hb3⟩
        have g1 := keep hb3 f1
        have g2 := keep hb3 f2
        have HNx := Lib.hid (HNw.out.stay hb3)
        have HB6 := Lib.hid (HB5.out.trans (hb3.mono HB5.out.size))
        clear hb3 r3 f1 f2
        have r4 := crash_nil wc v HNx.out
        have r5 := arm_nil wc v HNx.out
        have r6 := start_nil wc v HNx.out
        have r7 := up_nil wc v HNx.out
        have r8 := len_nil wc v HNx.out
        have r9 := dirty_nil wc v HNx.out
        have r10 := flushed_nil wc v HNx.out x.n
        go_wp2_with fail
        refine (r4 _).mono ?_
        rintro e wd ⟨rfl, rfl⟩
        go_wp2_with fail
        refine (r5 _ _).mono ?_
        rintro e wd ⟨rfl, rfl⟩
        go_wp2_with fail
        refine (r6).mono ?_
        rintro e wd ⟨rfl, rfl⟩
        go_wp2_with fail
        refine (r7).mono ?_
        rintro e wd ⟨rfl, rfl⟩
        go_wp2_with fail
        refine (r8).mono ?_
        rintro e wd ⟨rfl, rfl⟩
        go_wp2_with fail
        refine (r9).mono ?_
        rintro e wd ⟨rfl, rfl⟩
        go_wp2_with fail
        refine (r10).mono ?_
        rintro e wd ⟨rfl, rfl⟩
        go_wp2_with fail
        go_roundw
        case rel => exact ⟨k + 1, hlt, by go_num, HB6⟩
        case measure => simp [intOf]; omega
      · go_wp2_with fail
        go_ret
        exact ⟨rfl, HB4.out.trans (HR.out.mono HB4.out.size)⟩
end Go.Proofs.Ytofagofpeedfcaa
