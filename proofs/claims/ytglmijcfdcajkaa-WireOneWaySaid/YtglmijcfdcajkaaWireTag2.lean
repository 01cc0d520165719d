/- wire.Reader's method Tag: contract. -/
import Derived.Test.YtglmijcfdcajkaaWireTag
namespace Go.Proofs.Ytglmijcfdcajkaa
open Go Go.RowKit Go.Cit

set_option maxRecDepth 100000 in
set_option maxHeartbeats 4000000 in
/-- The method. -/
theorem rtag_calls {base top w b a l c e} (h : Rd base top w b a l c e) (ht : top ≤ w.heap.size) :
    Calls Try.prog 31 #[.pointer (some ⟨b, 0, none⟩)] w fun r w' => r = .returned (.agg ((St.read ⟨l, e⟩ 32 fTag zeros32).1.map vb).toArray) ∧ RdAt base top w' b (St.read ⟨l, e⟩ 32 fTag zeros32).2 ∧ Save (· ≠ b) w w' := by
  have HZ := Lib.hid (tag_cells zeros32 rfl)
  have HA := Lib.hid (fun ρ d ty ps af w => alloc_tag ρ d ty ps (af := af) w)
  obtain ⟨Z, hZ⟩ : ∃ Z, Hid (Z = (zeros32.map vb).toArray) := ⟨_, rfl⟩
  rw [← hZ.out] at HZ HA
  have hlt := h.lt
  have g1 : Below w.heap.size w (w.alloc (.cells Z 29)) := (Below.refl _ _).alloc (Nat.le_refl _) _
  have SZ : Hid ((w.alloc (.cells Z 29)).heap.size = w.heap.size + 1) := by simp [Hid]
  have K2 := Lib.hid (heap_alloc_new w (.cells Z 29))
  obtain ⟨s, hs⟩ : ∃ s, Hid (s = St.read ⟨l, e⟩ 32 fTag zeros32) := ⟨_, rfl⟩
  have hk : Calls Try.prog 71 #[.pointer (some ⟨b, 0, none⟩), .int .i64 32, .func (.func 72) #[] #[]] (w.alloc (.cells Z 29)) fun r w' => r = .returned (.agg (s.1.map vb).toArray) ∧ RdAt base top w' b s.2 ∧ Save (· ≠ b) (w.alloc (.cells Z 29)) w' := by
    rw [hs.out]
    by_cases hy : e = 0 ∧ 32 ≤ l.length
    · obtain ⟨rfl, hn⟩ := hy
      exact tag_field_yes (h.stay g1) hn (by rw [SZ.out]; omega)
    · exact tag_field_no (h.stay g1) (fun he => by have := fun h => hy ⟨he, h⟩; omega) (by rw [SZ.out]; omega)
  have HC := Lib.hid (tag_cells s.1 (by rw [hs.out]; exact read_tag32 _))
  rw [← hs.out]
  obtain ⟨T, hT⟩ : ∃ T, Hid (T = (s.1.map vb).toArray) := ⟨_, rfl⟩
  rw [← hT.out] at hk HC ⊢
  go_enter Try.func31, Try.ntmps31
  go_wp2_with ((with_reducible refine wpList_value (o := ⟨some 2, .alloc _, _, _, _, _⟩) (by with_unfolding_all rfl) (HA.out _ _ _ _ _ _) ?_))
  refine Calls.mono hk ?_
  rintro r w1 ⟨rfl, hR, hS⟩
  have hs1 := hS.size
  rw [SZ.out] at hs1
  have K2b := Lib.hid ((hS.block w.heap.size (by rw [SZ.out]; omega) (by omega)).trans K2.out)
  clear hk
  go_wp2_with ((with_reducible refine wpList_storeB (o := ⟨none, .store 29 (.tmp 2) (.tmp 4), _, _, _, _⟩) tagRow (.tmp 2) (.tmp 4) (by with_unfolding_all rfl) (by with_unfolding_all rfl) (by with_unfolding_all rfl) (by with_unfolding_all rfl) (by with_unfolding_all rfl) K2b.out HZ.out.1 HC.out.1 HC.out.2 ?_); intro w4 hb4 hS4)
  refine bodyPost_ret (resB1 tagRow rfl rfl hb4 HC.out.1) rfl ⟨rfl, ?_, ?_⟩
  · exact hR.save hS4 (by omega) (fun g _ hg => by omega)
  · have hS5 : Save (fun k => k < w.heap.size ∧ k ≠ b) w w4 := (Save.of g1).trans ((hS.less (fun k _ hk => hk.2)).trans (hS4.less (fun k _ hk => by omega)))
    exact hS5.less (fun k hk hkb => ⟨hk, hkb⟩)
end Go.Proofs.Ytglmijcfdcajkaa
