/- Readers that nobody made: the fields. Contracts. -/
import Derived.Test.YtglmijcfdcajkaaWireNo
namespace Go.Proofs.Ytglmijcfdcajkaa
open Go Go.RowKit Go.Cit

set_option maxRecDepth 100000 in
theorem nofield_byte {w p} (h : NoR w p) (n : Int) (F : Value) : Calls Try.prog 53 #[.pointer p, .int .i64 n, F] w (Zero w (vb 0)) := by
  go_enter Try.func53, Try.ntmps53
  go_wp2_with fail
  refine (notake_calls h n).mono ?_
  rintro r w1 ⟨rfl, rfl⟩
  go_wp2_with fail
  go_ret
  exact ⟨rfl, Below.refl _ _⟩
set_option maxRecDepth 100000 in
theorem nofield_int {w p} (h : NoR w p) (n : Int) (F : Value) : Calls Try.prog 62 #[.pointer p, .int .i64 n, F] w (Zero w (.int .i64 0)) := by
  go_enter Try.func62, Try.ntmps62
  go_wp2_with fail
  refine (notake_calls h n).mono ?_
  rintro r w1 ⟨rfl, rfl⟩
  go_wp2_with fail
  go_ret
  exact ⟨rfl, Below.refl _ _⟩
set_option maxRecDepth 100000 in
theorem nofield_bool {w p} (h : NoR w p) (n : Int) (F : Value) : Calls Try.prog 65 #[.pointer p, .int .i64 n, F] w (Zero w (.bool false)) := by
  go_enter Try.func65, Try.ntmps65
  go_wp2_with fail
  refine (notake_calls h n).mono ?_
  rintro r w1 ⟨rfl, rfl⟩
  go_wp2_with fail
  go_ret
  exact ⟨rfl, Below.refl _ _⟩
set_option maxRecDepth 100000 in
theorem nofield_row {w p} (h : NoR w p) (n : Int) (F : Value) : Calls Try.prog 69 #[.pointer p, .int .i64 n, F] w (Zero w (.slice none 0 0)) := by
  go_enter Try.func69, Try.ntmps69
  go_wp2_with fail
  refine (notake_calls h n).mono ?_
  rintro r w1 ⟨rfl, rfl⟩
  go_wp2_with fail
  go_ret
  exact ⟨rfl, Below.refl _ _⟩
theorem nobyte_calls {w p} (h : NoR w p) : Calls Try.prog 20 #[.pointer p] w (Zero w (vb 0)) := by
  go_enter Try.func20, Try.ntmps20
  go_wp2_with fail
  refine (nofield_byte h _ _).mono ?_
  rintro r w1 ⟨rfl, hb⟩
  go_wp2_with fail
  go_ret
  exact ⟨rfl, hb⟩
theorem noint_calls {w p} (h : NoR w p) : Calls Try.prog 27 #[.pointer p] w (Zero w (.int .i64 0)) := by
  go_enter Try.func27, Try.ntmps27
  go_wp2_with fail
  refine (nofield_int h _ _).mono ?_
  rintro r w1 ⟨rfl, hb⟩
  go_wp2_with fail
  go_ret
  exact ⟨rfl, hb⟩
theorem noflag_calls {w p} (h : NoR w p) : Calls Try.prog 28 #[.pointer p] w (Zero w (.bool false)) := by
  go_enter Try.func28, Try.ntmps28
  go_wp2_with fail
  refine (nofield_bool h _ _).mono ?_
  rintro r w1 ⟨rfl, hb⟩
  go_wp2_with fail
  go_ret
  exact ⟨rfl, hb⟩
theorem nobytes_calls {w p} (h : NoR w p) : Calls Try.prog 29 #[.pointer p] w (Zero w (.slice none 0 0)) := by
  go_enter Try.func29, Try.ntmps29
  go_wp2_with fail
  refine (nofield_int h _ _).mono ?_
  rintro r w1 ⟨rfl, hb⟩
  go_wp2_with fail
  refine (nowhole_calls (h.stay hb)).mono ?_
  rintro r w2 ⟨rfl, rfl⟩
  go_wp2_with fail
  go_ret
  exact ⟨rfl, hb⟩
theorem notext_calls {w p} (h : NoR w p) : Calls Try.prog 30 #[.pointer p] w (Zero w (.string ⟨#[]⟩)) := by
  go_enter Try.func30, Try.ntmps30
  go_wp2_with fail
  refine (nobytes_calls h).mono ?_
  rintro r w1 ⟨rfl, hb⟩
  have hs := row_string (Row.nil_ w1)
  rw [show (([] : List UInt8).length) = 0 from rfl] at hs
  go_wp2_with fail
  go_ret
  exact ⟨rfl, hb⟩
theorem nocount_calls {w p} (h : NoR w p) (most : Int) : Calls Try.prog 32 #[.pointer p, .int .i64 most] w (Zero w (.int .i64 0)) := by
  have hmf : ∀ (fn : Fn) (first cap : Array Value) (w : World), (Instr.makeFunc fn first cap).run Try.prog w = .ok (.func fn first cap) w := fun _ _ _ _ => rfl
  go_enter Try.func32, Try.ntmps32
  go_wp2_with fail
  have g2 : Below w.heap.size w ((w.alloc (.cells #[Value.pointer p] 37)).alloc (.cells #[Value.int .i64 most] 3)) := ((Below.refl _ _).alloc (Nat.le_refl _) _).alloc (by simp) _
  refine (nofield_int (h.stay g2) _ _).mono ?_
  rintro r w1 ⟨rfl, hb⟩
  go_wp2_with fail
  go_ret
  exact ⟨rfl, g2.trans (hb.mono (by simp; omega))⟩
set_option maxRecDepth 100000 in
set_option maxHeartbeats 4000000 in
theorem nofield_tag {w p} (h : NoR w p) (n : Int) (F : Value) : Calls Try.prog 71 #[.pointer p, .int .i64 n, F] w (Zero w (.agg (zeros32.map vb).toArray)) := by
  have HZ := Lib.hid (tag_cells zeros32 rfl)
  have HA := Lib.hid (fun ρ d ty ps af w => alloc_tag ρ d ty ps (af := af) w)
  obtain ⟨Z, hZ⟩ : ∃ Z, Hid (Z = (zeros32.map vb).toArray) := ⟨_, rfl⟩
  rw [← hZ.out] at HZ HA ⊢
  have g1 : Below w.heap.size w (w.alloc (.cells Z 29)) := (Below.refl _ _).alloc (Nat.le_refl _) _
  have g2 : Below w.heap.size w ((w.alloc (.cells Z 29)).alloc (.cells Z 29)) := g1.alloc (by simp) _
  have K6 := Lib.hid (show ((w.alloc (.cells Z 29)).alloc (.cells Z 29)).heap[w.heap.size]? = some (.cells Z 29 (0, 0)) from (Below.heap_alloc _ _ _ (by simp)).trans (heap_alloc_new w _))
  have K7 := Lib.hid (show ((w.alloc (.cells Z 29)).alloc (.cells Z 29)).heap[w.heap.size + 1]? = some (.cells Z 29 (0, 0)) by
    have := heap_alloc_new (w.alloc (.cells Z 29)) (.cells Z 29); simpa using this)
  have hk := notake_calls (h.stay g2) n
  have SZ : Hid (((w.alloc (.cells Z 29)).alloc (.cells Z 29)).heap.size = w.heap.size + 2) := by simp [Hid]
  go_enter Try.func71, Try.ntmps71
  go_wp2_with (first | ((with_reducible refine wpList_value (o := ⟨some 6, .alloc _, _, _, _, _⟩) (by with_unfolding_all rfl) (HA.out _ _ _ _ _ _) ?_)) | ((with_reducible refine wpList_value (o := ⟨some 7, .alloc _, _, _, _, _⟩) (by with_unfolding_all rfl) (HA.out _ _ _ _ _ _) ?_)))
  refine Calls.mono hk ?_
  rintro r w1 ⟨rfl, rfl⟩
  go_wp2_with (first | ((with_reducible refine wpList_loadB (o := ⟨some 19, .load 29 (.tmp 7), _, _, _, _⟩) tagRow (.tmp 7) (by with_unfolding_all rfl) (by with_unfolding_all rfl) (by with_unfolding_all rfl) K7.out HZ.out.1 ?_)) | ((with_reducible refine wpList_storeB (o := ⟨none, .store 29 (.tmp 6) (.tmp 19), _, _, _, _⟩) tagRow (.tmp 6) (.tmp 19) (by with_unfolding_all rfl) (by with_unfolding_all rfl) (by with_unfolding_all rfl) (by with_unfolding_all rfl) (by with_unfolding_all rfl) K6.out HZ.out.1 HZ.out.1 HZ.out.2 ?_); intro w4 hb4 hS4))
  have s0 := SZ.out
  refine bodyPost_ret (resB1 tagRow rfl rfl hb4 HZ.out.1) rfl ⟨rfl, g2.trans (hS4.below (by omega) (fun k hk => by omega))⟩
set_option maxRecDepth 100000 in
set_option maxHeartbeats 4000000 in
theorem notag_calls {w p} (h : NoR w p) : Calls Try.prog 31 #[.pointer p] w (Zero w (.agg (zeros32.map vb).toArray)) := by
  have HZ := Lib.hid (tag_cells zeros32 rfl)
  have HA := Lib.hid (fun ρ d ty ps af w => alloc_tag ρ d ty ps (af := af) w)
  have hf : ∀ {w p}, NoR w p → ∀ n F, Calls Try.prog 71 #[.pointer p, .int .i64 n, F] w (Zero w (.agg (zeros32.map vb).toArray)) := fun h n F => nofield_tag h n F
  obtain ⟨Z, hZ⟩ : ∃ Z, Hid (Z = (zeros32.map vb).toArray) := ⟨_, rfl⟩
  rw [← hZ.out] at HZ HA hf ⊢
  have g1 : Below w.heap.size w (w.alloc (.cells Z 29)) := (Below.refl _ _).alloc (Nat.le_refl _) _
  have K2 := Lib.hid (heap_alloc_new w (.cells Z 29))
  have hk := hf (h.stay g1) 32 (.func (.func 72) #[] #[])
  have SZ : Hid ((w.alloc (.cells Z 29)).heap.size = w.heap.size + 1) := by simp [Hid]
  go_enter Try.func31, Try.ntmps31
  go_wp2_with ((with_reducible refine wpList_value (o := ⟨some 2, .alloc _, _, _, _, _⟩) (by with_unfolding_all rfl) (HA.out _ _ _ _ _ _) ?_))
  refine Calls.mono hk ?_
  rintro r w1 ⟨rfl, hb⟩
  have hs1 := hb.size
  rw [SZ.out] at hs1
  have K2b := Lib.hid ((hb.block w.heap.size (by rw [SZ.out]; omega)).trans K2.out)
  clear hk
  go_wp2_with ((with_reducible refine wpList_storeB (o := ⟨none, .store 29 (.tmp 2) (.tmp 4), _, _, _, _⟩) tagRow (.tmp 2) (.tmp 4) (by with_unfolding_all rfl) (by with_unfolding_all rfl) (by with_unfolding_all rfl) (by with_unfolding_all rfl) (by with_unfolding_all rfl) K2b.out HZ.out.1 HZ.out.1 HZ.out.2 ?_); intro w4 hb4 hS4)
  refine bodyPost_ret (resB1 tagRow rfl rfl hb4 HZ.out.1) rfl ⟨rfl, (g1.trans (hb.mono (by rw [SZ.out]; omega))).trans (hS4.below (by omega) (fun k hk => by omega))⟩
end Go.Proofs.Ytglmijcfdcajkaa
