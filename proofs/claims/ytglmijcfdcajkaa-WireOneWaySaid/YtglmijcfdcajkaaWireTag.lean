/- wire.Reader's Tag: contract. -/
import Derived.Test.YtglmijcfdcajkaaWireGet2
import Derived.Test.YtglmijcfdcajkaaWireLaw
import Derived.Test.YtglmijcfdcajkaaBox
import Derived.Laws.Cover3
namespace Go.Proofs.Ytglmijcfdcajkaa
open Go Go.RowKit Go.Cit

def zeros32 : List UInt8 := List.replicate 32 0
theorem tagRow : RowType Try.prog 29 32 := ⟨⟨_, Try.underlying29, rfl⟩, by kernel_rfl⟩
theorem alloc_tag (ρ : Operand → Value) (d : Option Tmp) (ty : TypeId) (ps : String) {af} (w : World) :
    (execOp ρ { dst := d, op := Op.alloc 29, type := ty, pos := ps, after := af, guard := none }).run Try.prog w = .ok (.value (.pointer (some ⟨w.heap.size, 0, none⟩))) (w.alloc (.cells (zeros32.map vb).toArray 29)) := by
  kernel_rfl
theorem tag_cells (t : List UInt8) (h : t.length = 32) : (t.map vb).toArray.size = 32 ∧ (t.map vb).toArray.all (·.oneCell') = true := by simp [h, Value.oneCell']

set_option maxRecDepth 100000 in
theorem tag_is (w : World) {a : Option Addr} {X : List UInt8} {c : Nat} (r : Row w a X c) (h : X.length = 32) :
    Calls Try.prog 72 #[.slice a X.length c] w fun e w' => e = .returned (.tuple #[.agg (X.map vb).toArray, .bool true]) ∧ Below w.heap.size w w' := by
  obtain ⟨b, o, rfl⟩ := r.spot (by intro h0; simp [h0] at h)
  have hb : Below w.heap.size w (w.alloc (.cells (zeros32.map vb).toArray 29)) := (Below.refl _ _).alloc (Nat.le_refl _) _
  have hl := Lib.hid (load_tag (w.alloc (.cells (zeros32.map vb).toArray 29)) b o X h (fun k hk => (r.stay hb).cell k hk))
  have hat : ∀ w, (Instr.arrayAt 29 (.slice (some ⟨b, o, none⟩) X.length c)).run Try.prog w = .ok (.pointer (some ⟨b, o, none⟩)) w := fun w => run_arrayAt w 29 _ 32 _ X.length c Try.underlying29 (by omega)
  have HC := Lib.hid (tag_cells X h)
  have HZ := Lib.hid (tag_cells zeros32 rfl)
  have HA := Lib.hid (fun ρ d ty ps af => alloc_tag ρ d ty ps (af := af) w)
  clear h r
  generalize (X.map vb).toArray = T at *
  generalize (zeros32.map vb).toArray = Z at *
  go_enter Try.func72, Try.ntmps72
  go_wp2_with (first | ((with_reducible refine wpList_value (o := ⟨some 2, .alloc _, _, _, _, _⟩) (by with_unfolding_all rfl) (HA.out _ _ _ _ _) ?_)) | ((with_reducible refine wpList_load_op (o := ⟨some 6, .load 29 (.tmp 5), _, _, _, _⟩) (by with_unfolding_all rfl) (by with_unfolding_all rfl) (by with_unfolding_all rfl) hl.out ?_)) | ((with_reducible refine wpList_storeB (o := ⟨none, .store 29 (.tmp 2) (.tmp 6), _, _, _, _⟩) tagRow (.tmp 2) (.tmp 6) (by with_unfolding_all rfl) (by with_unfolding_all rfl) (by with_unfolding_all rfl) (by with_unfolding_all rfl) (by with_unfolding_all rfl) (heap_alloc_new w _) HZ.out.1 HC.out.1 HC.out.2 ?_); intro w2 hb2 hS2))
  exact bodyPost_ret (resB2 tagRow rfl rfl hb2 HC.out.1) rfl ⟨rfl, hb.trans (hS2.below (by simp) (fun k hk => by omega))⟩

/-- A tag that is read; noughts where there is none. -/
def fTag (x : List UInt8) : List UInt8 × Bool := (x, true)
theorem read_tag32 (s : St) : (s.read 32 fTag zeros32).1.length = 32 := by
  unfold St.read St.next
  split
  · rename_i x s' h
    split at h
    · simp at h
    · split at h
      · rename_i h2
        simp only [Prod.mk.injEq, Option.some.injEq] at h
        rw [← h.1]; simp [fTag]; omega
      · simp at h
  · rfl

set_option maxRecDepth 100000 in
set_option maxHeartbeats 4000000 in
theorem tag_field_yes {base top w b a l c} (h : Rd base top w b a l c 0) (hn : 32 ≤ l.length) (ht : top ≤ w.heap.size) :
    Calls Try.prog 71 #[.pointer (some ⟨b, 0, none⟩), .int .i64 32, .func (.func 72) #[] #[]] w fun r w' => r = .returned (.agg ((St.read ⟨l, 0⟩ 32 fTag zeros32).1.map vb).toArray) ∧ RdAt base top w' b (St.read ⟨l, 0⟩ 32 fTag zeros32).2 ∧ Save (· ≠ b) w w' := by
  have HZ := Lib.hid (tag_cells zeros32 rfl)
  have HA := Lib.hid (fun ρ d ty ps af w => alloc_tag ρ d ty ps (af := af) w)
  obtain ⟨Z, hZ⟩ : ∃ Z, Hid (Z = (zeros32.map vb).toArray) := ⟨_, rfl⟩
  rw [← hZ.out] at HZ HA
  have hlt := h.lt
  have g1 : Below w.heap.size w (w.alloc (.cells Z 29)) := (Below.refl _ _).alloc (Nat.le_refl _) _
  have g2 : Below w.heap.size w ((w.alloc (.cells Z 29)).alloc (.cells Z 29)) := g1.alloc (by simp) _
  have k6 : ((w.alloc (.cells Z 29)).alloc (.cells Z 29)).heap[w.heap.size]? = some (.cells Z 29 (0, 0)) := (Below.heap_alloc _ _ _ (by simp)).trans (heap_alloc_new w _)
  have k7 : ((w.alloc (.cells Z 29)).alloc (.cells Z 29)).heap[w.heap.size + 1]? = some (.cells Z 29 (0, 0)) := by
    have := heap_alloc_new (w.alloc (.cells Z 29)) (.cells Z 29); simpa using this
  have H2 := h.stay g2
  have K6 := Lib.hid k6
  have K7 := Lib.hid k7
  have sz : ((w.alloc (.cells Z 29)).alloc (.cells Z 29)).heap.size = w.heap.size + 2 := by simp
  have SZ := Lib.hid sz
  clear k6 k7 g1 sz
  have rt : ∀ (L : List UInt8), L.length = 32 → (L.map vb).toArray.size = 32 ∧ (L.map vb).toArray.all (·.oneCell') = true := tag_cells
  have hk := take_yes H2 32 hn
  rw [show ((32 : Nat) : Int) = 32 from rfl] at hk
  have HR : Hid (St.read ⟨l, 0⟩ 32 fTag zeros32 = (l.take 32, ⟨l.drop 32, 0⟩)) := read_yes hn rfl
  have HN := Lib.hid hn
  clear hn
  go_enter Try.func71, Try.ntmps71
  go_wp2_with (first | ((with_reducible refine wpList_value (o := ⟨some 6, .alloc _, _, _, _, _⟩) (by with_unfolding_all rfl) (HA.out _ _ _ _ _ _) ?_)) | ((with_reducible refine wpList_value (o := ⟨some 7, .alloc _, _, _, _, _⟩) (by with_unfolding_all rfl) (HA.out _ _ _ _ _ _) ?_)))
  refine Calls.mono hk ?_
  rintro r w1 ⟨a1, X, c1, HX, rfl, r1, hR, hS⟩
  have hX : X.length = 32 := by have := HN.out; rw [HX.out, List.length_take]; omega
  have hi := tag_is w1 r1 hX
  have HC := Lib.hid (rt X hX)
  obtain ⟨T, hT⟩ : ∃ T, Hid (T = (X.map vb).toArray) := ⟨_, rfl⟩
  rw [← hT.out] at HC hi
  clear hX hk
  go_wp2_with fail
  refine Calls.mono hi ?_
  rintro r w2 ⟨rfl, hb2⟩
  have hs12 : Save (· ≠ b) _ w2 := hS.trans (Save.of hb2)
  have K6b := Lib.hid ((hs12.block w.heap.size (by rw [SZ.out]; omega) (by omega)).trans K6.out)
  have HZw : w.heap.size + 2 ≤ w2.heap.size := by have := hs12.size; rw [SZ.out] at this; exact this
  have hR2 := RdAt.stay hR hb2
  have hN10 := Lib.hid (heap_alloc_new w2 (.cells Z 29))
  have hW2 : w2.heap.size < (w2.alloc (.cells Z 29)).heap.size := by simp
  go_wp2_with (first | ((with_reducible refine wpList_value (o := ⟨some 10, .alloc _, _, _, _, _⟩) (by with_unfolding_all rfl) (HA.out _ _ _ _ _ _) ?_)) | ((with_reducible refine wpList_storeB (o := ⟨none, .store 29 (.tmp 10) (.tmp 24), _, _, _, _⟩) tagRow (.tmp 10) (.tmp 24) (by with_unfolding_all rfl) (by with_unfolding_all rfl) (by with_unfolding_all rfl) (by with_unfolding_all rfl) (by with_unfolding_all rfl) hN10.out HZ.out.1 HC.out.1 HC.out.2 ?_); intro w3 hb3 hS3; have K6c := Lib.hid ((hS3.block w.heap.size (by omega) (by omega)).trans ((Below.heap_alloc w2 _ _ (by omega)).trans K6b.out))) | ((with_reducible refine wpList_loadB (o := ⟨some 31, .load 29 (.tmp 10), _, _, _, _⟩) tagRow (.tmp 10) (by with_unfolding_all rfl) (by with_unfolding_all rfl) (by with_unfolding_all rfl) hb3 HC.out.1 ?_)) | ((with_reducible refine wpList_storeB (o := ⟨none, .store 29 (.tmp 6) (.tmp 31), _, _, _, _⟩) tagRow (.tmp 6) (.tmp 31) (by with_unfolding_all rfl) (by with_unfolding_all rfl) (by with_unfolding_all rfl) (by with_unfolding_all rfl) (by with_unfolding_all rfl) K6c.out HZ.out.1 HC.out.1 HC.out.2 ?_); intro w4 hb4 hS4))
  have hS24 : Save (fun k => k < w2.heap.size ∧ k ≠ w.heap.size) w2 w4 := (Save.alloc w2 _).trans ((hS3.less (fun k _ hk => by omega)).trans (hS4.less (fun k _ hk => hk.2)))
  refine bodyPost_ret (resB1 tagRow rfl rfl hb4 HC.out.1) rfl ⟨?_, ?_, ?_⟩
  · rw [HR.out, ← HX.out, hT.out]
  · rw [HR.out]
    exact hR2.save hS24 ⟨by omega, by omega⟩ (fun g _ hg => ⟨by omega, by omega⟩)
  · have hS5 : Save (fun k => k < w.heap.size ∧ k ≠ b) w w4 := (Save.of g2).trans ((hs12.less (fun k _ hk => hk.2)).trans (hS24.less (fun k _ hk => by omega)))
    exact hS5.less (fun k hk hkb => ⟨hk, hkb⟩)

set_option maxRecDepth 100000 in
set_option maxHeartbeats 4000000 in
theorem tag_field_no {base top w b a l c e} (h : Rd base top w b a l c e) (hno : e = 0 → (l.length : Int) < 32) (ht : top ≤ w.heap.size) :
    Calls Try.prog 71 #[.pointer (some ⟨b, 0, none⟩), .int .i64 32, .func (.func 72) #[] #[]] w fun r w' => r = .returned (.agg ((St.read ⟨l, e⟩ 32 fTag zeros32).1.map vb).toArray) ∧ RdAt base top w' b (St.read ⟨l, e⟩ 32 fTag zeros32).2 ∧ Save (· ≠ b) w w' := by
  have HZ := Lib.hid (tag_cells zeros32 rfl)
  have HA := Lib.hid (fun ρ d ty ps af w => alloc_tag ρ d ty ps (af := af) w)
  obtain ⟨Z, hZ⟩ : ∃ Z, Hid (Z = (zeros32.map vb).toArray) := ⟨_, rfl⟩
  rw [← hZ.out] at HZ HA
  have hlt := h.lt
  have g1 : Below w.heap.size w (w.alloc (.cells Z 29)) := (Below.refl _ _).alloc (Nat.le_refl _) _
  have g2 : Below w.heap.size w ((w.alloc (.cells Z 29)).alloc (.cells Z 29)) := g1.alloc (by simp) _
  have k6 : ((w.alloc (.cells Z 29)).alloc (.cells Z 29)).heap[w.heap.size]? = some (.cells Z 29 (0, 0)) := (Below.heap_alloc _ _ _ (by simp)).trans (heap_alloc_new w _)
  have k7 : ((w.alloc (.cells Z 29)).alloc (.cells Z 29)).heap[w.heap.size + 1]? = some (.cells Z 29 (0, 0)) := by
    have := heap_alloc_new (w.alloc (.cells Z 29)) (.cells Z 29); simpa using this
  have H2 := h.stay g2
  have K6 := Lib.hid k6
  have K7 := Lib.hid k7
  have sz : ((w.alloc (.cells Z 29)).alloc (.cells Z 29)).heap.size = w.heap.size + 2 := by simp
  have SZ := Lib.hid sz
  clear k6 k7 g1 sz
  have rt : ∀ (L : List UInt8), L.length = 32 → (L.map vb).toArray.size = 32 ∧ (L.map vb).toArray.all (·.oneCell') = true := tag_cells
  have hk := take_no H2 32 hno
  have HR : Hid (St.read ⟨l, e⟩ 32 fTag zeros32 = (zeros32, St.breaks ⟨l, e⟩)) := read_no (fun he => by have := hno he; omega)
  clear hno
  go_enter Try.func71, Try.ntmps71
  go_wp2_with (first | ((with_reducible refine wpList_value (o := ⟨some 6, .alloc _, _, _, _, _⟩) (by with_unfolding_all rfl) (HA.out _ _ _ _ _ _) ?_)) | ((with_reducible refine wpList_value (o := ⟨some 7, .alloc _, _, _, _, _⟩) (by with_unfolding_all rfl) (HA.out _ _ _ _ _ _) ?_)))
  refine Calls.mono hk ?_
  rintro r w1 ⟨rfl, hR, hS⟩
  have K6b := Lib.hid ((hS.block w.heap.size (by rw [SZ.out]; omega) (by omega)).trans K6.out)
  have K7b := Lib.hid ((hS.block (w.heap.size + 1) (by rw [SZ.out]; omega) (by omega)).trans K7.out)
  go_wp2_with (first | ((with_reducible refine wpList_loadB (o := ⟨some 19, .load 29 (.tmp 7), _, _, _, _⟩) tagRow (.tmp 7) (by with_unfolding_all rfl) (by with_unfolding_all rfl) (by with_unfolding_all rfl) K7b.out HZ.out.1 ?_)) | ((with_reducible refine wpList_storeB (o := ⟨none, .store 29 (.tmp 6) (.tmp 19), _, _, _, _⟩) tagRow (.tmp 6) (.tmp 19) (by with_unfolding_all rfl) (by with_unfolding_all rfl) (by with_unfolding_all rfl) (by with_unfolding_all rfl) (by with_unfolding_all rfl) K6b.out HZ.out.1 HZ.out.1 HZ.out.2 ?_); intro w4 hb4 hS4))
  have hs1 := hS.size
  rw [SZ.out] at hs1
  refine bodyPost_ret (resB1 tagRow rfl rfl hb4 HZ.out.1) rfl ⟨?_, ?_, ?_⟩
  · rw [HR.out, hZ.out]
  · rw [HR.out]
    exact hR.save hS4 (by omega) (fun g _ hg => by omega)
  · have hS5 : Save (fun k => k < w.heap.size ∧ k ≠ b) w w4 := (Save.of g2).trans ((hS.less (fun k _ hk => hk.2)).trans (hS4.less (fun k _ hk => by omega)))
    exact hS5.less (fun k hk hkb => ⟨hk, hkb⟩)
end Go.Proofs.Ytglmijcfdcajkaa
