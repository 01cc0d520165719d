/- The wire laws' 'taken': is a field taken of a reader as it was added? Contract. -/
import Derived.Test.YtglmijcfdcajkaaWireTag2
import Derived.Test.YtglmijcfdcajkaaWirePut
import Derived.Test.YtglmijcfdcajkaaOne
import Derived.Stop.BytesEq
namespace Go.Proofs.Ytglmijcfdcajkaa
open Go Go.RowKit Go.Cit

theorem eql_u8 {x y : Operand} (s t : UInt8) (w : World) : (do eqGuard .eql 5 x y (vb s) (vb t); binOp .eql 5 (vb s) (vb t) : Sem Value).run Try.prog w = .ok (.bool (s == t)) w := by
  go_simp
theorem eql_int {x y : Operand} (s t : Int) (w : World) : (do eqGuard .eql 3 x y (.int .i64 s) (.int .i64 t); binOp .eql 3 (.int .i64 s) (.int .i64 t) : Sem Value).run Try.prog w = .ok (.bool (s == t)) w := by
  go_simp
theorem eql_bool {x y : Operand} (s t : Bool) (w : World) : (do eqGuard .eql 4 x y (.bool s) (.bool t); binOp .eql 4 (.bool s) (.bool t) : Sem Value).run Try.prog w = .ok (.bool (s == t)) w := by
  go_simp
theorem eql_str {x y : Operand} (s t : List UInt8) (w : World) : (do eqGuard .eql 9 x y (.string ⟨s.toArray⟩) (.string ⟨t.toArray⟩); binOp .eql 9 (.string ⟨s.toArray⟩) (.string ⟨t.toArray⟩) : Sem Value).run Try.prog w = .ok (.bool (s == t)) w := by
  go_simp
set_option maxRecDepth 100000 in
theorem eql_tag {x y : Operand} (s t : List UInt8) (hs : s.length = 32) (ht : t.length = 32) (w : World) : (do eqGuard .eql 29 x y (.agg (s.map vb).toArray) (.agg (t.map vb).toArray); binOp .eql 29 (.agg (s.map vb).toArray) (.agg (t.map vb).toArray) : Sem Value).run Try.prog w = .ok (.bool (s == t)) w := by
  have hg := run_eqGuard_agg (P := Try.prog) w .eql 29 x y (s.map vb).toArray (t.map vb).toArray (by kernel_rfl)
  have he := run_eql_bytes (P := Try.prog) w 29 5 32 Try.underlying29 Try.underlying5 (by intro w; kernel_rfl) s t hs ht
  rw [Sem.run_bind, hg]
  exact he

def taken0T (b g : Nat) (f : Fl) (s : UInt8 × St) : Nat → Value → World → Prop
  | 9, v, _ => v = .pointer (some ⟨b, 0, none⟩)
  | 10, v, _ => v = vb s.1
  | 11, v, _ => v = .pointer (some ⟨g, 1, none⟩)
  | 12, v, _ => v = vb f.x
  | _, v, _ => v = .bool (s.1 == f.x)
set_option maxRecDepth 100000 in
set_option maxHeartbeats 1000000 in
theorem taken0_calls {base top w b a l c e} (h : Rd base top w b a l c e) (f : Fl) (_hf : f.At w) (hk : f.what = 0) :
    Calls Try.prog 38 #[.pointer (some ⟨b, 0, none⟩), .agg f.cs.toArray] w fun r w' => r = .returned (.bool ((St.read ⟨l, e⟩ 1 fByte 0).1 == f.x)) ∧ RdAt base top w' b (St.read ⟨l, e⟩ 1 fByte 0).2 ∧ Save (· ≠ b) w w' := by
  have hb0 : Below w.heap.size w (w.alloc (.cells f.cs.toArray 31)) := (Below.refl _ _).alloc (Nat.le_refl _) _
  have B := boxes_new w f 31
  have c0 := B.c0
  have cf := B.c1
  simp only [Nat.zero_add] at c0 cf
  have H0 := h.stay hb0
  have hlt := h.lt
  have g : (f.what == 0) = true ∧ (f.what == 1) = false ∧ (f.what == 2) = false ∧ (f.what == 3) = false ∧ (f.what == 4) = false ∧ (f.what == 5) = false := by simp [hk]
  obtain ⟨g0, g1, g2, g3, g4, g5⟩ := g
  have HK := Lib.hid hk
  obtain ⟨s, hs⟩ : ∃ s, Hid (s = (St.read ⟨l, e⟩ 1 fByte 0)) := ⟨_, rfl⟩
  have hcall : ∀ {wx}, w.heap.size ≤ wx.heap.size → Rd base top wx b a l c e → Calls Try.prog 20 #[.pointer (some ⟨b, 0, none⟩)] wx fun r w' => r = .returned (vb s.1) ∧ RdAt base top w' b s.2 ∧ Save (· ≠ b) wx w' := fun _hz hR => by rw [hs.out]; exact rbyte_calls hR
  clear hk B
  go_enter Try.func38, Try.ntmps38
  rw [← hs.out]
  generalize f.cs.toArray = C at *
  go_wp2_with fail
  obtain ⟨W, hW⟩ : ∃ W, Hid (W = w.alloc (.cells C 31)) := ⟨_, rfl⟩
  rw [← hW.out] at H0 c0 cf hb0 ⊢
  have hzW := hb0.size
  have hcf : ∀ {wx}, Save (· ≠ b) W wx → wx.cell? ⟨w.heap.size, 1, none⟩ = some (vb f.x) := fun hS => (hS.cell (p := ⟨w.heap.size, 1, none⟩) (World.block_lt_of_cell? W _ cf) (show w.heap.size ≠ b by omega)).trans cf
  refine wp_region_one 1 (fun wx => Save (· ≠ b) W wx ∧ Rd base top wx b a l c e) (fun wx => Save (· ≠ b) W wx ∧ RdAt base top wx b s.2) (taken0T b w.heap.size f s) (fun d => decide (d = 9 ∨ d = 11 ∨ d = 12)) (by kernel_rfl) (by kernel_rfl) (by kernel_rfl) (by decide) ?_ ?_ ?_ ?_
  · intro w' hb hh
    exact ⟨Save.of hb, H0.stay hb⟩
  · intro d v wx w' hd hT
    simp only [decide_eq_true_eq] at hd
    rcases hd with rfl | rfl | rfl <;> exact hT
  · refine opsAll_cons ?_ (opsAll_cons ?_ (opsAll_cons ?_ (opsAll_cons ?_ (opsAll_cons ?_ (opsAll_cons ?_ opsAll_nil)))))
    all_goals intro wa wx hk
    · exact ⟨wanted_free rfl, gp_move (.tmp 0) rfl ⟨⟨fun h => absurd h (by decide), fun _ => rfl⟩, hk.old 0 (by kernel_rfl)⟩⟩
    · obtain ⟨hS, hR⟩ := hk.now rfl
      refine ⟨wanted_free rfl, gp_call rfl (hk.fn _) #[.pointer (some ⟨b, 0, none⟩)] (fun w => by kernel_rfl) (by simp [show wa.eval (.tmp 9) = _ from hk.slot 9 (by kernel_rfl)]) ((hcall (Nat.le_trans hzW hS.size) hR).mono ?_)⟩
      rintro r w' ⟨he, hR', hS'⟩
      exact ⟨_, he, ⟨fun _ => ⟨hS.trans hS', hR'⟩, fun h => absurd rfl h⟩, rfl⟩
    · have e3 : wa.eval (.tmp 3) = .pointer (some ⟨w.heap.size, 0, none⟩) := hk.old 3 (by kernel_rfl)
      exact ⟨wanted_free rfl, gp_field (.tmp 3) rfl e3 (fun w => by kernel_rfl) ⟨⟨fun h => absurd h (by decide), fun _ => rfl⟩, rfl⟩⟩
    · have hS : Save (· ≠ b) W wx := hk.ab.elim (·.1) (·.1)
      have hc := hcf hS
      exact ⟨wanted_free rfl, gp_load (.tmp 11) rfl (hk.slot 11 (by kernel_rfl)) (by simp [go_sem, hc]) ⟨⟨fun h => absurd h (by decide), fun _ => rfl⟩, rfl⟩⟩
    · exact ⟨wanted_free rfl, gp_bin rfl (hk.slot 10 (by kernel_rfl)) (hk.slot 12 (by kernel_rfl)) (eql_u8 _ _) ⟨⟨fun h => absurd h (by decide), fun _ => rfl⟩, rfl⟩⟩
    · exact ⟨wanted_free rfl, gp_assign (.tmp 13) rfl ⟨⟨fun h => absurd h (by decide), fun _ => rfl⟩, hk.slot 13 (by kernel_rfl)⟩⟩
  · intro wa wx hB hsame hT
    have he := act_same hsame [9, 10, 11, 12, 13, 4] (by kernel_rfl)
    simp only [List.foldl_cons, List.foldl_nil] at he
    rw [show wa.eval (.tmp 9) = _ from hT 9 (by kernel_rfl), show wa.eval (.tmp 10) = _ from hT 10 (by kernel_rfl), show wa.eval (.tmp 11) = _ from hT 11 (by kernel_rfl), show wa.eval (.tmp 12) = _ from hT 12 (by kernel_rfl), show wa.eval (.tmp 13) = _ from hT 13 (by kernel_rfl), show wa.eval (.tmp 4) = _ from hT 4 (by kernel_rfl)] at he
    subst he
    clear hT hsame
    obtain ⟨hB1, hB2⟩ := hB
    go_wp2_with fail
    go_ret
    exact ⟨congrArg Ending.returned (put_getD_same _ 4 _ (by simp only [put_size]; simp)), hB2, (Save.of hb0).trans hB1⟩

def taken1T (b g : Nat) (f : Fl) (s : Int × St) : Nat → Value → World → Prop
  | 16, v, _ => v = .pointer (some ⟨b, 0, none⟩)
  | 17, v, _ => v = .int .i64 s.1
  | 18, v, _ => v = .pointer (some ⟨g, 2, none⟩)
  | 19, v, _ => v = .int .i64 f.n
  | _, v, _ => v = .bool (s.1 == f.n)
set_option maxRecDepth 100000 in
set_option maxHeartbeats 1000000 in
theorem taken1_calls {base top w b a l c e} (h : Rd base top w b a l c e) (f : Fl) (_hf : f.At w) (hk : f.what = 1) :
    Calls Try.prog 38 #[.pointer (some ⟨b, 0, none⟩), .agg f.cs.toArray] w fun r w' => r = .returned (.bool ((St.read ⟨l, e⟩ 8 fInt 0).1 == f.n)) ∧ RdAt base top w' b (St.read ⟨l, e⟩ 8 fInt 0).2 ∧ Save (· ≠ b) w w' := by
  have hb0 : Below w.heap.size w (w.alloc (.cells f.cs.toArray 31)) := (Below.refl _ _).alloc (Nat.le_refl _) _
  have B := boxes_new w f 31
  have c0 := B.c0
  have cf := B.c2
  simp only [Nat.zero_add] at c0 cf
  have H0 := h.stay hb0
  have hlt := h.lt
  have g : (f.what == 0) = false ∧ (f.what == 1) = true ∧ (f.what == 2) = false ∧ (f.what == 3) = false ∧ (f.what == 4) = false ∧ (f.what == 5) = false := by simp [hk]
  obtain ⟨g0, g1, g2, g3, g4, g5⟩ := g
  have HK := Lib.hid hk
  obtain ⟨s, hs⟩ : ∃ s, Hid (s = (St.read ⟨l, e⟩ 8 fInt 0)) := ⟨_, rfl⟩
  have hcall : ∀ {wx}, w.heap.size ≤ wx.heap.size → Rd base top wx b a l c e → Calls Try.prog 27 #[.pointer (some ⟨b, 0, none⟩)] wx fun r w' => r = .returned (.int .i64 s.1) ∧ RdAt base top w' b s.2 ∧ Save (· ≠ b) wx w' := fun _hz hR => by rw [hs.out]; exact rint_calls hR
  clear hk B
  go_enter Try.func38, Try.ntmps38
  rw [← hs.out]
  generalize f.cs.toArray = C at *
  go_wp2_with fail
  obtain ⟨W, hW⟩ : ∃ W, Hid (W = w.alloc (.cells C 31)) := ⟨_, rfl⟩
  rw [← hW.out] at H0 c0 cf hb0 ⊢
  have hzW := hb0.size
  have hcf : ∀ {wx}, Save (· ≠ b) W wx → wx.cell? ⟨w.heap.size, 2, none⟩ = some (.int .i64 f.n) := fun hS => (hS.cell (p := ⟨w.heap.size, 2, none⟩) (World.block_lt_of_cell? W _ cf) (show w.heap.size ≠ b by omega)).trans cf
  refine wp_region_one 1 (fun wx => Save (· ≠ b) W wx ∧ Rd base top wx b a l c e) (fun wx => Save (· ≠ b) W wx ∧ RdAt base top wx b s.2) (taken1T b w.heap.size f s) (fun d => decide (d = 16 ∨ d = 18 ∨ d = 19)) (by kernel_rfl) (by kernel_rfl) (by kernel_rfl) (by decide) ?_ ?_ ?_ ?_
  · intro w' hb hh
    exact ⟨Save.of hb, H0.stay hb⟩
  · intro d v wx w' hd hT
    simp only [decide_eq_true_eq] at hd
    rcases hd with rfl | rfl | rfl <;> exact hT
  · refine opsAll_cons ?_ (opsAll_cons ?_ (opsAll_cons ?_ (opsAll_cons ?_ (opsAll_cons ?_ (opsAll_cons ?_ opsAll_nil)))))
    all_goals intro wa wx hk
    · exact ⟨wanted_free rfl, gp_move (.tmp 0) rfl ⟨⟨fun h => absurd h (by decide), fun _ => rfl⟩, hk.old 0 (by kernel_rfl)⟩⟩
    · obtain ⟨hS, hR⟩ := hk.now rfl
      refine ⟨wanted_free rfl, gp_call rfl (hk.fn _) #[.pointer (some ⟨b, 0, none⟩)] (fun w => by kernel_rfl) (by simp [show wa.eval (.tmp 16) = _ from hk.slot 16 (by kernel_rfl)]) ((hcall (Nat.le_trans hzW hS.size) hR).mono ?_)⟩
      rintro r w' ⟨he, hR', hS'⟩
      exact ⟨_, he, ⟨fun _ => ⟨hS.trans hS', hR'⟩, fun h => absurd rfl h⟩, rfl⟩
    · have e3 : wa.eval (.tmp 3) = .pointer (some ⟨w.heap.size, 0, none⟩) := hk.old 3 (by kernel_rfl)
      exact ⟨wanted_free rfl, gp_field (.tmp 3) rfl e3 (fun w => by kernel_rfl) ⟨⟨fun h => absurd h (by decide), fun _ => rfl⟩, rfl⟩⟩
    · have hS : Save (· ≠ b) W wx := hk.ab.elim (·.1) (·.1)
      have hc := hcf hS
      exact ⟨wanted_free rfl, gp_load (.tmp 18) rfl (hk.slot 18 (by kernel_rfl)) (by simp [go_sem, hc]) ⟨⟨fun h => absurd h (by decide), fun _ => rfl⟩, rfl⟩⟩
    · exact ⟨wanted_free rfl, gp_bin rfl (hk.slot 17 (by kernel_rfl)) (hk.slot 19 (by kernel_rfl)) (eql_int _ _) ⟨⟨fun h => absurd h (by decide), fun _ => rfl⟩, rfl⟩⟩
    · exact ⟨wanted_free rfl, gp_assign (.tmp 20) rfl ⟨⟨fun h => absurd h (by decide), fun _ => rfl⟩, hk.slot 20 (by kernel_rfl)⟩⟩
  · intro wa wx hB hsame hT
    have he := act_same hsame [16, 17, 18, 19, 20, 4] (by kernel_rfl)
    simp only [List.foldl_cons, List.foldl_nil] at he
    rw [show wa.eval (.tmp 16) = _ from hT 16 (by kernel_rfl), show wa.eval (.tmp 17) = _ from hT 17 (by kernel_rfl), show wa.eval (.tmp 18) = _ from hT 18 (by kernel_rfl), show wa.eval (.tmp 19) = _ from hT 19 (by kernel_rfl), show wa.eval (.tmp 20) = _ from hT 20 (by kernel_rfl), show wa.eval (.tmp 4) = _ from hT 4 (by kernel_rfl)] at he
    subst he
    clear hT hsame
    obtain ⟨hB1, hB2⟩ := hB
    go_wp2_with fail
    go_ret
    exact ⟨congrArg Ending.returned (put_getD_same _ 4 _ (by simp only [put_size]; simp)), hB2, (Save.of hb0).trans hB1⟩

def taken2T (b g : Nat) (f : Fl) (s : Bool × St) : Nat → Value → World → Prop
  | 23, v, _ => v = .pointer (some ⟨b, 0, none⟩)
  | 24, v, _ => v = .bool s.1
  | 25, v, _ => v = .pointer (some ⟨g, 3, none⟩)
  | 26, v, _ => v = .bool f.is
  | _, v, _ => v = .bool (s.1 == f.is)
set_option maxRecDepth 100000 in
set_option maxHeartbeats 1000000 in
theorem taken2_calls {base top w b a l c e} (h : Rd base top w b a l c e) (f : Fl) (_hf : f.At w) (hk : f.what = 2) :
    Calls Try.prog 38 #[.pointer (some ⟨b, 0, none⟩), .agg f.cs.toArray] w fun r w' => r = .returned (.bool ((St.read ⟨l, e⟩ 1 fFlag false).1 == f.is)) ∧ RdAt base top w' b (St.read ⟨l, e⟩ 1 fFlag false).2 ∧ Save (· ≠ b) w w' := by
  have hb0 : Below w.heap.size w (w.alloc (.cells f.cs.toArray 31)) := (Below.refl _ _).alloc (Nat.le_refl _) _
  have B := boxes_new w f 31
  have c0 := B.c0
  have cf := B.c3
  simp only [Nat.zero_add] at c0 cf
  have H0 := h.stay hb0
  have hlt := h.lt
  have g : (f.what == 0) = false ∧ (f.what == 1) = false ∧ (f.what == 2) = true ∧ (f.what == 3) = false ∧ (f.what == 4) = false ∧ (f.what == 5) = false := by simp [hk]
  obtain ⟨g0, g1, g2, g3, g4, g5⟩ := g
  have HK := Lib.hid hk
  obtain ⟨s, hs⟩ : ∃ s, Hid (s = (St.read ⟨l, e⟩ 1 fFlag false)) := ⟨_, rfl⟩
  have hcall : ∀ {wx}, w.heap.size ≤ wx.heap.size → Rd base top wx b a l c e → Calls Try.prog 28 #[.pointer (some ⟨b, 0, none⟩)] wx fun r w' => r = .returned (.bool s.1) ∧ RdAt base top w' b s.2 ∧ Save (· ≠ b) wx w' := fun _hz hR => by rw [hs.out]; exact rflag_calls hR
  clear hk B
  go_enter Try.func38, Try.ntmps38
  rw [← hs.out]
  generalize f.cs.toArray = C at *
  go_wp2_with fail
  obtain ⟨W, hW⟩ : ∃ W, Hid (W = w.alloc (.cells C 31)) := ⟨_, rfl⟩
  rw [← hW.out] at H0 c0 cf hb0 ⊢
  have hzW := hb0.size
  have hcf : ∀ {wx}, Save (· ≠ b) W wx → wx.cell? ⟨w.heap.size, 3, none⟩ = some (.bool f.is) := fun hS => (hS.cell (p := ⟨w.heap.size, 3, none⟩) (World.block_lt_of_cell? W _ cf) (show w.heap.size ≠ b by omega)).trans cf
  refine wp_region_one 1 (fun wx => Save (· ≠ b) W wx ∧ Rd base top wx b a l c e) (fun wx => Save (· ≠ b) W wx ∧ RdAt base top wx b s.2) (taken2T b w.heap.size f s) (fun d => decide (d = 23 ∨ d = 25 ∨ d = 26)) (by kernel_rfl) (by kernel_rfl) (by kernel_rfl) (by decide) ?_ ?_ ?_ ?_
  · intro w' hb hh
    exact ⟨Save.of hb, H0.stay hb⟩
  · intro d v wx w' hd hT
    simp only [decide_eq_true_eq] at hd
    rcases hd with rfl | rfl | rfl <;> exact hT
  · refine opsAll_cons ?_ (opsAll_cons ?_ (opsAll_cons ?_ (opsAll_cons ?_ (opsAll_cons ?_ (opsAll_cons ?_ opsAll_nil)))))
    all_goals intro wa wx hk
    · exact ⟨wanted_free rfl, gp_move (.tmp 0) rfl ⟨⟨fun h => absurd h (by decide), fun _ => rfl⟩, hk.old 0 (by kernel_rfl)⟩⟩
    · obtain ⟨hS, hR⟩ := hk.now rfl
      refine ⟨wanted_free rfl, gp_call rfl (hk.fn _) #[.pointer (some ⟨b, 0, none⟩)] (fun w => by kernel_rfl) (by simp [show wa.eval (.tmp 23) = _ from hk.slot 23 (by kernel_rfl)]) ((hcall (Nat.le_trans hzW hS.size) hR).mono ?_)⟩
      rintro r w' ⟨he, hR', hS'⟩
      exact ⟨_, he, ⟨fun _ => ⟨hS.trans hS', hR'⟩, fun h => absurd rfl h⟩, rfl⟩
    · have e3 : wa.eval (.tmp 3) = .pointer (some ⟨w.heap.size, 0, none⟩) := hk.old 3 (by kernel_rfl)
      exact ⟨wanted_free rfl, gp_field (.tmp 3) rfl e3 (fun w => by kernel_rfl) ⟨⟨fun h => absurd h (by decide), fun _ => rfl⟩, rfl⟩⟩
    · have hS : Save (· ≠ b) W wx := hk.ab.elim (·.1) (·.1)
      have hc := hcf hS
      exact ⟨wanted_free rfl, gp_load (.tmp 25) rfl (hk.slot 25 (by kernel_rfl)) (by simp [go_sem, hc]) ⟨⟨fun h => absurd h (by decide), fun _ => rfl⟩, rfl⟩⟩
    · exact ⟨wanted_free rfl, gp_bin rfl (hk.slot 24 (by kernel_rfl)) (hk.slot 26 (by kernel_rfl)) (eql_bool _ _) ⟨⟨fun h => absurd h (by decide), fun _ => rfl⟩, rfl⟩⟩
    · exact ⟨wanted_free rfl, gp_assign (.tmp 27) rfl ⟨⟨fun h => absurd h (by decide), fun _ => rfl⟩, hk.slot 27 (by kernel_rfl)⟩⟩
  · intro wa wx hB hsame hT
    have he := act_same hsame [23, 24, 25, 26, 27, 4] (by kernel_rfl)
    simp only [List.foldl_cons, List.foldl_nil] at he
    rw [show wa.eval (.tmp 23) = _ from hT 23 (by kernel_rfl), show wa.eval (.tmp 24) = _ from hT 24 (by kernel_rfl), show wa.eval (.tmp 25) = _ from hT 25 (by kernel_rfl), show wa.eval (.tmp 26) = _ from hT 26 (by kernel_rfl), show wa.eval (.tmp 27) = _ from hT 27 (by kernel_rfl), show wa.eval (.tmp 4) = _ from hT 4 (by kernel_rfl)] at he
    subst he
    clear hT hsame
    obtain ⟨hB1, hB2⟩ := hB
    go_wp2_with fail
    go_ret
    exact ⟨congrArg Ending.returned (put_getD_same _ 4 _ (by simp only [put_size]; simp)), hB2, (Save.of hb0).trans hB1⟩

def taken5T (b g : Nat) (f : Fl) (s : List UInt8 × St) : Nat → Value → World → Prop
  | 45, v, _ => v = .pointer (some ⟨b, 0, none⟩)
  | 46, v, _ => v = .agg (s.1.map vb).toArray
  | 47, v, _ => v = .pointer (some ⟨g, 5, none⟩)
  | 48, v, _ => v = .agg (f.t.map vb).toArray
  | _, v, _ => v = .bool (s.1 == f.t)
set_option maxRecDepth 100000 in
set_option maxHeartbeats 1000000 in
theorem taken5_calls {base top w b a l c e} (h : Rd base top w b a l c e) (f : Fl) (hf : f.At w) (hk : f.what = 5) (ht : top ≤ w.heap.size) :
    Calls Try.prog 38 #[.pointer (some ⟨b, 0, none⟩), .agg f.cs.toArray] w fun r w' => r = .returned (.bool ((St.read ⟨l, e⟩ 32 fTag zeros32).1 == f.t)) ∧ RdAt base top w' b (St.read ⟨l, e⟩ 32 fTag zeros32).2 ∧ Save (· ≠ b) w w' := by
  have hb0 : Below w.heap.size w (w.alloc (.cells f.cs.toArray 31)) := (Below.refl _ _).alloc (Nat.le_refl _) _
  have B := boxes_new w f 31
  have c0 := B.c0
  have cf := B.ct
  simp only [Nat.zero_add] at c0 cf
  have H0 := h.stay hb0
  have hlt := h.lt
  have g : (f.what == 0) = false ∧ (f.what == 1) = false ∧ (f.what == 2) = false ∧ (f.what == 3) = false ∧ (f.what == 4) = false ∧ (f.what == 5) = true := by simp [hk]
  obtain ⟨g0, g1, g2, g3, g4, g5⟩ := g
  have HK := Lib.hid hk
  obtain ⟨s, hs⟩ : ∃ s, Hid (s = (St.read ⟨l, e⟩ 32 fTag zeros32)) := ⟨_, rfl⟩
  have hcall : ∀ {wx}, w.heap.size ≤ wx.heap.size → Rd base top wx b a l c e → Calls Try.prog 31 #[.pointer (some ⟨b, 0, none⟩)] wx fun r w' => r = .returned (.agg (s.1.map vb).toArray) ∧ RdAt base top w' b s.2 ∧ Save (· ≠ b) wx w' := fun _hz hR => by rw [hs.out]; exact rtag_calls hR (Nat.le_trans ht _hz)
  clear hk B
  go_enter Try.func38, Try.ntmps38
  rw [← hs.out]
  generalize f.cs.toArray = C at *
  go_wp2_with fail
  obtain ⟨W, hW⟩ : ∃ W, Hid (W = w.alloc (.cells C 31)) := ⟨_, rfl⟩
  rw [← hW.out] at H0 c0 cf hb0 ⊢
  have hzW := hb0.size
  have hcf : ∀ {wx}, Save (· ≠ b) W wx → (Instr.loadAt 29 (.pointer (some ⟨w.heap.size, 5, none⟩))).run Try.prog wx = .ok (.agg (f.t.map vb).toArray) wx := fun hS => load_tag _ w.heap.size 5 f.t hf.t32 (fun k hk => by
    have ck := cf k hk
    exact (hS.cell (p := ⟨w.heap.size, 5 + k, none⟩) (World.block_lt_of_cell? W _ ck) (show w.heap.size ≠ b by omega)).trans ck)
  have hs32 : s.1.length = 32 := by rw [hs.out]; exact read_tag32 _
  refine wp_region_one 1 (fun wx => Save (· ≠ b) W wx ∧ Rd base top wx b a l c e) (fun wx => Save (· ≠ b) W wx ∧ RdAt base top wx b s.2) (taken5T b w.heap.size f s) (fun d => decide (d = 45 ∨ d = 47 ∨ d = 48)) (by kernel_rfl) (by kernel_rfl) (by kernel_rfl) (by decide) ?_ ?_ ?_ ?_
  · intro w' hb hh
    exact ⟨Save.of hb, H0.stay hb⟩
  · intro d v wx w' hd hT
    simp only [decide_eq_true_eq] at hd
    rcases hd with rfl | rfl | rfl <;> exact hT
  · refine opsAll_cons ?_ (opsAll_cons ?_ (opsAll_cons ?_ (opsAll_cons ?_ (opsAll_cons ?_ (opsAll_cons ?_ opsAll_nil)))))
    all_goals intro wa wx hk
    · exact ⟨wanted_free rfl, gp_move (.tmp 0) rfl ⟨⟨fun h => absurd h (by decide), fun _ => rfl⟩, hk.old 0 (by kernel_rfl)⟩⟩
    · obtain ⟨hS, hR⟩ := hk.now rfl
      refine ⟨wanted_free rfl, gp_call rfl (hk.fn _) #[.pointer (some ⟨b, 0, none⟩)] (fun w => by kernel_rfl) (by simp [show wa.eval (.tmp 45) = _ from hk.slot 45 (by kernel_rfl)]) ((hcall (Nat.le_trans hzW hS.size) hR).mono ?_)⟩
      rintro r w' ⟨he, hR', hS'⟩
      exact ⟨_, he, ⟨fun _ => ⟨hS.trans hS', hR'⟩, fun h => absurd rfl h⟩, rfl⟩
    · have e3 : wa.eval (.tmp 3) = .pointer (some ⟨w.heap.size, 0, none⟩) := hk.old 3 (by kernel_rfl)
      exact ⟨wanted_free rfl, gp_field (.tmp 3) rfl e3 (fun w => by kernel_rfl) ⟨⟨fun h => absurd h (by decide), fun _ => rfl⟩, rfl⟩⟩
    · have hS : Save (· ≠ b) W wx := hk.ab.elim (·.1) (·.1)
      have hc := hcf hS
      exact ⟨wanted_free rfl, gp_load (.tmp 47) rfl (hk.slot 47 (by kernel_rfl)) hc ⟨⟨fun h => absurd h (by decide), fun _ => rfl⟩, rfl⟩⟩
    · exact ⟨wanted_free rfl, gp_bin rfl (hk.slot 46 (by kernel_rfl)) (hk.slot 48 (by kernel_rfl)) (eql_tag _ _ hs32 hf.t32) ⟨⟨fun h => absurd h (by decide), fun _ => rfl⟩, rfl⟩⟩
    · exact ⟨wanted_free rfl, gp_assign (.tmp 49) rfl ⟨⟨fun h => absurd h (by decide), fun _ => rfl⟩, hk.slot 49 (by kernel_rfl)⟩⟩
  · intro wa wx hB hsame hT
    have he := act_same hsame [45, 46, 47, 48, 49, 4] (by kernel_rfl)
    simp only [List.foldl_cons, List.foldl_nil] at he
    rw [show wa.eval (.tmp 45) = _ from hT 45 (by kernel_rfl), show wa.eval (.tmp 46) = _ from hT 46 (by kernel_rfl), show wa.eval (.tmp 47) = _ from hT 47 (by kernel_rfl), show wa.eval (.tmp 48) = _ from hT 48 (by kernel_rfl), show wa.eval (.tmp 49) = _ from hT 49 (by kernel_rfl), show wa.eval (.tmp 4) = _ from hT 4 (by kernel_rfl)] at he
    subst he
    clear hT hsame
    obtain ⟨hB1, hB2⟩ := hB
    go_wp2_with fail
    go_ret
    exact ⟨congrArg Ending.returned (put_getD_same _ 4 _ (by simp only [put_size]; simp)), hB2, (Save.of hb0).trans hB1⟩

def taken3T (b g : Nat) (f : Fl) (s : List UInt8 × St) : Nat → Value → World → Prop
  | 30, v, _ => v = .pointer (some ⟨b, 0, none⟩)
  | 31, v, wx => ∃ a' X c', Hid (X = s.1) ∧ v = .slice a' X.length c' ∧ Row wx a' X c'
  | 32, v, _ => v = .pointer (some ⟨g, 4, none⟩)
  | 33, v, _ => v = .slice f.a f.l.length f.c
  | _, v, _ => v = .bool (s.1 == f.l)
set_option maxRecDepth 100000 in
set_option maxHeartbeats 1000000 in
theorem taken3_calls {base top w b a l c e} (h : Rd base top w b a l c e) (f : Fl) (hf : f.At w) (hk : f.what = 3) (hne : f.l ≠ [] → ∀ g, Go.Cit.blk f.a = some g → g ≠ b) :
    Calls Try.prog 38 #[.pointer (some ⟨b, 0, none⟩), .agg f.cs.toArray] w fun r w' => r = .returned (.bool ((St.bytes ⟨l, e⟩).1 == f.l)) ∧ RdAt base top w' b (St.bytes ⟨l, e⟩).2 ∧ Save (· ≠ b) w w' := by
  have hb0 : Below w.heap.size w (w.alloc (.cells f.cs.toArray 31)) := (Below.refl _ _).alloc (Nat.le_refl _) _
  have B := boxes_new w f 31
  have c0 := B.c0
  have cf := B.c4
  simp only [Nat.zero_add] at c0 cf
  have H0 := h.stay hb0
  have hlt := h.lt
  have g : (f.what == 0) = false ∧ (f.what == 1) = false ∧ (f.what == 2) = false ∧ (f.what == 3) = true ∧ (f.what == 4) = false ∧ (f.what == 5) = false := by simp [hk]
  obtain ⟨g0, g1, g2, g3, g4, g5⟩ := g
  have HK := Lib.hid hk
  obtain ⟨s, hs⟩ : ∃ s, Hid (s = (St.bytes ⟨l, e⟩)) := ⟨_, rfl⟩
  have hcall : ∀ {wx}, w.heap.size ≤ wx.heap.size → Rd base top wx b a l c e → Calls Try.prog 29 #[.pointer (some ⟨b, 0, none⟩)] wx (Got base top wx b s) := fun _hz hR => by rw [hs.out]; exact rbytes_calls hR
  clear hk B
  go_enter Try.func38, Try.ntmps38
  rw [← hs.out]
  generalize f.cs.toArray = C at *
  go_wp2_with fail
  obtain ⟨W, hW⟩ : ∃ W, Hid (W = w.alloc (.cells C 31)) := ⟨_, rfl⟩
  rw [← hW.out] at H0 c0 cf hb0 ⊢
  have hzW := hb0.size
  have hcf : ∀ {wx}, Save (· ≠ b) W wx → wx.cell? ⟨w.heap.size, 4, none⟩ = some (.slice f.a f.l.length f.c) := fun hS => (hS.cell (p := ⟨w.heap.size, 4, none⟩) (World.block_lt_of_cell? W _ cf) (show w.heap.size ≠ b by omega)).trans cf
  have hrf : ∀ {wx}, Save (· ≠ b) W wx → Row wx f.a f.l f.c := fun hS => (hf.row.stay hb0).save' hS hne
  refine wp_region_one 1 (fun wx => Save (· ≠ b) W wx ∧ Rd base top wx b a l c e) (fun wx => Save (· ≠ b) W wx ∧ RdAt base top wx b s.2) (taken3T b w.heap.size f s) (fun d => decide (d = 30 ∨ d = 32 ∨ d = 33)) (by kernel_rfl) (by kernel_rfl) (by kernel_rfl) (by decide) ?_ ?_ ?_ ?_
  · intro w' hb hh
    exact ⟨Save.of hb, H0.stay hb⟩
  · intro d v wx w' hd hT
    simp only [decide_eq_true_eq] at hd
    rcases hd with rfl | rfl | rfl <;> exact hT
  · refine opsAll_cons ?_ (opsAll_cons ?_ (opsAll_cons ?_ (opsAll_cons ?_ (opsAll_cons ?_ (opsAll_cons ?_ opsAll_nil)))))
    all_goals intro wa wx hk
    · exact ⟨wanted_free rfl, gp_move (.tmp 0) rfl ⟨⟨fun h => absurd h (by decide), fun _ => rfl⟩, hk.old 0 (by kernel_rfl)⟩⟩
    · obtain ⟨hS, hR⟩ := hk.now rfl
      refine ⟨wanted_free rfl, gp_call rfl (hk.fn _) #[.pointer (some ⟨b, 0, none⟩)] (fun w => by kernel_rfl) (by simp [show wa.eval (.tmp 30) = _ from hk.slot 30 (by kernel_rfl)]) ((hcall (Nat.le_trans hzW hS.size) hR).mono ?_)⟩
      rintro r w' ⟨a', X, c', HX, he, hm, hR', hS'⟩
      exact ⟨_, he, ⟨fun _ => ⟨hS.trans hS', hR'⟩, fun h => absurd rfl h⟩, a', X, c', HX, rfl, hm.row⟩
    · have e3 : wa.eval (.tmp 3) = .pointer (some ⟨w.heap.size, 0, none⟩) := hk.old 3 (by kernel_rfl)
      exact ⟨wanted_free rfl, gp_field (.tmp 3) rfl e3 (fun w => by kernel_rfl) ⟨⟨fun h => absurd h (by decide), fun _ => rfl⟩, rfl⟩⟩
    · have hS : Save (· ≠ b) W wx := hk.ab.elim (·.1) (·.1)
      have hc := hcf hS
      exact ⟨wanted_free rfl, gp_load (.tmp 32) rfl (hk.slot 32 (by kernel_rfl)) (by simp [go_sem, hc]) ⟨⟨fun h => absurd h (by decide), fun _ => rfl⟩, rfl⟩⟩
    · have hS : Save (· ≠ b) W wx := hk.ab.elim (·.1) (·.1)
      obtain ⟨a', X, c', HX, hv, hr⟩ := hk.slot 31 (by kernel_rfl)
      have e33 : wa.eval (.tmp 33) = .slice f.a f.l.length f.c := hk.slot 33 (by kernel_rfl)
      refine ⟨wanted_free rfl, gp_call rfl (hk.fn _) #[.slice a' X.length c', .slice f.a f.l.length f.c] (fun w => by kernel_rfl) (by simp [hv, e33]) ((wsame_calls wx _ _ _ _ _ _ hr (hrf hS)).mono ?_)⟩
      rintro r w' ⟨he, hw⟩
      refine ⟨_, he, ⟨fun h => absurd h (by decide), fun _ => hw⟩, ?_⟩
      show Value.bool _ = .bool _
      rw [ordB_beq, HX.out]
      congr 1
      rw [Bool.eq_iff_iff]; simp
    · exact ⟨wanted_free rfl, gp_assign (.tmp 34) rfl ⟨⟨fun h => absurd h (by decide), fun _ => rfl⟩, hk.slot 34 (by kernel_rfl)⟩⟩
  · intro wa wx hB hsame hT
    obtain ⟨a', X, c', HX, h31, _⟩ := hT 31 (by kernel_rfl)
    have he := act_same hsame [30, 31, 32, 33, 34, 4] (by kernel_rfl)
    simp only [List.foldl_cons, List.foldl_nil] at he
    rw [show wa.eval (.tmp 30) = _ from hT 30 (by kernel_rfl), h31, show wa.eval (.tmp 32) = _ from hT 32 (by kernel_rfl), show wa.eval (.tmp 33) = _ from hT 33 (by kernel_rfl), show wa.eval (.tmp 34) = _ from hT 34 (by kernel_rfl), show wa.eval (.tmp 4) = _ from hT 4 (by kernel_rfl)] at he
    subst he
    clear hT hsame
    obtain ⟨hB1, hB2⟩ := hB
    go_wp2_with fail
    go_ret
    exact ⟨congrArg Ending.returned (put_getD_same _ 4 _ (by simp only [put_size]; simp)), hB2, (Save.of hb0).trans hB1⟩

def taken4T (b g : Nat) (f : Fl) (s : List UInt8 × St) : Nat → Value → World → Prop
  | 37, v, _ => v = .pointer (some ⟨b, 0, none⟩)
  | 38, v, _ => v = .string ⟨s.1.toArray⟩
  | 39, v, _ => v = .pointer (some ⟨g, 4, none⟩)
  | 40, v, _ => v = .slice f.a f.l.length f.c
  | 41, v, _ => v = .string ⟨f.l.toArray⟩
  | _, v, _ => v = .bool (s.1 == f.l)
set_option maxRecDepth 100000 in
set_option maxHeartbeats 1000000 in
theorem taken4_calls {base top w b a l c e} (h : Rd base top w b a l c e) (f : Fl) (hf : f.At w) (hk : f.what = 4) (hne : f.l ≠ [] → ∀ g, Go.Cit.blk f.a = some g → g ≠ b) :
    Calls Try.prog 38 #[.pointer (some ⟨b, 0, none⟩), .agg f.cs.toArray] w fun r w' => r = .returned (.bool ((St.bytes ⟨l, e⟩).1 == f.l)) ∧ RdAt base top w' b (St.bytes ⟨l, e⟩).2 ∧ Save (· ≠ b) w w' := by
  have hb0 : Below w.heap.size w (w.alloc (.cells f.cs.toArray 31)) := (Below.refl _ _).alloc (Nat.le_refl _) _
  have B := boxes_new w f 31
  have c0 := B.c0
  have cf := B.c4
  simp only [Nat.zero_add] at c0 cf
  have H0 := h.stay hb0
  have hlt := h.lt
  have g : (f.what == 0) = false ∧ (f.what == 1) = false ∧ (f.what == 2) = false ∧ (f.what == 3) = false ∧ (f.what == 4) = true ∧ (f.what == 5) = false := by simp [hk]
  obtain ⟨g0, g1, g2, g3, g4, g5⟩ := g
  have HK := Lib.hid hk
  obtain ⟨s, hs⟩ : ∃ s, Hid (s = (St.bytes ⟨l, e⟩)) := ⟨_, rfl⟩
  have hcall : ∀ {wx}, w.heap.size ≤ wx.heap.size → Rd base top wx b a l c e → Calls Try.prog 30 #[.pointer (some ⟨b, 0, none⟩)] wx fun r w' => r = .returned (.string ⟨s.1.toArray⟩) ∧ RdAt base top w' b s.2 ∧ Save (· ≠ b) wx w' := fun _hz hR => by rw [hs.out]; exact rtext_calls hR
  clear hk B
  go_enter Try.func38, Try.ntmps38
  rw [← hs.out]
  generalize f.cs.toArray = C at *
  go_wp2_with fail
  obtain ⟨W, hW⟩ : ∃ W, Hid (W = w.alloc (.cells C 31)) := ⟨_, rfl⟩
  rw [← hW.out] at H0 c0 cf hb0 ⊢
  have hzW := hb0.size
  have hcf : ∀ {wx}, Save (· ≠ b) W wx → wx.cell? ⟨w.heap.size, 4, none⟩ = some (.slice f.a f.l.length f.c) := fun hS => (hS.cell (p := ⟨w.heap.size, 4, none⟩) (World.block_lt_of_cell? W _ cf) (show w.heap.size ≠ b by omega)).trans cf
  have hrf : ∀ {wx}, Save (· ≠ b) W wx → Row wx f.a f.l f.c := fun hS => (hf.row.stay hb0).save' hS hne
  refine wp_region_one 1 (fun wx => Save (· ≠ b) W wx ∧ Rd base top wx b a l c e) (fun wx => Save (· ≠ b) W wx ∧ RdAt base top wx b s.2) (taken4T b w.heap.size f s) (fun d => decide (d = 37 ∨ d = 39 ∨ d = 40 ∨ d = 41)) (by kernel_rfl) (by kernel_rfl) (by kernel_rfl) (by decide) ?_ ?_ ?_ ?_
  · intro w' hb hh
    exact ⟨Save.of hb, H0.stay hb⟩
  · intro d v wx w' hd hT
    simp only [decide_eq_true_eq] at hd
    rcases hd with rfl | rfl | rfl | rfl <;> exact hT
  · refine opsAll_cons ?_ (opsAll_cons ?_ (opsAll_cons ?_ (opsAll_cons ?_ (opsAll_cons ?_ (opsAll_cons ?_ (opsAll_cons ?_ opsAll_nil))))))
    all_goals intro wa wx hk
    · exact ⟨wanted_free rfl, gp_move (.tmp 0) rfl ⟨⟨fun h => absurd h (by decide), fun _ => rfl⟩, hk.old 0 (by kernel_rfl)⟩⟩
    · obtain ⟨hS, hR⟩ := hk.now rfl
      refine ⟨wanted_free rfl, gp_call rfl (hk.fn _) #[.pointer (some ⟨b, 0, none⟩)] (fun w => by kernel_rfl) (by simp [show wa.eval (.tmp 37) = _ from hk.slot 37 (by kernel_rfl)]) ((hcall (Nat.le_trans hzW hS.size) hR).mono ?_)⟩
      rintro r w' ⟨he, hR', hS'⟩
      exact ⟨_, he, ⟨fun _ => ⟨hS.trans hS', hR'⟩, fun h => absurd rfl h⟩, rfl⟩
    · have e3 : wa.eval (.tmp 3) = .pointer (some ⟨w.heap.size, 0, none⟩) := hk.old 3 (by kernel_rfl)
      exact ⟨wanted_free rfl, gp_field (.tmp 3) rfl e3 (fun w => by kernel_rfl) ⟨⟨fun h => absurd h (by decide), fun _ => rfl⟩, rfl⟩⟩
    · have hS : Save (· ≠ b) W wx := hk.ab.elim (·.1) (·.1)
      have hc := hcf hS
      exact ⟨wanted_free rfl, gp_load (.tmp 39) rfl (hk.slot 39 (by kernel_rfl)) (by simp [go_sem, hc]) ⟨⟨fun h => absurd h (by decide), fun _ => rfl⟩, rfl⟩⟩
    · have hS : Save (· ≠ b) W wx := hk.ab.elim (·.1) (·.1)
      have e40 : wa.eval (.tmp 40) = .slice f.a f.l.length f.c := hk.slot 40 (by kernel_rfl)
      have hc := row_string (hrf hS)
      exact ⟨wanted_free rfl, gp_run (v := .string ⟨f.l.toArray⟩) (w' := wx) (by unfold execOp; dsimp only; rw [e40, Sem.run_bind, hc]; rfl) ⟨⟨fun h => absurd h (by decide), fun _ => rfl⟩, rfl⟩⟩
    · have e38 : wa.eval (.tmp 38) = .string ⟨s.1.toArray⟩ := hk.slot 38 (by kernel_rfl)
      have e41 : wa.eval (.tmp 41) = .string ⟨f.l.toArray⟩ := hk.slot 41 (by kernel_rfl)
      refine ⟨wanted_free rfl, gp_bin rfl e38 e41 (eql_str s.1 f.l) ⟨⟨fun h => absurd h (by decide), fun _ => rfl⟩, ?_⟩⟩
      show Value.bool _ = .bool _
      rfl
    · exact ⟨wanted_free rfl, gp_assign (.tmp 42) rfl ⟨⟨fun h => absurd h (by decide), fun _ => rfl⟩, hk.slot 42 (by kernel_rfl)⟩⟩
  · intro wa wx hB hsame hT
    have he := act_same hsame [37, 38, 39, 40, 41, 42, 4] (by kernel_rfl)
    simp only [List.foldl_cons, List.foldl_nil] at he
    rw [show wa.eval (.tmp 37) = _ from hT 37 (by kernel_rfl), show wa.eval (.tmp 38) = _ from hT 38 (by kernel_rfl), show wa.eval (.tmp 39) = _ from hT 39 (by kernel_rfl), show wa.eval (.tmp 40) = _ from hT 40 (by kernel_rfl), show wa.eval (.tmp 41) = _ from hT 41 (by kernel_rfl), show wa.eval (.tmp 42) = _ from hT 42 (by kernel_rfl), show wa.eval (.tmp 4) = _ from hT 4 (by kernel_rfl)] at he
    subst he
    clear hT hsame
    obtain ⟨hB1, hB2⟩ := hB
    go_wp2_with fail
    go_ret
    exact ⟨congrArg Ending.returned (put_getD_same _ 4 _ (by simp only [put_size]; simp)), hB2, (Save.of hb0).trans hB1⟩

end Go.Proofs.Ytglmijcfdcajkaa
