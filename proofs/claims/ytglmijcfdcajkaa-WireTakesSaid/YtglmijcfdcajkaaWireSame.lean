/- The wire laws' 'same': is a field taken of a reader as the reference takes it? Contract. -/
import Derived.Test.YtglmijcfdcajkaaWireTaken
import Derived.Test.YtglmijcfdcajkaaRefTag
namespace Go.Proofs.Ytglmijcfdcajkaa
open Go Go.RowKit Go.Cit

/-- Both readers lie apart. -/
structure Both (base top base2 top2 : Nat) (w : World) (b g : Nat) (s : St) : Prop where
  rd : RdAt base top w b s
  rf : RfAt base2 top2 w g s
  bg : b < base2
  tg : top ≤ g
  tw : top ≤ w.heap.size
  tw2 : top2 ≤ w.heap.size
  gb : base2 ≤ g
  gw : g < w.heap.size
theorem Both.stay {base top base2 top2 w w' b g s} (h : Both base top base2 top2 w b g s) (hb : Below w.heap.size w w') : Both base top base2 top2 w' b g s :=
  ⟨h.rd.save (S := fun _ => True) (Save.of hb) trivial (fun _ _ _ => trivial), h.rf.stay hb, h.bg, h.tg, Nat.le_trans h.tw hb.size, Nat.le_trans h.tw2 hb.size, h.gb, Nat.lt_of_lt_of_le h.gw hb.size⟩
/-- After the program's reader has read. -/
theorem Both.one {base top base2 top2 w w1 b g s s'} (h : Both base top base2 top2 w b g s) (_hR : RdAt base top w1 b s') (hS : Save (· ≠ b) w w1) : RfAt base2 top2 w1 g s :=
  h.rf.save hS (by have := h.bg; have := h.gb; omega) (fun x hx _ => by have := h.bg; omega)
/-- After both have read. -/
theorem Both.two {base top base2 top2 w w1 w2 b g s s'} (h : Both base top base2 top2 w b g s) (hR : RdAt base top w1 b s') (hS : Save (· ≠ b) w w1) (hF : RfAt base2 top2 w2 g s') (hS2 : Save (· ≠ g) w1 w2) : Both base top base2 top2 w2 b g s' :=
  ⟨hR.save hS2 (by have := h.bg; have := h.gb; omega) (fun x _ hx => by have := h.tg; omega), hF, h.bg, h.tg, Nat.le_trans h.tw (Nat.le_trans hS.size hS2.size), Nat.le_trans h.tw2 (Nat.le_trans hS.size hS2.size), h.gb, Nat.lt_of_lt_of_le h.gw (Nat.le_trans hS.size hS2.size)⟩

set_option maxRecDepth 100000 in
set_option maxHeartbeats 4000000 in
theorem wsame0_calls {base top base2 top2 w b g s} (h : Both base top base2 top2 w b g s) (f : Fl) (hk : f.what = 0) :
    Calls Try.prog 26 #[.pointer (some ⟨b, 0, none⟩), .pointer (some ⟨g, 0, none⟩), .agg f.cs.toArray] w fun r w' => r = .returned (.bool true) ∧ (∃ s', Both base top base2 top2 w' b g s') ∧ Save (fun k => k ≠ b ∧ k ≠ g) w w' := by
  have hb0 : Below w.heap.size w (w.alloc (.cells f.cs.toArray 31)) := (Below.refl _ _).alloc (Nat.le_refl _) _
  have B := boxes_new w f 31
  have c0 := B.c0
  have c2 := B.c2
  simp only [Nat.zero_add] at c0 c2
  have H0 := h.stay hb0
  have bg := h.bg
  have gb := h.gb
  have gw := h.gw
  have ge : (f.what == 0) = true ∧ (f.what == 1) = false ∧ (f.what == 2) = false ∧ (f.what == 3) = false ∧ (f.what == 4) = false ∧ (f.what == 5) = false := by simp [hk]
  obtain ⟨g0, g1, g2, g3, g4, g5⟩ := ge
  have HK := Lib.hid hk
  clear hk B h
  go_enter Try.func26, Try.ntmps26
  generalize f.cs.toArray = C at *
  go_wp2_with fail
  obtain ⟨W, hW⟩ : ∃ W, Hid (W = w.alloc (.cells C 31)) := ⟨_, rfl⟩
  rw [← hW.out] at H0 c0 c2 hb0 ⊢
  have hzW := hb0.size
  have c2l := World.block_lt_of_cell? W _ c2
  obtain ⟨a, c, hr⟩ := H0.rd
  have k1 := rbyte_calls hr
  obtain ⟨q, hq⟩ : ∃ q, Hid (q = s.read 1 fByte 0) := ⟨_, rfl⟩
  have k2 : ∀ w1, RdAt base top w1 b q.2 → Save (· ≠ b) W w1 → _ := fun w1 h1 h2 => rfbyte_calls (H0.one h1 h2)
  rw [← hq.out] at k1
  refine Calls.mono k1 ?_
  rintro e w1 ⟨rfl, hR1, hS1⟩
  have k3 := k2 w1 hR1 hS1
  rw [← hq.out] at k3
  have c2a := (hS1.cell (p := ⟨w.heap.size, 2, none⟩) c2l (show w.heap.size ≠ b by omega)).trans c2
  clear k1 k2
  go_wp2_with fail
  refine Calls.mono k3 ?_
  rintro e w2 ⟨rfl, hF2, hS2⟩
  have HB := H0.two hR1 hS1 hF2 hS2
  clear k3
  go_wp2_with fail
  go_ret
  exact ⟨by simp, ⟨_, HB⟩, (Save.of hb0).trans ((hS1.less (fun k _ hk => hk.1)).trans (hS2.less (fun k _ hk => hk.2)))⟩

set_option maxRecDepth 100000 in
set_option maxHeartbeats 4000000 in
theorem wsame1_calls {base top base2 top2 w b g s} (h : Both base top base2 top2 w b g s) (f : Fl) (hk : f.what = 1) :
    Calls Try.prog 26 #[.pointer (some ⟨b, 0, none⟩), .pointer (some ⟨g, 0, none⟩), .agg f.cs.toArray] w fun r w' => r = .returned (.bool true) ∧ (∃ s', Both base top base2 top2 w' b g s') ∧ Save (fun k => k ≠ b ∧ k ≠ g) w w' := by
  have hb0 : Below w.heap.size w (w.alloc (.cells f.cs.toArray 31)) := (Below.refl _ _).alloc (Nat.le_refl _) _
  have B := boxes_new w f 31
  have c0 := B.c0
  have c2 := B.c2
  simp only [Nat.zero_add] at c0 c2
  have H0 := h.stay hb0
  have bg := h.bg
  have gb := h.gb
  have gw := h.gw
  have ge : (f.what == 0) = false ∧ (f.what == 1) = true ∧ (f.what == 2) = false ∧ (f.what == 3) = false ∧ (f.what == 4) = false ∧ (f.what == 5) = false := by simp [hk]
  obtain ⟨g0, g1, g2, g3, g4, g5⟩ := ge
  have HK := Lib.hid hk
  clear hk B h
  go_enter Try.func26, Try.ntmps26
  generalize f.cs.toArray = C at *
  go_wp2_with fail
  obtain ⟨W, hW⟩ : ∃ W, Hid (W = w.alloc (.cells C 31)) := ⟨_, rfl⟩
  rw [← hW.out] at H0 c0 c2 hb0 ⊢
  have hzW := hb0.size
  have c2l := World.block_lt_of_cell? W _ c2
  obtain ⟨a, c, hr⟩ := H0.rd
  have k1 := rint_calls hr
  obtain ⟨q, hq⟩ : ∃ q, Hid (q = s.read 8 fInt 0) := ⟨_, rfl⟩
  have k2 : ∀ w1, RdAt base top w1 b q.2 → Save (· ≠ b) W w1 → _ := fun w1 h1 h2 => rfint_calls (H0.one h1 h2)
  rw [← hq.out] at k1
  refine Calls.mono k1 ?_
  rintro e w1 ⟨rfl, hR1, hS1⟩
  have k3 := k2 w1 hR1 hS1
  rw [← hq.out] at k3
  have c2a := (hS1.cell (p := ⟨w.heap.size, 2, none⟩) c2l (show w.heap.size ≠ b by omega)).trans c2
  clear k1 k2
  go_wp2_with fail
  refine Calls.mono k3 ?_
  rintro e w2 ⟨rfl, hF2, hS2⟩
  have HB := H0.two hR1 hS1 hF2 hS2
  clear k3
  go_wp2_with fail
  go_ret
  exact ⟨by simp, ⟨_, HB⟩, (Save.of hb0).trans ((hS1.less (fun k _ hk => hk.1)).trans (hS2.less (fun k _ hk => hk.2)))⟩

set_option maxRecDepth 100000 in
set_option maxHeartbeats 4000000 in
theorem wsame2_calls {base top base2 top2 w b g s} (h : Both base top base2 top2 w b g s) (f : Fl) (hk : f.what = 2) :
    Calls Try.prog 26 #[.pointer (some ⟨b, 0, none⟩), .pointer (some ⟨g, 0, none⟩), .agg f.cs.toArray] w fun r w' => r = .returned (.bool true) ∧ (∃ s', Both base top base2 top2 w' b g s') ∧ Save (fun k => k ≠ b ∧ k ≠ g) w w' := by
  have hb0 : Below w.heap.size w (w.alloc (.cells f.cs.toArray 31)) := (Below.refl _ _).alloc (Nat.le_refl _) _
  have B := boxes_new w f 31
  have c0 := B.c0
  have c2 := B.c2
  simp only [Nat.zero_add] at c0 c2
  have H0 := h.stay hb0
  have bg := h.bg
  have gb := h.gb
  have gw := h.gw
  have ge : (f.what == 0) = false ∧ (f.what == 1) = false ∧ (f.what == 2) = true ∧ (f.what == 3) = false ∧ (f.what == 4) = false ∧ (f.what == 5) = false := by simp [hk]
  obtain ⟨g0, g1, g2, g3, g4, g5⟩ := ge
  have HK := Lib.hid hk
  clear hk B h
  go_enter Try.func26, Try.ntmps26
  generalize f.cs.toArray = C at *
  go_wp2_with fail
  obtain ⟨W, hW⟩ : ∃ W, Hid (W = w.alloc (.cells C 31)) := ⟨_, rfl⟩
  rw [← hW.out] at H0 c0 c2 hb0 ⊢
  have hzW := hb0.size
  have c2l := World.block_lt_of_cell? W _ c2
  obtain ⟨a, c, hr⟩ := H0.rd
  have k1 := rflag_calls hr
  obtain ⟨q, hq⟩ : ∃ q, Hid (q = s.read 1 fFlag false) := ⟨_, rfl⟩
  have k2 : ∀ w1, RdAt base top w1 b q.2 → Save (· ≠ b) W w1 → _ := fun w1 h1 h2 => rfflag_calls (H0.one h1 h2)
  rw [← hq.out] at k1
  refine Calls.mono k1 ?_
  rintro e w1 ⟨rfl, hR1, hS1⟩
  have k3 := k2 w1 hR1 hS1
  rw [← hq.out] at k3
  have c2a := (hS1.cell (p := ⟨w.heap.size, 2, none⟩) c2l (show w.heap.size ≠ b by omega)).trans c2
  clear k1 k2
  go_wp2_with fail
  refine Calls.mono k3 ?_
  rintro e w2 ⟨rfl, hF2, hS2⟩
  have HB := H0.two hR1 hS1 hF2 hS2
  clear k3
  go_wp2_with fail
  go_ret
  exact ⟨by simp, ⟨_, HB⟩, (Save.of hb0).trans ((hS1.less (fun k _ hk => hk.1)).trans (hS2.less (fun k _ hk => hk.2)))⟩

set_option maxRecDepth 100000 in
set_option maxHeartbeats 4000000 in
theorem wsame6_calls {base top base2 top2 w b g s} (h : Both base top base2 top2 w b g s) (f : Fl) (hk : f.what ≠ 0 ∧ f.what ≠ 1 ∧ f.what ≠ 2 ∧ f.what ≠ 3 ∧ f.what ≠ 4 ∧ f.what ≠ 5) :
    Calls Try.prog 26 #[.pointer (some ⟨b, 0, none⟩), .pointer (some ⟨g, 0, none⟩), .agg f.cs.toArray] w fun r w' => r = .returned (.bool true) ∧ (∃ s', Both base top base2 top2 w' b g s') ∧ Save (fun k => k ≠ b ∧ k ≠ g) w w' := by
  have hb0 : Below w.heap.size w (w.alloc (.cells f.cs.toArray 31)) := (Below.refl _ _).alloc (Nat.le_refl _) _
  have B := boxes_new w f 31
  have c0 := B.c0
  have c2 := B.c2
  simp only [Nat.zero_add] at c0 c2
  have H0 := h.stay hb0
  have bg := h.bg
  have gb := h.gb
  have gw := h.gw
  have ge : (f.what == 0) = false ∧ (f.what == 1) = false ∧ (f.what == 2) = false ∧ (f.what == 3) = false ∧ (f.what == 4) = false ∧ (f.what == 5) = false := by obtain ⟨k0, k1, k2, k3, k4, k5⟩ := hk; simp [k0, k1, k2, k3, k4, k5]
  obtain ⟨g0, g1, g2, g3, g4, g5⟩ := ge
  have HK := Lib.hid hk
  clear hk B h
  go_enter Try.func26, Try.ntmps26
  generalize f.cs.toArray = C at *
  go_wp2_with fail
  obtain ⟨W, hW⟩ : ∃ W, Hid (W = w.alloc (.cells C 31)) := ⟨_, rfl⟩
  rw [← hW.out] at H0 c0 c2 hb0 ⊢
  have hzW := hb0.size
  have c2l := World.block_lt_of_cell? W _ c2
  obtain ⟨a, c, hr⟩ := H0.rd
  have k1 := rcount_calls hr f.n
  obtain ⟨q, hq⟩ : ∃ q, Hid (q = s.count f.n) := ⟨_, rfl⟩
  have k2 : ∀ w1, RdAt base top w1 b q.2 → Save (· ≠ b) W w1 → _ := fun w1 h1 h2 => rfcount_calls (H0.one h1 h2) f.n
  rw [← hq.out] at k1
  refine Calls.mono k1 ?_
  rintro e w1 ⟨rfl, hR1, hS1⟩
  have k3 := k2 w1 hR1 hS1
  rw [← hq.out] at k3
  have c2a := (hS1.cell (p := ⟨w.heap.size, 2, none⟩) c2l (show w.heap.size ≠ b by omega)).trans c2
  clear k1 k2
  go_wp2_with fail
  refine Calls.mono k3 ?_
  rintro e w2 ⟨rfl, hF2, hS2⟩
  have HB := H0.two hR1 hS1 hF2 hS2
  clear k3
  go_wp2_with fail
  go_ret
  exact ⟨by simp, ⟨_, HB⟩, (Save.of hb0).trans ((hS1.less (fun k _ hk => hk.1)).trans (hS2.less (fun k _ hk => hk.2)))⟩

set_option maxRecDepth 100000 in
set_option maxHeartbeats 4000000 in
theorem wsame4_calls {base top base2 top2 w b g s} (h : Both base top base2 top2 w b g s) (f : Fl) (hk : f.what = 4) :
    Calls Try.prog 26 #[.pointer (some ⟨b, 0, none⟩), .pointer (some ⟨g, 0, none⟩), .agg f.cs.toArray] w fun r w' => r = .returned (.bool true) ∧ (∃ s', Both base top base2 top2 w' b g s') ∧ Save (fun k => k ≠ b ∧ k ≠ g) w w' := by
  have hb0 : Below w.heap.size w (w.alloc (.cells f.cs.toArray 31)) := (Below.refl _ _).alloc (Nat.le_refl _) _
  have B := boxes_new w f 31
  have c0 := B.c0
  have c2 := B.c2
  simp only [Nat.zero_add] at c0 c2
  have H0 := h.stay hb0
  have bg := h.bg
  have gb := h.gb
  have gw := h.gw
  have ge : (f.what == 0) = false ∧ (f.what == 1) = false ∧ (f.what == 2) = false ∧ (f.what == 3) = false ∧ (f.what == 4) = true ∧ (f.what == 5) = false := by simp [hk]
  obtain ⟨g0, g1, g2, g3, g4, g5⟩ := ge
  have HK := Lib.hid hk
  clear hk B h
  go_enter Try.func26, Try.ntmps26
  generalize f.cs.toArray = C at *
  go_wp2_with fail
  obtain ⟨W, hW⟩ : ∃ W, Hid (W = w.alloc (.cells C 31)) := ⟨_, rfl⟩
  rw [← hW.out] at H0 c0 c2 hb0 ⊢
  have hzW := hb0.size
  have c2l := World.block_lt_of_cell? W _ c2
  obtain ⟨a, c, hr⟩ := H0.rd
  have k1 := rtext_calls hr
  obtain ⟨q, hq⟩ : ∃ q, Hid (q = s.bytes) := ⟨_, rfl⟩
  have k2 : ∀ w1, RdAt base top w1 b q.2 → Save (· ≠ b) W w1 → _ := fun w1 h1 h2 => rfbytes_calls (H0.one h1 h2)
  rw [show St.bytes ⟨s.l, s.e⟩ = q from hq.out.symm] at k1
  refine Calls.mono k1 ?_
  rintro e w1 ⟨rfl, hR1, hS1⟩
  have k3 := k2 w1 hR1 hS1
  rw [← hq.out] at k3
  clear k1 k2
  go_wp2_with fail
  refine Calls.mono k3 ?_
  rintro e w2 ⟨a2, Y, c3, HY, rfl, hm, hF2, hS2⟩
  have HB := H0.two hR1 hS1 hF2 hS2
  have hs := row_string hm.row
  have gq : (q.1 == Y) = true := by rw [HY.out]; simp
  clear k3
  go_wp2_with fail
  go_ret
  exact ⟨by simp [HY.out], ⟨_, HB⟩, (Save.of hb0).trans ((hS1.less (fun k _ hk => hk.1)).trans (hS2.less (fun k _ hk => hk.2)))⟩

set_option maxRecDepth 100000 in
set_option maxHeartbeats 4000000 in
theorem wsame3_calls {base top base2 top2 w b g s} (h : Both base top base2 top2 w b g s) (f : Fl) (hk : f.what = 3) :
    Calls Try.prog 26 #[.pointer (some ⟨b, 0, none⟩), .pointer (some ⟨g, 0, none⟩), .agg f.cs.toArray] w fun r w' => r = .returned (.bool true) ∧ (∃ s', Both base top base2 top2 w' b g s') ∧ Save (fun k => k ≠ b ∧ k ≠ g) w w' := by
  have hb0 : Below w.heap.size w (w.alloc (.cells f.cs.toArray 31)) := (Below.refl _ _).alloc (Nat.le_refl _) _
  have B := boxes_new w f 31
  have c0 := B.c0
  have c2 := B.c2
  simp only [Nat.zero_add] at c0 c2
  have H0 := h.stay hb0
  have bg := h.bg
  have gb := h.gb
  have gw := h.gw
  have ge : (f.what == 0) = false ∧ (f.what == 1) = false ∧ (f.what == 2) = false ∧ (f.what == 3) = true ∧ (f.what == 4) = false ∧ (f.what == 5) = false := by simp [hk]
  obtain ⟨g0, g1, g2, g3, g4, g5⟩ := ge
  have HK := Lib.hid hk
  clear hk B h
  go_enter Try.func26, Try.ntmps26
  generalize f.cs.toArray = C at *
  go_wp2_with fail
  obtain ⟨W, hW⟩ : ∃ W, Hid (W = w.alloc (.cells C 31)) := ⟨_, rfl⟩
  rw [← hW.out] at H0 c0 c2 hb0 ⊢
  have hzW := hb0.size
  have c2l := World.block_lt_of_cell? W _ c2
  obtain ⟨a, c, hr⟩ := H0.rd
  have k1 := rbytes_calls hr
  obtain ⟨q, hq⟩ : ∃ q, Hid (q = s.bytes) := ⟨_, rfl⟩
  have k2 : ∀ w1, RdAt base top w1 b q.2 → Save (· ≠ b) W w1 → _ := fun w1 h1 h2 => rfbytes_calls (H0.one h1 h2)
  rw [show St.bytes ⟨s.l, s.e⟩ = q from hq.out.symm] at k1
  have tw := H0.tw
  have tw2 := H0.tw2
  have gW := H0.gw
  refine Calls.mono k1 ?_
  rintro e w1 ⟨a1, X, c1, HX, rfl, hm1, hR1, hS1⟩
  have k3 := k2 w1 hR1 hS1
  rw [← hq.out] at k3
  clear k1 k2
  go_wp2_with fail
  refine Calls.mono k3 ?_
  rintro e w2 ⟨a2, Y, c3, HY, rfl, hm, hF2, hS2⟩
  have HB := H0.two hR1 hS1 hF2 hS2
  have m1 := hm1.save hS2 (fun x hx => by have := hm1.new x hx; omega)
  have hsm := same_calls _ _ _ X Y c1 c3 m1.row hm.row
  have gs : (ordB X Y == 0) = true := by rw [HX.out, HY.out]; exact ordB_self _
  have HSV : Save (fun k => k ≠ b ∧ k ≠ g) w w2 := (Save.of hb0).trans ((hS1.less (fun k _ hk => hk.1)).trans (hS2.less (fun k _ hk => hk.2)))
  have z2 := Nat.le_trans hS1.size hS2.size
  clear k3 hm hm1 hS1 hS2 hR1 hF2
  go_wp2_with fail
  refine Calls.mono hsm ?_
  rintro e w3 ⟨rfl, hd⟩
  have m3 := m1.stay (hd.below _)
  have B3 : Below W.heap.size w2 w3 := hd.below _
  clear hsm hd m1
  go_wp2_with fail
  go_loopw [12] (fun i wx => ∃ (t : Nat) (U : List UInt8), Hid (U.length = X.length) ∧ t ≤ X.length ∧ i = .int .i64 t ∧ Mine W.heap.size wx a1 U c1 ∧ Below W.heap.size w2 wx) (fun i _ => X.length - (intOf i).toNat)
  case atStart => exact ⟨0, X, rfl, Nat.zero_le _, rfl, m3, B3⟩
  case round =>
    clear m3 B3
    obtain ⟨t, U, HU, ht, rfl, mx, B8⟩ := hrel
    by_cases hlt2 : t < X.length
    · have hkV : t < U.length := by rw [HU.out]; exact hlt2
      have j0 := mx.row.index bt.slice bt.sz t hkV
      rw [HU.out] at j0
      have e0 := mx.cellOf hkV
      have f0 := mx.free t hkV
      have HS := Lib.hid (mx.stored t hkV (bAdd U[t] (bI 1)))
      have HL := Lib.hid hlt2
      have hl9 := mx.row.len_le
      rw [HU.out] at hl9
      go_wp2_with fail
      go_roundw
      case rel => exact ⟨t + 1, _, by rw [Hid, List.length_set]; exact HU.out, by have := HL.out; omega, by go_num, HS.out.1, B8.trans HS.out.2.2⟩
      case measure => have := HL.out; simp [intOf]; omega
    · have S8 : Save (fun k => k < W.heap.size) w2 wr := ⟨B8.os, B8.tape, B8.output, B8.size, fun k _ hk => B8.block k hk⟩
      have hbW : b < W.heap.size := by omega
      go_wp2_with fail
      go_ret
      refine ⟨by simp, ⟨_, HB.rd.save S8 hbW (fun x _ hx => by omega), HB.rf.save S8 gW (fun x _ hx => by omega), HB.bg, HB.tg, Nat.le_trans HB.tw S8.size, Nat.le_trans HB.tw2 S8.size, HB.gb, Nat.lt_of_lt_of_le HB.gw S8.size⟩, ?_⟩
      have HSV2 : Save (fun k => k < w.heap.size ∧ k ≠ b ∧ k ≠ g) w wr := (HSV.less (fun k _ hk => hk.2)).trans (S8.less (fun k _ hk => by omega))
      exact HSV2.less (fun k hk hkb => ⟨hk, hkb⟩)

def wsame5T (g : Nat) (t : List UInt8) : Nat → Value → World → Prop
  | 77, v, _ => v = .pointer (some ⟨g, 0, none⟩)
  | 76, v, _ => v = .agg (t.map vb).toArray
  | 78, v, _ => v = .agg (t.map vb).toArray
  | _, v, _ => v = .bool (t == t)
set_option maxRecDepth 100000 in
set_option maxHeartbeats 4000000 in
theorem wsame5_calls {base top base2 top2 w b g s} (h : Both base top base2 top2 w b g s) (f : Fl) (hk : f.what = 5) :
    Calls Try.prog 26 #[.pointer (some ⟨b, 0, none⟩), .pointer (some ⟨g, 0, none⟩), .agg f.cs.toArray] w fun r w' => r = .returned (.bool true) ∧ (∃ s', Both base top base2 top2 w' b g s') ∧ Save (fun k => k ≠ b ∧ k ≠ g) w w' := by
  have hb0 : Below w.heap.size w (w.alloc (.cells f.cs.toArray 31)) := (Below.refl _ _).alloc (Nat.le_refl _) _
  have B := boxes_new w f 31
  have c0 := B.c0
  have c2 := B.c2
  simp only [Nat.zero_add] at c0 c2
  have H0 := h.stay hb0
  have bg := h.bg
  have gb := h.gb
  have gw := h.gw
  have ge : (f.what == 0) = false ∧ (f.what == 1) = false ∧ (f.what == 2) = false ∧ (f.what == 3) = false ∧ (f.what == 4) = false ∧ (f.what == 5) = true := by simp [hk]
  obtain ⟨g0, g1, g2, g3, g4, g5⟩ := ge
  have HK := Lib.hid hk
  clear hk B h
  go_enter Try.func26, Try.ntmps26
  generalize f.cs.toArray = C at *
  go_wp2_with fail
  obtain ⟨W, hW⟩ : ∃ W, Hid (W = w.alloc (.cells C 31)) := ⟨_, rfl⟩
  rw [← hW.out] at H0 c0 c2 hb0 ⊢
  have hzW := hb0.size
  have c2l := World.block_lt_of_cell? W _ c2
  obtain ⟨a, c, hr⟩ := H0.rd
  have tw := H0.tw
  have tw2 := H0.tw2
  have gW := H0.gw
  have k1 := rtag_calls hr tw
  have hq32 := read_tag32 s
  obtain ⟨q, hq⟩ : ∃ q, Hid (q = s.read 32 fTag zeros32) := ⟨_, rfl⟩
  rw [show St.read ⟨s.l, s.e⟩ 32 fTag zeros32 = q from hq.out.symm] at k1
  rw [← hq.out] at hq32
  have HC := Lib.hid (tag_cells q.1 hq32)
  have HZ := Lib.hid (tag_cells zeros32 rfl)
  have HA := Lib.hid (fun ρ d ty ps af w => alloc_tag ρ d ty ps (af := af) w)
  refine Calls.mono k1 ?_
  rintro e w1 ⟨rfl, hR1, hS1⟩
  clear k1
  have K14 := Lib.hid (heap_alloc_new w1 (.cells (zeros32.map vb).toArray 29))
  have zw1 := hS1.size
  go_wp2_with (first | ((with_reducible refine wpList_value (o := ⟨some 14, .alloc _, _, _, _, _⟩) (by with_unfolding_all rfl) (HA.out _ _ _ _ _ _) ?_)) | ((with_reducible refine wpList_storeB (o := ⟨none, .store 29 (.tmp 14) (.tmp 75), _, _, _, _⟩) tagRow (.tmp 14) (.tmp 75) (by with_unfolding_all rfl) (by with_unfolding_all rfl) (by with_unfolding_all rfl) (by with_unfolding_all rfl) (by with_unfolding_all rfl) K14.out HZ.out.1 HC.out.1 HC.out.2 ?_); intro w3 hb3 hS3))
  have zw3 := hS3.size
  rw [show (w1.alloc (.cells (zeros32.map vb).toArray 29)).heap.size = w1.heap.size + 1 by simp] at zw3
  have hS13 : Save (fun k => k ≠ w1.heap.size) w1 w3 := (Save.alloc w1 _).trans hS3
  have hR3 : RdAt base top w3 b q.2 := hR1.save hS13 (by omega) (fun x _ hx => by omega)
  have hSa : Save (· ≠ b) W w3 := ((hS1.less (fun k _ hk => hk.2) : Save (fun k => k < W.heap.size ∧ k ≠ b) W w1).trans (hS13.less (fun k _ hk => by omega))).less (fun k hk hkb => ⟨hk, hkb⟩)
  have hF3 := H0.one hR3 hSa
  have hcf : ∀ {wx}, Save (· ≠ g) w3 wx → (Instr.loadAt 29 (.pointer (some ⟨w1.heap.size, 0, none⟩))).run Try.prog wx = .ok (.agg (q.1.map vb).toArray) wx := fun hS => by
    have hb := (hS.block w1.heap.size (by omega) (by omega)).trans hb3
    obtain ⟨⟨d, hu, hd⟩, hi⟩ := tagRow
    have hr := run_loadB (P := Try.prog) hu hd (by rw [hi, HC.out.1]) hb
    simp only [Sem.run_bind, Instr.loadAt, Instr.sureAddr, Sem.run_pure, Result.andThen, hr]
  refine wp_region_one 2 (fun wx => Save (· ≠ g) w3 wx ∧ RfAt base2 top2 wx g s) (fun wx => Save (· ≠ g) w3 wx ∧ RfAt base2 top2 wx g q.2) (wsame5T g q.1) (fun d => decide (d = 76 ∨ d = 77)) (by kernel_rfl) (by kernel_rfl) (by kernel_rfl) (by decide) ?_ ?_ ?_ ?_
  · intro w' hb hh
    exact ⟨Save.of hb, hF3.stay hb⟩
  · intro d v wx w' hd hT
    simp only [decide_eq_true_eq] at hd
    rcases hd with rfl | rfl <;> exact hT
  · refine opsAll_cons ?_ (opsAll_cons ?_ (opsAll_cons ?_ (opsAll_cons ?_ (opsAll_cons ?_ opsAll_nil))))
    all_goals intro wa wx hk
    · have hS : Save (· ≠ g) w3 wx := hk.ab.elim (·.1) (·.1)
      have hc := hcf hS
      exact ⟨wanted_free rfl, gp_load (.tmp 14) rfl (hk.old 14 (by kernel_rfl)) hc ⟨⟨fun h => absurd h (by decide), fun _ => rfl⟩, rfl⟩⟩
    · exact ⟨wanted_free rfl, gp_move (.tmp 1) rfl ⟨⟨fun h => absurd h (by decide), fun _ => rfl⟩, hk.old 1 (by kernel_rfl)⟩⟩
    · obtain ⟨hS, hF⟩ := hk.now rfl
      have hsz := hS.size
      have hc := rftag_calls hF (by omega) (by omega)
      rw [← hq.out] at hc
      refine ⟨wanted_free rfl, gp_call rfl (hk.fn _) #[.pointer (some ⟨g, 0, none⟩)] (fun w => by kernel_rfl) (by simp [show wa.eval (.tmp 77) = _ from hk.slot 77 (by kernel_rfl)]) (hc.mono ?_)⟩
      rintro r w' ⟨he, hF', hS'⟩
      exact ⟨_, he, ⟨fun _ => ⟨hS.trans hS', hF'⟩, fun h => absurd rfl h⟩, rfl⟩
    · exact ⟨wanted_free rfl, gp_bin rfl (hk.slot 76 (by kernel_rfl)) (hk.slot 78 (by kernel_rfl)) (eql_tag _ _ hq32 hq32) ⟨⟨fun h => absurd h (by decide), fun _ => rfl⟩, rfl⟩⟩
    · exact ⟨wanted_free rfl, gp_assign (.tmp 79) rfl ⟨⟨fun h => absurd h (by decide), fun _ => rfl⟩, hk.slot 79 (by kernel_rfl)⟩⟩
  · intro wa wx hB hsame hT
    have he := act_same hsame [76, 77, 78, 79, 6] (by kernel_rfl)
    simp only [List.foldl_cons, List.foldl_nil] at he
    rw [show wa.eval (.tmp 76) = _ from hT 76 (by kernel_rfl), show wa.eval (.tmp 77) = _ from hT 77 (by kernel_rfl), show wa.eval (.tmp 78) = _ from hT 78 (by kernel_rfl), show wa.eval (.tmp 79) = _ from hT 79 (by kernel_rfl), show wa.eval (.tmp 6) = _ from hT 6 (by kernel_rfl)] at he
    subst he
    clear hT hsame hcf
    obtain ⟨hB1, hB2⟩ := hB
    have HB := H0.two hR3 hSa hB2 hB1
    generalize (q.1.map vb).toArray = TT at *
    go_wp2_with fail
    go_ret
    exact ⟨(congrArg Ending.returned (put_getD_same _ 6 _ (by simp only [put_size]; simp))).trans (by simp), ⟨_, HB⟩, (Save.of hb0).trans ((hSa.less (fun k _ hk => hk.1)).trans (hB1.less (fun k _ hk => hk.2)))⟩

/-- A field is taken as the reference takes it. -/
theorem lsame_calls {base top base2 top2 w b g s} (h : Both base top base2 top2 w b g s) (f : Fl) :
    Calls Try.prog 26 #[.pointer (some ⟨b, 0, none⟩), .pointer (some ⟨g, 0, none⟩), .agg f.cs.toArray] w fun r w' => r = .returned (.bool true) ∧ (∃ s', Both base top base2 top2 w' b g s') ∧ Save (fun k => k ≠ b ∧ k ≠ g) w w' := by
  by_cases h0 : f.what = 0
  · exact wsame0_calls h f h0
  by_cases h1 : f.what = 1
  · exact wsame1_calls h f h1
  by_cases h2 : f.what = 2
  · exact wsame2_calls h f h2
  by_cases h3 : f.what = 3
  · exact wsame3_calls h f h3
  by_cases h4 : f.what = 4
  · exact wsame4_calls h f h4
  by_cases h5 : f.what = 5
  · exact wsame5_calls h f h5
  exact wsame6_calls h f ⟨h0, h1, h2, h3, h4, h5⟩
end Go.Proofs.Ytglmijcfdcajkaa
