/- Chapter 15's law: one: walked. -/
import Derived.Test.YtofagofpeedfcaaGreatSame15
import Derived.Test.YtofagofpeedfcaaGreatAct15
import Derived.Test.YtofagofpeedfcaaGreatGe
namespace Go.Proofs.YtofagofpeedfcaaGreat
open Go Go.RowKit Go.Cit

theorem psaves {w w1 w2 : World} {p : Pl} {r : Rl} (h : Save p.Off w w1) (k : Save r.Off w1 w2) : Save (fun k => p.Off k ∧ r.Off k) w w2 := (h.less (fun _ _ h => h.1)).trans (k.less (fun _ _ h => h.2))
/-- The act's variable. -/
def Bx (W : World) (b : Nat) (x : Ax) : Prop := W.heap[b]? = some (.cells x.cs.toArray 33 (0, 0))
theorem Bx.cells {W : World} {b : Nat} {x : Ax} (h : Bx W b x) : W.cell? ⟨b, 0, none⟩ = some (.int .i64 x.kind) ∧ W.cell? ⟨b, 1, none⟩ = some (.int .i64 x.slot) ∧ W.cell? ⟨b, 2, none⟩ = some (.int .i64 x.at_) ∧ W.cell? ⟨b, 3, none⟩ = some (.slice x.a x.l.length x.c) ∧ W.cell? ⟨b, 4, none⟩ = some (.bool x.odd) := by
  unfold Bx at h
  refine ⟨?_, ?_, ?_, ?_, ?_⟩ <;> (rw [World.cell?, h]; rfl)
theorem Bx.save {W W' : World} {b : Nat} {x : Ax} (h : Bx W b x) {S : Nat → Prop} (hs : Save S W W') (hb : S b) : Bx W' b x := (hs.block b (Array.getElem?_eq_some_iff.1 h).1 hb).trans h
theorem Bx.stay {W W' : World} {b : Nat} {x : Ax} (h : Bx W b x) (hb : Below W.heap.size W W') : Bx W' b x := h.save (S := fun _ => True) (Save.of hb) trivial
theorem ax_box (w0 : World) (p : Pl) (r : Rl) (D : Dk) (x : Ax) (h : Pair w0 p r D) (hx : x.At w0) (w1 : World) (hw1 : w1 = w0.alloc (.cells x.cs.toArray 33)) :
    Bx w1 w0.heap.size x ∧ Pair w1 p r D ∧ x.At w1 ∧ Save (fun k => p.Off k ∧ r.Off k) w0 w1 ∧ (p.Off w0.heap.size ∧ r.Off w0.heap.size) ∧ (∀ k, w0.heap.size ≤ k → p.Off k ∧ r.Off k) ∧ w0.heap.size ≤ w1.heap.size := by
  have B1 : Below w0.heap.size w0 w1 := by rw [hw1]; exact (Below.refl _ w0).alloc (Nat.le_refl _) _
  have x1 : w1.heap[w0.heap.size]? = some (.cells x.cs.toArray 33 (0, 0)) := by rw [hw1]; exact heap_alloc_new _ _
  have hd := h.d.lt
  have hlr : r.b < w0.heap.size ∧ r.lb < w0.heap.size := by
    obtain ⟨L9, c9, sa9, sc9, hr9⟩ := h.r
    exact ⟨(Array.getElem?_eq_some_iff.1 hr9.box).1, (Array.getElem?_eq_some_iff.1 hr9.held.blk.choose_spec).1⟩
  exact ⟨x1, h.stay B1, hx.stay B1, Save.of B1, ⟨⟨by omega, by omega, by omega⟩, ⟨by omega, by omega⟩⟩, fun k hk => ⟨⟨by omega, by omega, by omega⟩, ⟨by omega, by omega⟩⟩, B1.size⟩
set_option maxRecDepth 100000 in
set_option maxHeartbeats 4000000 in
theorem one15_flush (w0 : World) (p : Pl) (r : Rl) (D : Dk) (x : Ax) (h : Pair w0 p r D) (hx : x.At w0) (hl : x.l.length ≤ 6000) (hxo : x.l ≠ [] → ∀ g, Go.Cit.blk x.a = some g → p.Off g ∧ r.Off g) (hk : x.kind = 5) :
    Calls Tryz.prog 7 #[.pointer (some ⟨p.b, 0, none⟩), .pointer (some ⟨r.b, 0, none⟩), .agg x.cs.toArray] w0 fun e w' => e = .returned (.bool true) ∧ (∃ D', Pair w' p r D') ∧ Save (fun k => p.Off k ∧ r.Off k) w0 w' := by
  obtain ⟨w1, hw1⟩ : ∃ w1, w1 = w0.alloc (.cells x.cs.toArray 33) := ⟨_, rfl⟩
  obtain ⟨hbx, h1, hx1, hs1, hof, hnew, hsz⟩ := ax_box w0 p r D x h hx w1 hw1
  have H1 := Lib.hid h1
  have HS1 := Lib.hid hs1
  have HX1 := Lib.hid hx1
  have HBX := Lib.hid hbx
  have HOF := Lib.hid hof
  have HNEW := Lib.hid hnew
  have HSZ := Lib.hid hsz
  have HXO := Lib.hid hxo
  have HL := Lib.hid hl
  obtain ⟨c0, c1, c2, c3, c4⟩ := hbx.cells
  clear h hx h1 hs1 hx1 hbx hof hnew hsz hxo hl
  have hf := flush_calls w1 p D H1.out.d
  obtain ⟨E, hE⟩ : ∃ E, Hid (E = flushE D) := ⟨_, rfl⟩
  rw [← hE.out] at hf
  rw [hk] at c0
  go_enter Tryz.func7, Tryz.ntmps7
  go_wp2_with fail
  rw [← hw1]
  clear hw1
  refine (hf).mono ?_
  rintro e w2 ⟨rfl, hD2, hs2⟩
  have HS2 := Lib.hid hs2
  have HROW : Hid (Row w2 x.a x.l x.c) := HX1.out.row.save' hs2 (fun hne g hg => (HXO.out hne g hg).1)
  obtain ⟨d0, d1, d2, d3, d4⟩ := (HBX.out.save hs2 HOF.out.1).cells
  have hf2 := rflush_calls w2 r D (H1.out.ref HS2.out)
  rw [← hE.out] at hf2
  clear c0 c1 c2 c3 c4 hs2
  go_wp2_with fail
  refine (hf2).mono ?_
  rintro e w3 ⟨rfl, hR3, hs3⟩
  have HP := Lib.hid (H1.out.both hD2 hR3 hs3)
  have HS := Lib.hid (HS1.out.trans (psaves HS2.out hs3))
  clear hD2 hR3 hs3 d0 d1 d2 d3 d4
  go_wp2_with fail
  go_ret
  exact ⟨ret_bool (by simp), ⟨_, HP.out⟩, HS.out⟩
set_option maxRecDepth 100000 in
set_option maxHeartbeats 4000000 in
theorem one15_crash (w0 : World) (p : Pl) (r : Rl) (D : Dk) (x : Ax) (h : Pair w0 p r D) (hx : x.At w0) (hl : x.l.length ≤ 6000) (hxo : x.l ≠ [] → ∀ g, Go.Cit.blk x.a = some g → p.Off g ∧ r.Off g) (hk : x.kind = 6) :
    Calls Tryz.prog 7 #[.pointer (some ⟨p.b, 0, none⟩), .pointer (some ⟨r.b, 0, none⟩), .agg x.cs.toArray] w0 fun e w' => e = .returned (.bool true) ∧ (∃ D', Pair w' p r D') ∧ Save (fun k => p.Off k ∧ r.Off k) w0 w' := by
  obtain ⟨w1, hw1⟩ : ∃ w1, w1 = w0.alloc (.cells x.cs.toArray 33) := ⟨_, rfl⟩
  obtain ⟨hbx, h1, hx1, hs1, hof, hnew, hsz⟩ := ax_box w0 p r D x h hx w1 hw1
  have H1 := Lib.hid h1
  have HS1 := Lib.hid hs1
  have HX1 := Lib.hid hx1
  have HBX := Lib.hid hbx
  have HOF := Lib.hid hof
  have HNEW := Lib.hid hnew
  have HSZ := Lib.hid hsz
  have HXO := Lib.hid hxo
  have HL := Lib.hid hl
  obtain ⟨c0, c1, c2, c3, c4⟩ := hbx.cells
  clear h hx h1 hs1 hx1 hbx hof hnew hsz hxo hl
  have hf := crash_calls w1 p D H1.out.d x.a x.l x.c HX1.out.row (fun hne g hg => (HXO.out hne g hg).1)
  obtain ⟨E, hE⟩ : ∃ E, Hid (E = crashE D) := ⟨_, rfl⟩
  rw [← hE.out] at hf
  rw [hk] at c0
  go_enter Tryz.func7, Tryz.ntmps7
  go_wp2_with fail
  rw [← hw1]
  clear hw1
  refine (hf).mono ?_
  rintro e w2 ⟨rfl, hD2, hs2⟩
  have HS2 := Lib.hid hs2
  have HROW : Hid (Row w2 x.a x.l x.c) := HX1.out.row.save' hs2 (fun hne g hg => (HXO.out hne g hg).1)
  obtain ⟨d0, d1, d2, d3, d4⟩ := (HBX.out.save hs2 HOF.out.1).cells
  have hf2 := rcrash_calls w2 r D (H1.out.ref HS2.out) x.a x.l x.c HROW.out (fun hne g hg => (HXO.out hne g hg).2)
  rw [← hE.out] at hf2
  clear c0 c1 c2 c3 c4 hs2
  go_wp2_with fail
  refine (hf2).mono ?_
  rintro e w3 ⟨rfl, hR3, hs3⟩
  have HP := Lib.hid (H1.out.both hD2 hR3 hs3)
  have HS := Lib.hid (HS1.out.trans (psaves HS2.out hs3))
  clear hD2 hR3 hs3 d0 d1 d2 d3 d4
  go_wp2_with fail
  go_ret
  exact ⟨ret_bool (by simp), ⟨_, HP.out⟩, HS.out⟩
set_option maxRecDepth 100000 in
set_option maxHeartbeats 4000000 in
theorem one15_start (w0 : World) (p : Pl) (r : Rl) (D : Dk) (x : Ax) (h : Pair w0 p r D) (hx : x.At w0) (hl : x.l.length ≤ 6000) (hxo : x.l ≠ [] → ∀ g, Go.Cit.blk x.a = some g → p.Off g ∧ r.Off g) (hk : x.kind = 7) :
    Calls Tryz.prog 7 #[.pointer (some ⟨p.b, 0, none⟩), .pointer (some ⟨r.b, 0, none⟩), .agg x.cs.toArray] w0 fun e w' => e = .returned (.bool true) ∧ (∃ D', Pair w' p r D') ∧ Save (fun k => p.Off k ∧ r.Off k) w0 w' := by
  obtain ⟨w1, hw1⟩ : ∃ w1, w1 = w0.alloc (.cells x.cs.toArray 33) := ⟨_, rfl⟩
  obtain ⟨hbx, h1, hx1, hs1, hof, hnew, hsz⟩ := ax_box w0 p r D x h hx w1 hw1
  have H1 := Lib.hid h1
  have HS1 := Lib.hid hs1
  have HX1 := Lib.hid hx1
  have HBX := Lib.hid hbx
  have HOF := Lib.hid hof
  have HNEW := Lib.hid hnew
  have HSZ := Lib.hid hsz
  have HXO := Lib.hid hxo
  have HL := Lib.hid hl
  obtain ⟨c0, c1, c2, c3, c4⟩ := hbx.cells
  clear h hx h1 hs1 hx1 hbx hof hnew hsz hxo hl
  have hf := start_calls w1 p D H1.out.d
  obtain ⟨E, hE⟩ : ∃ E, Hid (E = startE D) := ⟨_, rfl⟩
  rw [← hE.out] at hf
  rw [hk] at c0
  go_enter Tryz.func7, Tryz.ntmps7
  go_wp2_with fail
  rw [← hw1]
  clear hw1
  refine (hf).mono ?_
  rintro e w2 ⟨rfl, hD2, hs2⟩
  have HS2 := Lib.hid hs2
  have HROW : Hid (Row w2 x.a x.l x.c) := HX1.out.row.save' hs2 (fun hne g hg => (HXO.out hne g hg).1)
  obtain ⟨d0, d1, d2, d3, d4⟩ := (HBX.out.save hs2 HOF.out.1).cells
  have hf2 := rstart_calls w2 r D (H1.out.ref HS2.out)
  rw [← hE.out] at hf2
  clear c0 c1 c2 c3 c4 hs2
  go_wp2_with fail
  refine (hf2).mono ?_
  rintro e w3 ⟨rfl, hR3, hs3⟩
  have HP := Lib.hid (H1.out.both hD2 hR3 hs3)
  have HS := Lib.hid (HS1.out.trans (psaves HS2.out hs3))
  clear hD2 hR3 hs3 d0 d1 d2 d3 d4
  go_wp2_with fail
  go_ret
  exact ⟨ret_bool (by simp), ⟨_, HP.out⟩, HS.out⟩
set_option maxRecDepth 100000 in
set_option maxHeartbeats 4000000 in
theorem one15_arm (w0 : World) (p : Pl) (r : Rl) (D : Dk) (x : Ax) (h : Pair w0 p r D) (hx : x.At w0) (hl : x.l.length ≤ 6000) (hxo : x.l ≠ [] → ∀ g, Go.Cit.blk x.a = some g → p.Off g ∧ r.Off g) (hk : x.kind = 8) :
    Calls Tryz.prog 7 #[.pointer (some ⟨p.b, 0, none⟩), .pointer (some ⟨r.b, 0, none⟩), .agg x.cs.toArray] w0 fun e w' => e = .returned (.bool true) ∧ (∃ D', Pair w' p r D') ∧ Save (fun k => p.Off k ∧ r.Off k) w0 w' := by
  obtain ⟨w1, hw1⟩ : ∃ w1, w1 = w0.alloc (.cells x.cs.toArray 33) := ⟨_, rfl⟩
  obtain ⟨hbx, h1, hx1, hs1, hof, hnew, hsz⟩ := ax_box w0 p r D x h hx w1 hw1
  have H1 := Lib.hid h1
  have HS1 := Lib.hid hs1
  have HX1 := Lib.hid hx1
  have HBX := Lib.hid hbx
  have HOF := Lib.hid hof
  have HNEW := Lib.hid hnew
  have HSZ := Lib.hid hsz
  have HXO := Lib.hid hxo
  have HL := Lib.hid hl
  obtain ⟨c0, c1, c2, c3, c4⟩ := hbx.cells
  clear h hx h1 hs1 hx1 hbx hof hnew hsz hxo hl
  have hf := arm_calls w1 p D H1.out.d x.at_ HX1.out.hn.2 x.a x.l x.c HX1.out.row (by have := HL.out; omega)
  obtain ⟨E, hE⟩ : ∃ E, Hid (E = armE D x.at_) := ⟨_, rfl⟩
  rw [← hE.out] at hf
  rw [hk] at c0
  go_enter Tryz.func7, Tryz.ntmps7
  go_wp2_with fail
  rw [← hw1]
  clear hw1
  refine (hf).mono ?_
  rintro e w2 ⟨rfl, hD2, hs2⟩
  have HS2 := Lib.hid hs2
  have HROW : Hid (Row w2 x.a x.l x.c) := HX1.out.row.save' hs2 (fun hne g hg => (HXO.out hne g hg).1)
  obtain ⟨d0, d1, d2, d3, d4⟩ := (HBX.out.save hs2 HOF.out.1).cells
  have hf2 := rarm_calls w2 r D (H1.out.ref HS2.out) x.at_ HX1.out.hn.2 x.a x.l x.c HROW.out (by have := HL.out; omega) (fun hne g hg => (HXO.out hne g hg).2.1)
  rw [← hE.out] at hf2
  clear c0 c1 c2 c3 c4 hs2
  go_wp2_with fail
  refine (hf2).mono ?_
  rintro e w3 ⟨rfl, hR3, hs3⟩
  have HP := Lib.hid (H1.out.both hD2 hR3 hs3)
  have HS := Lib.hid (HS1.out.trans (psaves HS2.out hs3))
  clear hD2 hR3 hs3 d0 d1 d2 d3 d4
  go_wp2_with fail
  go_ret
  exact ⟨ret_bool (by simp), ⟨_, HP.out⟩, HS.out⟩
set_option maxRecDepth 100000 in
set_option maxHeartbeats 4000000 in
theorem one15_else (w0 : World) (p : Pl) (r : Rl) (D : Dk) (x : Ax) (h : Pair w0 p r D) (hx : x.At w0) (hl : x.l.length ≤ 6000) (hxo : x.l ≠ [] → ∀ g, Go.Cit.blk x.a = some g → p.Off g ∧ r.Off g) (hk : ¬ (0 ≤ x.kind ∧ x.kind ≤ 8)) :
    Calls Tryz.prog 7 #[.pointer (some ⟨p.b, 0, none⟩), .pointer (some ⟨r.b, 0, none⟩), .agg x.cs.toArray] w0 fun e w' => e = .returned (.bool true) ∧ (∃ D', Pair w' p r D') ∧ Save (fun k => p.Off k ∧ r.Off k) w0 w' := by
  obtain ⟨w1, hw1⟩ : ∃ w1, w1 = w0.alloc (.cells x.cs.toArray 33) := ⟨_, rfl⟩
  obtain ⟨hbx, h1, hx1, hs1, hof, hnew, hsz⟩ := ax_box w0 p r D x h hx w1 hw1
  have H1 := Lib.hid h1
  have HS1 := Lib.hid hs1
  have HX1 := Lib.hid hx1
  have HBX := Lib.hid hbx
  have HOF := Lib.hid hof
  have HNEW := Lib.hid hnew
  have HSZ := Lib.hid hsz
  have HXO := Lib.hid hxo
  have HL := Lib.hid hl
  obtain ⟨c0, c1, c2, c3, c4⟩ := hbx.cells
  clear h hx h1 hs1 hx1 hbx hof hnew hsz hxo hl
  have t0 : ¬ x.kind = 0 := by omega
  have t1 : ¬ x.kind = 1 := by omega
  have t2 : ¬ x.kind = 2 := by omega
  have t3 : ¬ x.kind = 3 := by omega
  have t4 : ¬ x.kind = 4 := by omega
  have t5 : ¬ x.kind = 5 := by omega
  have t6 : ¬ x.kind = 6 := by omega
  have t7 : ¬ x.kind = 7 := by omega
  have t8 : ¬ x.kind = 8 := by omega
  go_enter Tryz.func7, Tryz.ntmps7
  go_wp2_with fail
  rw [← hw1]
  clear hw1
  go_ret
  exact ⟨rfl, ⟨_, H1.out⟩, HS1.out⟩
set_option maxRecDepth 100000 in
set_option maxHeartbeats 4000000 in
theorem one15_read (w0 : World) (p : Pl) (r : Rl) (D : Dk) (x : Ax) (h : Pair w0 p r D) (hx : x.At w0) (hl : x.l.length ≤ 6000) (hxo : x.l ≠ [] → ∀ g, Go.Cit.blk x.a = some g → p.Off g ∧ r.Off g) (hk : x.kind = 3) :
    Calls Tryz.prog 7 #[.pointer (some ⟨p.b, 0, none⟩), .pointer (some ⟨r.b, 0, none⟩), .agg x.cs.toArray] w0 fun e w' => e = .returned (.bool true) ∧ (∃ D', Pair w' p r D') ∧ Save (fun k => p.Off k ∧ r.Off k) w0 w' := by
  obtain ⟨w1, hw1⟩ : ∃ w1, w1 = w0.alloc (.cells x.cs.toArray 33) := ⟨_, rfl⟩
  obtain ⟨hbx, h1, hx1, hs1, hof, hnew, hsz⟩ := ax_box w0 p r D x h hx w1 hw1
  have H1 := Lib.hid h1
  have HS1 := Lib.hid hs1
  have HX1 := Lib.hid hx1
  have HBX := Lib.hid hbx
  have HOF := Lib.hid hof
  have HNEW := Lib.hid hnew
  have HSZ := Lib.hid hsz
  have HXO := Lib.hid hxo
  have HL := Lib.hid hl
  obtain ⟨c0, c1, c2, c3, c4⟩ := hbx.cells
  clear h hx h1 hs1 hx1 hbx hof hnew hsz hxo hl
  have hf := sread_any w1 p D H1.out.d x.slot x.at_ HX1.out.hs HX1.out.hn
  obtain ⟨E, hE⟩ : ∃ E, Hid (E = (rdA D x.slot x.at_).2) := ⟨_, rfl⟩
  obtain ⟨M, hM⟩ : ∃ E, Hid (E = (rdA D x.slot x.at_).1) := ⟨_, rfl⟩
  rw [← hE.out, ← hM.out] at hf
  rw [hk] at c0
  go_enter Tryz.func7, Tryz.ntmps7
  go_wp2_with fail
  rw [← hw1]
  clear hw1
  refine (hf).mono ?_
  rintro e w2 ⟨a2, cc2, m2, rfl, hm2, hr2, hb2⟩
  have H2 := Lib.hid (H1.out.stay hb2)
  obtain ⟨d0, d1, d2, d3, d4⟩ := (HBX.out.stay hb2).cells
  have hf2 := rrd_any w2 r D H2.out.r H1.out.d.ok x.slot x.at_ HX1.out.hs HX1.out.hn
  rw [← hE.out, ← hM.out] at hf2
  subst hm2
  have HR2 := Lib.hid hr2
  have HB2 := Lib.hid hb2
  clear c0 c1 c2 c3 c4 hb2 hr2 hf
  go_wp2_with fail
  refine (hf2).mono ?_
  rintro e w3 ⟨a3, cc3, m3, rfl, hm3, hr3, hb3⟩
  subst hm3
  have hsm := rsame_self w3 a2 a3 m3 cc2 cc3 (HR2.out.stay hb3) hr3
  have H3 := Lib.hid (H2.out.stay hb3)
  have HB3 := Lib.hid (HB2.out.trans (hb3.mono HB2.out.size))
  clear d0 d1 d2 d3 d4 hb3 hr3 hf2
  go_wp2_with fail
  refine (hsm).mono ?_
  rintro e w4 ⟨rfl, hb4⟩
  have H4 := Lib.hid (H3.out.stay hb4)
  have HB4 := Lib.hid (HB3.out.trans (hb4.mono HB3.out.size))
  clear hsm hb4
  go_wp2_with fail
  go_ret
  exact ⟨ret_bool (by simp), ⟨_, H4.out⟩, HS1.out.trans (Save.of HB4.out)⟩
set_option maxRecDepth 100000 in
set_option maxHeartbeats 4000000 in
theorem one15_write (w0 : World) (p : Pl) (r : Rl) (D : Dk) (x : Ax) (h : Pair w0 p r D) (hx : x.At w0) (hl : x.l.length ≤ 6000) (hxo : x.l ≠ [] → ∀ g, Go.Cit.blk x.a = some g → p.Off g ∧ r.Off g) (hk : x.kind = 0 ∨ x.kind = 1 ∨ x.kind = 2) :
    Calls Tryz.prog 7 #[.pointer (some ⟨p.b, 0, none⟩), .pointer (some ⟨r.b, 0, none⟩), .agg x.cs.toArray] w0 fun e w' => e = .returned (.bool true) ∧ (∃ D', Pair w' p r D') ∧ Save (fun k => p.Off k ∧ r.Off k) w0 w' := by
  obtain ⟨w1, hw1⟩ : ∃ w1, w1 = w0.alloc (.cells x.cs.toArray 33) := ⟨_, rfl⟩
  obtain ⟨hbx, h1, hx1, hs1, hof, hnew, hsz⟩ := ax_box w0 p r D x h hx w1 hw1
  have H1 := Lib.hid h1
  have HS1 := Lib.hid hs1
  have HX1 := Lib.hid hx1
  have HBX := Lib.hid hbx
  have HOF := Lib.hid hof
  have HNEW := Lib.hid hnew
  have HSZ := Lib.hid hsz
  have HXO := Lib.hid hxo
  have HL := Lib.hid hl
  obtain ⟨c0, c1, c2, c3, c4⟩ := hbx.cells
  clear h hx h1 hs1 hx1 hbx hof hnew hsz hxo hl
  have hcp := copy_calls w1 x.a x.l x.c HX1.out.row (by have := HL.out; omega)
  rcases hk with hk | hk | hk
  all_goals
    rw [hk] at c0
    go_enter Tryz.func7, Tryz.ntmps7
    go_wp2_with fail
    rw [← hw1]
    clear hw1
    refine (hcp).mono ?_
    rintro e w2 ⟨a2, cc2, rfl, hO2, hb2⟩
    have H2 := Lib.hid (H1.out.stay hb2)
    have HB2 := Lib.hid hb2
    have HR2 := Lib.hid hO2.isRow
    have HO2 : Hid (∀ g, Go.Cit.blk a2 = some g → p.Off g ∧ r.Off g) := fun g hg => HNEW.out g (Nat.le_trans HSZ.out (hO2.blk_ge hg).1)
    have HX2 := Lib.hid (HX1.out.row.stay hb2)
    have HBX2 := Lib.hid (HBX.out.stay hb2)
    obtain ⟨d0, d1, d2, d3, d4⟩ := HBX2.out.cells
    have hw := swrite_any w2 p r D H2.out.d x.slot x.at_ HX1.out.hs HX1.out.hn a2 x.l cc2 HR2.out (fun _ g hg => (HO2.out g hg).1)
    clear c0 c1 c2 c3 c4 hO2 hb2 hcp
    go_wp2_with fail
    refine (hw).mono ?_
    rintro e w3 ⟨E, D', rfl, hD3, hs3, hAs⟩
    have HD3 := Lib.hid hD3
    have HS3 := Lib.hid hs3
    have hw2 := hAs w3 x.a x.c (H2.out.ref hs3) (HX2.out.save' hs3 (fun hne g hg => (HXO.out hne g hg).1)) (fun hne g hg => (HXO.out hne g hg).2)
    have HBX3 := Lib.hid (HBX2.out.save hs3 HOF.out.1)
    obtain ⟨e0, e1, e2, e3, e4⟩ := HBX3.out.cells
    have HR3 := Lib.hid (HR2.out.save' hs3 (fun _ g hg => (HO2.out g hg).1))
    have HX3 := Lib.hid (HX2.out.save' hs3 (fun hne g hg => (HXO.out hne g hg).1))
    clear d0 d1 d2 d3 d4 hD3 hs3 hAs hw
    go_wp2_with fail
    refine (hw2).mono ?_
    rintro e w4 ⟨rfl, hR4, hs4⟩
    have HP4 := Lib.hid (H2.out.both HD3.out hR4 hs4)
    obtain ⟨f0, f1, f2, f3, f4⟩ := (HBX3.out.save hs4 HOF.out.2).cells
    have hsm := rsame_self w4 a2 x.a x.l cc2 x.c (HR3.out.save' hs4 (fun _ g hg => (HO2.out g hg).2)) (HX3.out.save' hs4 (fun hne g hg => (HXO.out hne g hg).2))
    have HSV := Lib.hid (HS1.out.trans ((Save.of HB2.out).trans (psaves HS3.out hs4)))
    clear e0 e1 e2 e3 e4 hR4 hs4 hw2
    go_wp2_with fail
    refine (hsm).mono ?_
    rintro e w5 ⟨rfl, hb5⟩
    have HP5 := Lib.hid (HP4.out.stay hb5)
    have HS5 := Lib.hid (HSV.out.trans (Save.of hb5))
    clear f0 f1 f2 f3 f4 hb5 hsm
    go_wp2_with fail
    go_ret
    exact ⟨ret_bool (by simp), ⟨_, HP5.out⟩, HS5.out⟩
end Go.Proofs.YtofagofpeedfcaaGreat
