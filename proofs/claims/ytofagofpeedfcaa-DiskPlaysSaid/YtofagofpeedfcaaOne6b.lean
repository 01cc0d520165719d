/- Chapter 6's law: one, the other acts: walked. -/
import Derived.Test.YtofagofpeedfcaaOne6
namespace Go.Proofs.Ytofagofpeedfcaa
open Go Go.RowKit Go.Cit

theorem Pair.saves {w w1 w2 : World} {p : Pl} {r : Rl} (h : Save p.Off w w1) (k : Save r.Off w1 w2) : Save (fun k => p.Off k ∧ r.Off k) w w2 := (h.less (fun _ _ h => h.1)).trans (k.less (fun _ _ h => h.2))
/-- The act's box, and what lies there. -/
theorem one_box (w0 : World) (p : Pl) (r : Rl) (D : Dk) (x : Ac) (h : Pair w0 p r D) (hx : x.At w0) (w1 : World) (hw1 : w1 = w0.alloc (.cells x.cs.toArray 24)) :
    (w1.cell? ⟨w0.heap.size, 0, none⟩ = some (.int .i64 x.kind) ∧ w1.cell? ⟨w0.heap.size, 1, none⟩ = some (.int .i64 x.n) ∧ w1.cell? ⟨w0.heap.size, 2, none⟩ = some (.slice x.a x.l.length x.c)) ∧ Pair w1 p r D ∧ x.At w1 ∧ Save (fun k => p.Off k ∧ r.Off k) w0 w1 ∧ p.Off w0.heap.size ∧ r.Off w0.heap.size ∧ w1.heap.size = w0.heap.size + 1 := by
  have B1 : Below w0.heap.size w0 w1 := by rw [hw1]; exact (Below.refl _ w0).alloc (Nat.le_refl _) _
  have x1 : w1.heap[w0.heap.size]? = some (.cells x.cs.toArray 24 (0, 0)) := by rw [hw1]; exact heap_alloc_new _ _
  have hd := h.d.lt
  have hlr : r.b < w0.heap.size ∧ r.lb < w0.heap.size := by
    obtain ⟨L9, c9, sa9, sc9, hr9⟩ := h.r
    exact ⟨(Array.getElem?_eq_some_iff.1 hr9.box).1, (Array.getElem?_eq_some_iff.1 hr9.held.blk.choose_spec).1⟩
  refine ⟨⟨?_, ?_, ?_⟩, h.stay B1, hx.stay B1, Save.of B1, ⟨by omega, by omega, by omega⟩, ⟨by omega, by omega⟩, by rw [hw1]; simp⟩ <;> (rw [World.cell?, x1]; rfl)
set_option maxRecDepth 100000 in
set_option maxHeartbeats 4000000 in
theorem one_flush (w0 : World) (p : Pl) (r : Rl) (D : Dk) (x : Ac) (h : Pair w0 p r D) (hx : x.At w0) (hk : x.kind = 3 ∨ x.kind = 4) :
    Calls Try.prog 26 #[.pointer (some ⟨p.b, 0, none⟩), .pointer (some ⟨r.b, 0, none⟩), .agg x.cs.toArray] w0 fun e w' => e = .returned (.bool true) ∧ Pair w' p r (flushT D) ∧ Save (fun k => p.Off k ∧ r.Off k) w0 w' := by
  obtain ⟨w1, hw1⟩ : ∃ w1, w1 = w0.alloc (.cells x.cs.toArray 24) := ⟨_, rfl⟩
  obtain ⟨⟨c0, _, _⟩, h1, _, hs1, _⟩ := one_box w0 p r D x h hx w1 hw1
  have hf := flush_calls w1 p D h1.d
  have H1 := Lib.hid h1
  have HS1 := Lib.hid hs1
  obtain ⟨E, hE⟩ : ∃ E, Hid (E = flushE D) := ⟨_, rfl⟩
  rw [← hE.out] at hf
  clear h hx h1 hs1
  rcases hk with hk | hk
  all_goals
    rw [hk] at c0
    go_enter Try.func26, Try.ntmps26
    go_wp2_with fail
    rw [← hw1]
    clear hw1
    refine (hf).mono ?_
    rintro e w2 ⟨rfl, hD2, hs2⟩
    have hf2 := rflush_calls w2 r D (H1.out.ref hs2)
    rw [← hE.out] at hf2
    go_wp2_with fail
    refine (hf2).mono ?_
    rintro e w3 ⟨rfl, hR3, hs3⟩
    go_wp2_with fail
    go_ret
    exact ⟨ret_bool (by simp), H1.out.both hD2 hR3 hs3, HS1.out.trans (Pair.saves hs2 hs3)⟩
set_option maxRecDepth 100000 in
set_option maxHeartbeats 4000000 in
theorem one_start (w0 : World) (p : Pl) (r : Rl) (D : Dk) (x : Ac) (h : Pair w0 p r D) (hx : x.At w0) (hk : x.kind = 7 ∨ x.kind = 8) :
    Calls Try.prog 26 #[.pointer (some ⟨p.b, 0, none⟩), .pointer (some ⟨r.b, 0, none⟩), .agg x.cs.toArray] w0 fun e w' => e = .returned (.bool true) ∧ Pair w' p r (startD D) ∧ Save (fun k => p.Off k ∧ r.Off k) w0 w' := by
  obtain ⟨w1, hw1⟩ : ∃ w1, w1 = w0.alloc (.cells x.cs.toArray 24) := ⟨_, rfl⟩
  obtain ⟨⟨c0, _, _⟩, h1, _, hs1, _⟩ := one_box w0 p r D x h hx w1 hw1
  have hf := start_calls w1 p D h1.d
  have H1 := Lib.hid h1
  have HS1 := Lib.hid hs1
  obtain ⟨E, hE⟩ : ∃ E, Hid (E = startE D) := ⟨_, rfl⟩
  rw [← hE.out] at hf
  clear h hx h1 hs1
  rcases hk with hk | hk
  all_goals
    rw [hk] at c0
    go_enter Try.func26, Try.ntmps26
    go_wp2_with fail
    rw [← hw1]
    clear hw1
    refine (hf).mono ?_
    rintro e w2 ⟨rfl, hD2, hs2⟩
    have hf2 := rstart_calls w2 r D (H1.out.ref hs2)
    rw [← hE.out] at hf2
    go_wp2_with fail
    refine (hf2).mono ?_
    rintro e w3 ⟨rfl, hR3, hs3⟩
    go_wp2_with fail
    go_ret
    exact ⟨ret_bool (by simp), H1.out.both hD2 hR3 hs3, HS1.out.trans (Pair.saves hs2 hs3)⟩
set_option maxRecDepth 100000 in
set_option maxHeartbeats 4000000 in
theorem one_crash (w0 : World) (p : Pl) (r : Rl) (D : Dk) (x : Ac) (h : Pair w0 p r D) (hx : x.At w0) (hk : x.kind = 5) (hxo : x.l ≠ [] → ∀ g, Go.Cit.blk x.a = some g → p.Off g ∧ r.Off g) :
    Calls Try.prog 26 #[.pointer (some ⟨p.b, 0, none⟩), .pointer (some ⟨r.b, 0, none⟩), .agg x.cs.toArray] w0 fun e w' => e = .returned (.bool true) ∧ Pair w' p r (crashT x.l D) ∧ Save (fun k => p.Off k ∧ r.Off k) w0 w' := by
  obtain ⟨w1, hw1⟩ : ∃ w1, w1 = w0.alloc (.cells x.cs.toArray 24) := ⟨_, rfl⟩
  obtain ⟨⟨c0, _, c2⟩, h1, hx1, hs1, po, ro, sz⟩ := one_box w0 p r D x h hx w1 hw1
  have hf := crash_calls w1 p D h1.d x.a x.l x.c hx1.row (fun hne g hg => (hxo hne g hg).1)
  have H1 := Lib.hid h1
  have HS1 := Lib.hid hs1
  have HX1 := Lib.hid hx1
  have HO := Lib.hid hxo
  obtain ⟨Bx, hBx⟩ : ∃ B, Hid (B = w0.heap.size) := ⟨_, rfl⟩
  rw [← hBx.out] at c0 c2 po ro sz
  have HPO := Lib.hid po
  obtain ⟨E, hE⟩ : ∃ E, Hid (E = crashE D) := ⟨_, rfl⟩
  rw [← hE.out] at hf
  have HSZ := Lib.hid sz
  clear h hx h1 hs1 hxo hx1 po ro sz
  rw [hk] at c0
  go_enter Try.func26, Try.ntmps26
  go_wp2_with fail
  rw [← hw1]
  rw [← hBx.out]
  clear hw1
  refine (hf).mono ?_
  rintro e w2 ⟨rfl, hD2, hs2⟩
  have e2 := (hs2.cell (by show Bx < _; have := HSZ.out; omega) HPO.out).trans c2
  have hf2 := rcrash_calls w2 r D (H1.out.ref hs2) x.a x.l x.c (HX1.out.row.save' hs2 (fun hne g hg => (HO.out hne g hg).1)) (fun hne g hg => (HO.out hne g hg).2)
  rw [← hE.out] at hf2
  clear c2
  go_wp2_with fail
  refine (hf2).mono ?_
  rintro e w3 ⟨rfl, hR3, hs3⟩
  go_wp2_with fail
  go_ret
  exact ⟨ret_bool (by simp), H1.out.both hD2 hR3 hs3, HS1.out.trans (Pair.saves hs2 hs3)⟩
set_option maxRecDepth 100000 in
set_option maxHeartbeats 4000000 in
theorem one_read (w0 : World) (p : Pl) (r : Rl) (D : Dk) (x : Ac) (h : Pair w0 p r D) (hx : x.At w0) (hk : x.kind = 9) :
    Calls Try.prog 26 #[.pointer (some ⟨p.b, 0, none⟩), .pointer (some ⟨r.b, 0, none⟩), .agg x.cs.toArray] w0 fun e w' => e = .returned (.bool true) ∧ Pair w' p r D ∧ Save (fun k => p.Off k ∧ r.Off k) w0 w' := by
  obtain ⟨w1, hw1⟩ : ∃ w1, w1 = w0.alloc (.cells x.cs.toArray 24) := ⟨_, rfl⟩
  obtain ⟨⟨c0, c1, _⟩, h1, _, hs1, _⟩ := one_box w0 p r D x h hx w1 hw1
  have hf := read_calls w1 p D h1.d x.n
  have H1 := Lib.hid h1
  have HS1 := Lib.hid hs1
  obtain ⟨E, hE⟩ : ∃ E, Hid (E = readE D x.n) := ⟨_, rfl⟩
  obtain ⟨R, hR⟩ : ∃ R, Hid (R = readR D x.n) := ⟨_, rfl⟩
  rw [← hE.out, ← hR.out] at hf
  clear h hx h1 hs1
  rw [hk] at c0
  go_enter Try.func26, Try.ntmps26
  go_wp2_with fail
  rw [← hw1]
  clear hw1
  refine (hf).mono ?_
  rintro e w2 ⟨a2, c2, rfl, hM2, hb2⟩
  have d1 := keep hb2 c1
  have hf2 := rread_calls w2 r D (H1.out.r.stay hb2) x.n
  rw [← hE.out, ← hR.out] at hf2
  go_wp2_with fail
  refine (hf2).mono ?_
  rintro e w3 ⟨a3, c3, rfl, hO3, hb3⟩
  have hsm := same_calls w3 a2 a3 R R c2 c3 (hM2.row.stay hb3) hO3.isRow
  rw [ordB_self] at hsm
  have HB3 := Lib.hid ((hb2.trans (hb3.mono hb2.size)))
  clear hb2 hb3 hM2 hO3 d1 c1
  go_wp2_with fail
  refine (hsm).mono ?_
  rintro e w4 ⟨rfl, hd⟩
  have HB4 := Lib.hid (HB3.out.trans ((hd.below _).mono HB3.out.size))
  clear hd hsm
  go_wp2_with fail
  go_ret
  exact ⟨ret_bool (by simp), H1.out.stay HB4.out, HS1.out.trans (Save.of HB4.out)⟩
set_option maxRecDepth 100000 in
set_option maxHeartbeats 4000000 in
theorem one_else (w0 : World) (p : Pl) (r : Rl) (D : Dk) (x : Ac) (h : Pair w0 p r D) (hx : x.At w0) (hk : x.kind < 0 ∨ 9 < x.kind) :
    Calls Try.prog 26 #[.pointer (some ⟨p.b, 0, none⟩), .pointer (some ⟨r.b, 0, none⟩), .agg x.cs.toArray] w0 fun e w' => e = .returned (.bool true) ∧ Pair w' p r D ∧ Save (fun k => p.Off k ∧ r.Off k) w0 w' := by
  obtain ⟨w1, hw1⟩ : ∃ w1, w1 = w0.alloc (.cells x.cs.toArray 24) := ⟨_, rfl⟩
  obtain ⟨⟨c0, c1, _⟩, h1, _, hs1, _⟩ := one_box w0 p r D x h hx w1 hw1
  have H1 := Lib.hid h1
  have HS1 := Lib.hid hs1
  have t0 : (x.kind == 0) = false := by simp; omega
  have t1 : (x.kind == 1) = false := by simp; omega
  have t2 : (x.kind == 2) = false := by simp; omega
  have t3 : (x.kind == 3) = false := by simp; omega
  have t4 : (x.kind == 4) = false := by simp; omega
  have t5 : (x.kind == 5) = false := by simp; omega
  have t6 : (x.kind == 6) = false := by simp; omega
  have t7 : (x.kind == 7) = false := by simp; omega
  have t8 : (x.kind == 8) = false := by simp; omega
  have t9 : (x.kind == 9) = false := by simp; omega
  clear h hx h1 hs1 hk
  go_enter Try.func26, Try.ntmps26
  go_wp2_with fail
  rw [← hw1]
  clear hw1
  go_ret
  exact ⟨rfl, H1.out, HS1.out⟩

set_option maxRecDepth 100000 in
set_option maxHeartbeats 4000000 in
theorem one_arm (w0 : World) (p : Pl) (r : Rl) (D : Dk) (x : Ac) (h : Pair w0 p r D) (hx : x.At w0) (hl : x.l.length ≤ 6000) (hk : x.kind = 6) (hxo : x.l ≠ [] → ∀ g, Go.Cit.blk x.a = some g → p.Off g ∧ r.Off g) :
    Calls Try.prog 26 #[.pointer (some ⟨p.b, 0, none⟩), .pointer (some ⟨r.b, 0, none⟩), .agg x.cs.toArray] w0 fun e w' => e = .returned (.bool true) ∧ Pair w' p r (armD D x.n x.l) ∧ Save (fun k => p.Off k ∧ r.Off k) w0 w' := by
  obtain ⟨w1, hw1⟩ : ∃ w1, w1 = w0.alloc (.cells x.cs.toArray 24) := ⟨_, rfl⟩
  obtain ⟨⟨c0, c1, c2⟩, h1, hx1, hs1, po, ro, sz⟩ := one_box w0 p r D x h hx w1 hw1
  have hc := copy_calls w1 x.a x.l x.c hx1.row (by omega)
  have HP1 := Lib.hid h1
  have HS1 := Lib.hid hs1
  have HX1 := Lib.hid hx1
  have HO := Lib.hid hxo
  obtain ⟨Bx, hBx⟩ : ∃ B, Hid (B = w0.heap.size) := ⟨_, rfl⟩
  rw [← hBx.out] at c0 c1 c2 po ro sz
  have HPO := Lib.hid po
  have HSZ := Lib.hid sz
  obtain ⟨E, hE⟩ : ∃ E, Hid (E = armE D x.n) := ⟨_, rfl⟩
  have hn9 := hx.hn.2
  have HN9 := Lib.hid hn9
  clear h hx h1 hs1 hxo hx1 po ro sz hn9
  rw [hk] at c0
  go_enter Try.func26, Try.ntmps26
  go_wp2_with fail
  rw [← hw1]
  rw [← hBx.out]
  clear hw1
  refine (hc).mono ?_
  rintro e w2 ⟨am, cm, rfl, hOm, hb2⟩
  have HHX := Lib.hid HP1.out.hx
  have HLT := Lib.hid HP1.out.d.lt
  have HP2 := Lib.hid (HP1.out.more hb2)
  obtain ⟨p2, hp2⟩ : ∃ q, Hid (q = p.more w1.heap.size w2.heap.size) := ⟨_, rfl⟩
  obtain ⟨r2, hr2⟩ : ∃ q, Hid (q = r.more w1.heap.size w2.heap.size) := ⟨_, rfl⟩
  have HRB : Hid (r2.b = r.b ∧ r2.lb = r.lb ∧ r2.B = r.B) := by rw [hr2.out]; exact ⟨rfl, rfl, rfl⟩
  have HPB : Hid (p2.b = p.b ∧ p2.sb = p.sb ∧ p2.mb = p.mb) := by rw [hp2.out]; exact ⟨rfl, rfl, rfl⟩
  rw [← hp2.out, ← hr2.out] at HP2
  have HOm := Lib.hid hOm
  have HX2 := Lib.hid (HX1.out.stay hb2)
  have c1 := keep hb2 c1
  have c2 := keep hb2 c2
  have HB2 := Lib.hid hb2
  have har := arm_calls w2 p2 D HP2.out.d x.n HN9.out am x.l cm hOm.isRow (by omega)
  rw [HPB.out.1, ← hE.out] at har
  have HLR : Hid (r.b < w1.heap.size ∧ r.lb < w1.heap.size) := by
    obtain ⟨L9, c9, sa9, sc9, hr9⟩ := HP1.out.r
    exact ⟨(Array.getElem?_eq_some_iff.1 hr9.box).1, (Array.getElem?_eq_some_iff.1 hr9.held.blk.choose_spec).1⟩
  clear hOm hb2 hc
  go_wp2_with fail
  refine (har).mono ?_
  rintro e w3 ⟨rfl, hD3, hs3⟩
  have hbx : Bx < w2.heap.size := by have h1 := HB2.out.size; have h2 := HSZ.out; omega
  have hbo : p2.Off Bx := ⟨by rw [HPB.out.1]; exact HPO.out.1, by rw [HPB.out.2.1]; exact HPO.out.2.1, by rw [HPB.out.2.2]; exact HPO.out.2.2⟩
  have e1 : w3.cell? ⟨Bx, 1, none⟩ = some (.int .i64 x.n) := (hs3.cell hbx hbo).trans c1
  have e2 : w3.cell? ⟨Bx, 2, none⟩ = some (.slice x.a x.l.length x.c) := (hs3.cell hbx hbo).trans c2
  have hXr := HX2.out.row.save' hs3 (fun hne g hg => ⟨by rw [HPB.out.1]; exact (HO.out hne g hg).1.1, by rw [HPB.out.2.1]; exact (HO.out hne g hg).1.2.1, by rw [HPB.out.2.2]; exact (HO.out hne g hg).1.2.2⟩)
  have hra := rarm_calls w3 r2 D (HP2.out.ref hs3) x.n HN9.out x.a x.l x.c hXr (by omega) (fun hne g hg => by rw [HRB.out.1]; exact (HO.out hne g hg).2.1)
  rw [HRB.out.1, ← hE.out] at hra
  have HOm3 : Hid (Cit.Own 5 w1.heap.size w3 am x.l cm) := HOm.out.save hs3 (fun g hg => ⟨by rw [HPB.out.1]; have := (HOm.out.blk_ge hg).1; have := HLT.out; omega, by rw [HPB.out.2.1]; have := (HOm.out.blk_ge hg).1; have := HLT.out; omega, by rw [HPB.out.2.2]; have := (HOm.out.blk_ge hg).1; have := HLT.out; omega⟩)
  have HD3 := Lib.hid hD3
  have HS3 := Lib.hid hs3
  clear c1 c2 hXr har hD3 hs3 hbx hbo
  go_wp2_with fail
  refine (hra).mono ?_
  rintro e wz ⟨rfl, hRf, hSf⟩
  have HOF : ∀ g, Go.Cit.blk am = some g → r2.Off g := fun g hg => by
    have h1 := (HOm.out.blk_ge hg).1
    have h2 := HLR.out
    exact ⟨by rw [HRB.out.1]; omega, by rw [HRB.out.2.1]; omega⟩
  have HPZ := Lib.hid (HP2.out.both HD3.out hRf hSf)
  have HOZ := Lib.hid (HOm3.out.save hSf HOF)
  have HSZ9 : Hid (Save (fun k => p.Off k ∧ r.Off k) w0 wz) := (HS1.out.trans (Save.of HB2.out)).trans ((HS3.out.less (fun k _ hk => ⟨by rw [HPB.out.1]; exact hk.1.1, by rw [HPB.out.2.1]; exact hk.1.2.1, by rw [HPB.out.2.2]; exact hk.1.2.2⟩)).trans (hSf.less (fun k _ hk => ⟨by rw [HRB.out.1]; exact hk.2.1, by rw [HRB.out.2.1]; exact hk.2.2⟩)))
  obtain ⟨n3, hn3⟩ : ∃ n, Hid (n = x.l.length) := ⟨_, rfl⟩
  rw [← hn3.out]
  have hb9 : n3 ≤ 6000 := by rw [hn3.out]; exact hl
  clear hRf hSf e1 e2 hra HOF
  go_wp2_with fail
  go_loopw [16] (fun j wq => ∃ (q : Nat) (m : List UInt8), q ≤ n3 ∧ j = .int .i64 (q : Int) ∧ Hid (m.length = n3) ∧ Hid (Cit.Own 5 w1.heap.size wq am m cm ∧ Pair wq p2 r2 (armD D x.n x.l) ∧ Save (fun k => p.Off k ∧ r.Off k) w0 wq)) (fun j _ => n3 - (intOf j).toNat)
  case atStart => exact ⟨0, x.l, Nat.zero_le _, rfl, hn3.out.symm, HOZ.out, HPZ.out, HSZ9.out⟩
  case round =>
    obtain ⟨q, m, hq, rfl, HML, HMM⟩ := hrel
    by_cases hlq : q < n3
    · have hqm : q < m.length := by rw [HML.out]; exact hlq
      have ij := HMM.out.1.isRow.index bt.slice bt.sz q hqm
      have ej := HMM.out.1.isRow.cell q hqm
      have fj := HMM.out.1.frozen q hqm
      rw [HML.out] at ij
      obtain ⟨st1, st2⟩ := HMM.out.1.stored q hqm (bAdd m[q] (bI 1))
      have hsv : Save (fun k => Go.Cit.blk am ≠ some k) wr (wr.setCell (ad am q) (vb (bAdd m[q] (bI 1)))) := (Save.grown st2).less (fun k _ hk e => hk (by rw [e]))
      have hgm : ∀ k, Go.Cit.blk am = some k → w1.heap.size ≤ k ∧ k < w2.heap.size := fun k hk => HOm.out.blk_ge hk
      have hPn : Pair (wr.setCell (ad am q) (vb (bAdd m[q] (bI 1)))) p2 r2 (armD D x.n x.l) := by
        have h0 := HMM.out.2.1
        rw [hp2.out, hr2.out] at h0 ⊢
        exact h0.free hsv (fun k hk e => hk (hgm k e)) HLT.out
      have hs0 : Save (fun k => p.Off k ∧ r.Off k) w0 (wr.setCell (ad am q) (vb (bAdd m[q] (bI 1)))) := by
        refine ⟨hsv.os.trans HMM.out.2.2.os, hsv.tape.trans HMM.out.2.2.tape, hsv.output.trans HMM.out.2.2.output, Nat.le_trans HMM.out.2.2.size hsv.size, fun k hk hT => ?_⟩
        rw [hsv.block k (Nat.lt_of_lt_of_le hk HMM.out.2.2.size) (fun e => by have h1 := (hgm k e).1; have h2 := HSZ.out; have h3 := hBx.out; omega)]
        exact HMM.out.2.2.block k hk hT
      have HST := Lib.hid (And.intro st1 (And.intro hPn hs0))
      obtain ⟨y, hy⟩ : ∃ y, m[q] = y := ⟨_, rfl⟩
      rw [hy] at ej HST
      have HLS : Hid ((m.set q (bAdd y (bI 1))).length = n3) := by rw [Hid, List.length_set]; exact HML.out
      clear st1 st2 hsv hgm hPn hs0 hy hqm
      go_wp2_with fail
      go_roundw
      case rel => exact ⟨q + 1, _, hlq, by go_num, HLS, HST⟩
      case measure => simp [intOf]; omega
    · go_wp2_with fail
      go_ret
      have h0 := HMM.out.2.1
      rw [hp2.out, hr2.out] at h0
      exact ⟨ret_bool (by simp), h0.less HHX.out, HMM.out.2.2⟩
theorem one_calls (w0 : World) (p : Pl) (r : Rl) (D : Dk) (x : Ac) (h : Pair w0 p r D) (hx : x.At w0) (hl : x.l.length ≤ 6000) (hxo : x.l ≠ [] → ∀ g, Go.Cit.blk x.a = some g → p.Off g ∧ r.Off g) :
    Calls Try.prog 26 #[.pointer (some ⟨p.b, 0, none⟩), .pointer (some ⟨r.b, 0, none⟩), .agg x.cs.toArray] w0 fun e w' => e = .returned (.bool true) ∧ Pair w' p r (actD D x) ∧ Save (fun k => p.Off k ∧ r.Off k) w0 w' := by
  unfold actD
  by_cases h0 : x.kind = 0 ∨ x.kind = 1 ∨ x.kind = 2
  · rw [if_pos h0]; exact one_write w0 p r D x h hx hl hxo h0
  rw [if_neg h0]
  by_cases h3 : x.kind = 3 ∨ x.kind = 4
  · rw [if_pos h3]; exact one_flush w0 p r D x h hx h3
  rw [if_neg h3]
  by_cases h5 : x.kind = 5
  · rw [if_pos h5]; exact one_crash w0 p r D x h hx h5 hxo
  rw [if_neg h5]
  by_cases h6 : x.kind = 6
  · rw [if_pos h6]; exact one_arm w0 p r D x h hx hl h6 hxo
  rw [if_neg h6]
  by_cases h7 : x.kind = 7 ∨ x.kind = 8
  · rw [if_pos h7]; exact one_start w0 p r D x h hx h7
  rw [if_neg h7]
  by_cases h9 : x.kind = 9
  · exact one_read w0 p r D x h hx h9
  · exact one_else w0 p r D x h hx (by omega)
end Go.Proofs.Ytofagofpeedfcaa
