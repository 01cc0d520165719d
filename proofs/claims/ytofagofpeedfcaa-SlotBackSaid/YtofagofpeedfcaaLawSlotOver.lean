/- Chapter 15's law SlotOver: walked. -/
import Derived.Test.YtofagofpeedfcaaAwk15w
namespace Go.Proofs.Ytofagofpeedfcaa
open Go Go.RowKit Go.Cit

theorem wpList_copy {P : Program} {ops : Array Oper} {rest : List Oper} {o : Oper} {act : Act} {w w' : World} {Q : Exit → Act → World → Prop} {t t' : TypeId} {v u v' : Value} (d x : Operand) (hgd : o.guard = none) (ho : o.op = .call { callee := .builtin .copy, args := #[d, x], argTypes := #[t, t'] }) (hd : act.eval d = v) (hx : act.eval x = u)
    (hr : (Builtin.copy_ #[t, t'] o.type #[v, u]).run P w = .ok v' w') (h : wpList P ops Q rest (act.put o.dst v') w') : wpList P ops Q (o :: rest) act w := by
  refine wpList_value (w' := w') (v := v') hgd ?_ h
  unfold execOp
  simp only [ho, resolve, invoke, builtin, Sem.run_bind, Sem.run_pure, Result.andThen_ok, List.map_toArray, List.map_cons, List.map_nil, hd, hx, hr]
/-- copy of all of a row into a part of a row of one's own that has room for it. -/
theorem copy_tail {P : Program} {dT sT ty elem : TypeId} (hu : P.underlying dT = some (.slice elem)) (hs : (P.info? elem).map (·.size) = some 1) {w : World} {B : Nat} {a : Option Addr} {l : List UInt8} {c : Nat} (h : Mine B w a l c) (lo N : Nat) (h2 : lo + N ≤ l.length)
    {a2 : Option Addr} {m : List UInt8} {c2 : Nat} (r : Row w a2 m c2) (hm : m.length ≤ N) :
    ∃ w', (Builtin.copy_ #[dT, sT] ty #[.slice (if c = lo then a else a.map (·.add (lo * 1))) N (c - lo), .slice a2 m.length c2]).run P w = .ok (.int .i64 (m.length : Int)) w' ∧ Mine B w' a (patchL l lo m) c ∧ Save (fun k => Go.Cit.blk a ≠ some k) w w' := by
  cases hq : P.info? elem with
  | none => simp [hq] at hs
  | some i =>
  have hi1 : i.size = 1 := by simpa [hq] using hs
  by_cases h0 : m = []
  · subst h0
    refine ⟨w, ?_, by simpa [patchL] using h, Save.refl _ _⟩
    have hl : ∀ q : Addr, (loadCells q 0).run P w = .ok #[] w := fun q => by
      have := run_loadCells_list (P := P) w q [] (fun j v hv => by simp at hv)
      simpa using this
    cases a2 with
    | none =>
      cases a with
      | none => simp [Builtin.copy_, run_underlying hu, Builtin.lenOf, Builtin.firstCells, sizeOf, typeInfo, hq, hi1, goInt]
      | some q => by_cases hc : c = lo <;> simp [Builtin.copy_, run_underlying hu, Builtin.lenOf, Builtin.firstCells, sizeOf, typeInfo, hq, hi1, goInt, hc, storeCells]
    | some q2 =>
      cases a with
      | none => simp [Builtin.copy_, run_underlying hu, Builtin.lenOf, Builtin.firstCells, sizeOf, typeInfo, hq, hi1, goInt, hl]
      | some q => by_cases hc : c = lo <;> simp [Builtin.copy_, run_underlying hu, Builtin.lenOf, Builtin.firstCells, sizeOf, typeInfo, hq, hi1, goInt, hc, hl, storeCells]
  · have hm0 : 0 < m.length := List.length_pos_iff.2 h0
    obtain ⟨g, off, rfl⟩ := h.row.spot (by intro h0; rw [h0] at h2; simp at h2 <;> omega)
    obtain ⟨g2, off2, rfl⟩ := r.spot h0
    have hle := h.row.le
    have hc : ¬ c = lo := by omega
    rw [if_neg hc]
    have ha : (some (⟨g, off, none⟩ : Addr)).map (·.add (lo * 1)) = some ⟨g, off + lo, none⟩ := by
      rw [Option.map_some, Nat.mul_one]
      congr 1
      unfold Addr.add
      split <;> simp_all
    rw [ha]
    obtain ⟨w', h3, h4, h5⟩ := store_mine (P := P) B g off c lo m 0 l w h (by omega)
    have hl := run_loadCells_list (P := P) w ⟨g2, off2, none⟩ (m.map vb) (fun j v hv => by
      have hj : j < m.length := by
        have := (List.getElem?_eq_some_iff.1 hv).1
        simpa using this
      have h7 := r.cell j hj
      have ea : (⟨g2, off2, none⟩ : Addr).add j = ad (some ⟨g2, off2, none⟩) j := by unfold Addr.add ad; split <;> simp_all
      rw [ea, h7]
      rw [List.getElem?_map, List.getElem?_eq_getElem hj] at hv
      rw [← Option.some.inj hv])
    rw [List.length_map] at hl
    have hmin : min N m.length = m.length := Nat.min_eq_right hm
    have hmin2 : min m.length N = m.length := Nat.min_eq_left hm
    refine ⟨w', ?_, by simpa using h4, h5.less (fun k _ hk e => hk (by simp [Go.Cit.blk, e]))⟩
    simp [Builtin.copy_, run_underlying hu, Builtin.lenOf, Builtin.firstCells, sizeOf, typeInfo, hq, hi1, hmin, hmin2, hl, h3, goInt]
theorem Row.tail {P : Program} {T E : TypeId} (hT : P.underlying T = some (.slice E)) (hE : ∀ w, (sizeOf E).run P w = .ok 1 w) {w : World} {a : Option Addr} {l : List UInt8} {c : Nat} (h : Row w a l c) (lo : Nat) (h1 : lo ≤ l.length) :
    ∀ w, (Instr.sliceAt T (.slice a l.length c) (some (.int .i64 (lo : Int))) none none).run P w = .ok (.slice (if c = lo then a else a.map (·.add (lo * 1))) (l.length - lo) (c - lo)) w := fun w => by
  have he : P.elem T = E := by simp [Program.elem, hT]
  have hle := h.le
  rw [run_sliceAt_slice _ _ _ _ _ _ (by rw [he]; exact hT), run_slice_l _ T a _ _ (by rw [he]; exact hT) .i64 lo (by omega) (by omega), he, hE]
  simp [Result.andThen, sliced]
theorem getR_new {n i k : Nat} (hi : i < n) (hk : k < 64) : (getR (newD n) i)[k]? = some 0 := by
  unfold getR newD
  simp only []
  rw [List.getElem?_replicate, if_pos hi, List.getElem?_replicate, if_pos hi]
  show (List.replicate 64 (0 : UInt8))[k]? = some 0
  rw [List.getElem?_replicate, if_pos hk]
theorem contD_new (n A m : Nat) (h : A + m ≤ 64 * n) : contD (newD n) A m = List.replicate m 0 := by
  apply List.ext_getElem?
  intro j
  by_cases hj : j < m
  · rw [contD_get _ _ _ _ hj, getR_new (by omega) (Nat.mod_lt _ (by decide)), List.getElem?_replicate, if_pos hj]; rfl
  · rw [List.getElem?_eq_none (by rw [contD_len]; omega), List.getElem?_eq_none (by simp; omega)]
theorem Wr.patch {D D' : Dk} {A : Nat} {l : List UInt8} (h : Wr D D' A l) (hok : D.Ok) {B n : Nat} (hB : B + n ≤ 64 * D.S.length) (at_ : Nat) (hA : A = B + at_) (hl : at_ + l.length ≤ n) : contD D' B n = patchL (contD D B n) at_ l := by
  subst hA
  apply List.ext_getElem?
  intro j
  by_cases hj : j < n
  · rw [h.cont hok hB j hj, patch_get (by rw [contD_len]; exact hl)]
    by_cases g : at_ ≤ j ∧ j < at_ + l.length
    · rw [if_pos (by omega), if_pos g, show B + j - (B + at_) = j - at_ by omega]
    · rw [if_neg (by omega), if_neg g]
  · rw [List.getElem?_eq_none (by rw [contD_len]; omega), List.getElem?_eq_none (by rw [patch_len (by rw [contD_len]; exact hl), contD_len]; omega)]
set_option maxRecDepth 100000 in
set_option maxHeartbeats 4000000 in
theorem slotOver_good (w : World) (s : Nat) (hs : s ≤ 1) (a1 : Option Addr) (l1 : List UInt8) (c1 : Nat) (a2 : Option Addr) (l2 : List UInt8) (c2 : Nat) (at_ ov : Nat) (h1 : Row w a1 l1 c1) (h2 : Row w a2 l2 c2) (n1 n2 : Nat) (hn1 : l1.length = n1) (hn2 : l2.length = n2) (k1 : n1 ≤ 1000) (k2 : n2 ≤ 1000) (ha : at_ + n1 ≤ 4096) (ho : ov + n2 ≤ 4096) :
    Calls Try.prog 9 #[.int .i64 (s : Int), .slice a1 n1 c1, .slice a2 n2 c2, .int .i64 (at_ : Int), .int .i64 (ov : Int)] w fun e w' => e = .returned (.bool true) ∧ Below w.heap.size w w' := by
  have H1 := Lib.hid h1
  have H2 := Lib.hid h2
  have HN1 := Lib.hid hn1
  have HN2 := Lib.hid hn2
  clear h1 h2 hn1 hn2
  have t0 : ¬ (s : Int) < 0 := by omega
  have t1 : ¬ 1 < (s : Int) := by omega
  have t2 : ¬ (at_ : Int) < 0 := by omega
  have t3 : ¬ (ov : Int) < 0 := by omega
  have t4 : ¬ 4096 - (n1 : Int) < (at_ : Int) := by omega
  have t5 : ¬ 4096 - (n2 : Int) < (ov : Int) := by omega
  go_enter Try.func9, Try.ntmps9
  go_wp2_with fail
  refine (awake15_calls w).mono ?_
  rintro e w1 ⟨rfl, hb1⟩
  have HB1 := Lib.hid hb1
  clear hb1
  go_wp2_with fail
  refine (empty_calls w1).mono ?_
  rintro e w2 ⟨p, rfl, hD, hpl, hb2⟩
  have HD := Lib.hid hD
  have HPL := Lib.hid hpl
  have HB2 := Lib.hid (HB1.out.trans (hb2.mono HB1.out.size))
  clear hD hpl hb2
  go_upto_region 7 with (refine wp_make_bytes bt (.const (.int .i64 4096)) (.const (.int .i64 4096)) rfl rfl 4096 .i64 .i64 rfl rfl rfl (by decide) ?_; intro w3 hown hgr hsz; have HO3 := Lib.hid hown.mine; have HB3 := Lib.hid (HB2.out.trans (((Below.refl w2.heap.size w2).grown hgr (Nat.le_refl _) (fun k hk => by cases hk)).mono HB2.out.size)); have HG3 := Lib.hid ((Below.refl w2.heap.size w2).grown hgr (Nat.le_refl _) (fun k hk => by cases hk)); have HS3 := Lib.hid hsz; clear hown hgr hsz)
  obtain ⟨N1, hN1⟩ : ∃ N1, Hid (N1 = 4096 - at_) := ⟨_, rfl⟩
  obtain ⟨N2, hN2⟩ : ∃ N2, Hid (N2 = 4096 - ov) := ⟨_, rfl⟩
  obtain ⟨A1, hA1⟩ : ∃ A1, Hid (A1 = if 4096 = at_ then (some (⟨w2.heap.size, 0, none⟩ : Addr)) else (some (⟨w2.heap.size, 0, none⟩ : Addr)).map (·.add (at_ * 1))) := ⟨_, rfl⟩
  obtain ⟨A2, hA2⟩ : ∃ A2, Hid (A2 = if 4096 = ov then (some (⟨w2.heap.size, 0, none⟩ : Addr)) else (some (⟨w2.heap.size, 0, none⟩ : Addr)).map (·.add (ov * 1))) := ⟨_, rfl⟩
  have hsl1 := Row.tail (P := Try.prog) bt.slice bt.sz HO3.out.row at_ (by simp; omega)
  have hsl2 := Row.tail (P := Try.prog) bt.slice bt.sz HO3.out.row ov (by simp; omega)
  rw [List.length_replicate, ← hN1.out, ← hA1.out] at hsl1
  rw [List.length_replicate, ← hN2.out, ← hA2.out] at hsl2
  obtain ⟨w4, hc1, hm1, hs1⟩ := copy_tail (P := Try.prog) (dT := 22) (sT := 22) (ty := 3) bt.slice (by kernel_rfl) HO3.out at_ N1 (by rw [List.length_replicate, hN1.out]; omega) (H1.out.stay HB3.out) (by rw [hN1.out, HN1.out]; omega)
  have HPL1 : Hid ((patchL (List.replicate 4096 0) at_ l1).length = 4096) := by rw [Hid, patch_len (by rw [List.length_replicate, HN1.out]; omega), List.length_replicate]
  have hB4 : Below w2.heap.size w3 w4 := hs1.below (Nat.le_of_lt HS3.out) (fun k hk => by simp [Go.Cit.blk]; omega)
  have HB4 := Lib.hid (HB3.out.trans (hB4.mono HB2.out.size))
  have HZ4 : Hid (w2.heap.size < w4.heap.size) := Nat.lt_of_lt_of_le HS3.out hB4.size
  obtain ⟨w5, hc2, hm2, hs2⟩ := copy_tail (P := Try.prog) (dT := 22) (sT := 22) (ty := 3) bt.slice (by kernel_rfl) hm1 ov N2 (by rw [HPL1.out, hN2.out]; omega) (H2.out.stay HB4.out) (by rw [hN2.out, HN2.out]; omega)
  have hB5 : Below w2.heap.size w4 w5 := hs2.below (Nat.le_of_lt HZ4.out) (fun k hk => by simp [Go.Cit.blk]; omega)
  have HB5 := Lib.hid (HB4.out.trans (hB5.mono HB2.out.size))
  have HG5 := Lib.hid (HG3.out.trans (hB4.trans hB5))
  have HZ5 : Hid (w2.heap.size < w5.heap.size) := Nat.lt_of_lt_of_le HZ4.out hB5.size
  have HM5 := Lib.hid hm2
  rw [HN1.out, ← hA1.out, ← hN1.out] at hc1
  rw [HN2.out, ← hA2.out, ← hN2.out] at hc2
  have HC1 := Lib.hid hc1
  have HC2 := Lib.hid hc2
  clear hc1 hc2 hm1 hs1 hB4 hm2 hs2 hB5
  go_upto_region 8 with (with_reducible refine wpList_copy (o := ⟨some 70, _, _, _, _, _⟩) (.tmp 68) (.tmp 69) (by with_unfolding_all rfl) (by with_unfolding_all rfl) (by with_unfolding_all rfl) (by with_unfolding_all rfl) HC1.out ?_)
  go_upto_region 9 with (with_reducible refine wpList_copy (o := ⟨some 75, _, _, _, _, _⟩) (.tmp 73) (.tmp 74) (by with_unfolding_all rfl) (by with_unfolding_all rfl) (by with_unfolding_all rfl) (by with_unfolding_all rfl) HC2.out ?_)
  clear hsl1 hsl2
  have hok := newD_ok 323 (by decide) (by decide)
  have hlen : (newD 323).S.length = 323 := newD_len 323
  have hoff : ∀ (a : Option Addr) (l : List UInt8) (c : Nat), Row w a l c → l ≠ [] → ∀ g, Go.Cit.blk a = some g → p.Off g := fun a l c h h0 g hg => by
    obtain ⟨g', off, rfl⟩ := h.spot h0
    have h1 := h.blk (i := 0) (List.length_pos_iff.2 h0)
    simp only [ad] at h1
    simp only [Go.Cit.blk, Option.map_some, Option.some.injEq] at hg
    have h2 : g < w.heap.size := by rw [← hg]; exact h1
    have h3 := HPL.out
    have h4 := HB1.out.size
    exact ⟨by omega, by omega, by omega⟩
  have hw1 := swrite_wr w5 p (newD 323) (HD.out.stay HG5.out) rfl rfl (by rw [hlen]; decide) s at_ hs a1 l1 c1 (H1.out.stay HB5.out) (hoff a1 l1 c1 H1.out) (by rw [HN1.out]; exact ha)
  rw [HN1.out] at hw1
  go_wp2_with fail
  refine (hw1).mono ?_
  rintro e w6 ⟨D1, rfl, hD1, hW1, hS1⟩
  have HD1 := Lib.hid hD1
  have HW1 := Lib.hid hW1
  have hpw : ∀ k, k < w.heap.size → p.Off k := fun k hk => by have := HPL.out; have := HB1.out.size; exact ⟨by omega, by omega, by omega⟩
  have hw2 := swrite_wr w6 p D1 HD1.out HW1.out.up HW1.out.left (by rw [HW1.out.S, hlen]; decide) s ov hs a2 l2 c2 ((H2.out.stay HB5.out).save' hS1 (hoff a2 l2 c2 H2.out)) (hoff a2 l2 c2 H2.out) (by rw [HN2.out]; exact ho)
  rw [HN2.out] at hw2
  have hwo : p.Off w2.heap.size := by have := HD.out.lt; exact ⟨by omega, by omega, by omega⟩
  have HM6 := Lib.hid (HM5.out.save hS1 (fun g hg => by simp [Go.Cit.blk] at hg; subst hg; exact hwo))
  have HB6 := Lib.hid (HB5.out.trans (hS1.below HB5.out.size hpw))
  clear hw1 hD1 hW1 hS1
  go_wp2_with fail
  refine (hw2).mono ?_
  rintro e w7 ⟨D2, rfl, hD2, hW2, hS2⟩
  have HD2 := Lib.hid hD2
  have HW2 := Lib.hid hW2
  have HM7 := Lib.hid (HM6.out.save hS2 (fun g hg => by simp [Go.Cit.blk] at hg; subst hg; exact hwo))
  have HB7 := Lib.hid (HB6.out.trans (hS2.below HB6.out.size hpw))
  have hS : D2.S.length = 323 := by rw [HW2.out.S, HW1.out.S, hlen]
  have HE : Hid (contD D2 (64 * (3 + 64 * s)) 4096 = patchL (patchL (List.replicate 4096 0) at_ l1) ov l2) := by
    rw [Hid, HW2.out.patch HW1.out.ok (by rw [HW1.out.S, hlen]; omega) ov rfl (by rw [HN2.out]; exact ho), HW1.out.patch hok (by rw [hlen]; omega) at_ rfl (by rw [HN1.out]; exact ha), contD_new _ _ _ (by omega)]
  have hr := sread_ct w7 p D2 HD2.out HW2.out.up (by rw [hS]; decide) s hs 4096 (by decide)
  rw [HE.out] at hr
  have HPL2 : Hid ((patchL (patchL (List.replicate 4096 0) at_ l1) ov l2).length = 4096) := by rw [Hid, patch_len (by rw [HPL1.out, HN2.out]; exact ho), HPL1.out]
  clear hw2 hD2 hW2 hS2 hwo hpw hoff hok hlen hS
  go_wp2_with fail
  refine (hr).mono ?_
  rintro e w8 ⟨a8, c8, rfl, hO8, hb8⟩
  have HB8 := Lib.hid (HB7.out.trans (hb8.mono HB7.out.size))
  have hsm := wsame_id w8 a8 (some ⟨w2.heap.size, 0, none⟩) _ c8 4096 hO8.isRow (HM7.out.row.stay hb8)
  rw [HPL2.out] at hsm
  clear hr hO8 hb8
  go_wp2_with fail
  refine (hsm).mono ?_
  rintro e w9 ⟨rfl, hb9⟩
  have HB9 := Lib.hid (HB8.out.trans (hb9.mono HB8.out.size))
  clear hsm hb9
  go_wp2_with fail
  go_ret
  exact ⟨rfl, HB9.out⟩
set_option maxRecDepth 100000 in
set_option maxHeartbeats 4000000 in
theorem slotOver_all (w : World) (wh : Int) (a1 : Option Addr) (l1 : List UInt8) (c1 : Nat) (a2 : Option Addr) (l2 : List UInt8) (c2 : Nat) (at_ ov : Int) (h1 : Row w a1 l1 c1) (h2 : Row w a2 l2 c2) (r0 : -9223372036854775808 ≤ wh ∧ wh ≤ 9223372036854775807) (r1 : -9223372036854775808 ≤ at_ ∧ at_ ≤ 9223372036854775807) (r2 : -9223372036854775808 ≤ ov ∧ ov ≤ 9223372036854775807) :
    Calls Try.prog 9 #[.int .i64 wh, .slice a1 l1.length c1, .slice a2 l2.length c2, .int .i64 at_, .int .i64 ov] w fun e w' => e = .returned (.bool true) ∧ Below w.heap.size w w' := by
  by_cases hg : 0 ≤ wh ∧ wh ≤ 1 ∧ l1.length ≤ 1000 ∧ l2.length ≤ 1000 ∧ 0 ≤ at_ ∧ 0 ≤ ov ∧ at_ + l1.length ≤ 4096 ∧ ov + l2.length ≤ 4096
  · obtain ⟨g1, g2, g3, g4, g5, g6, g7, g8⟩ := hg
    obtain ⟨s, rfl⟩ : ∃ s : Nat, wh = (s : Int) := ⟨wh.toNat, by omega⟩
    obtain ⟨x, rfl⟩ : ∃ s : Nat, at_ = (s : Int) := ⟨at_.toNat, by omega⟩
    obtain ⟨y, rfl⟩ : ∃ s : Nat, ov = (s : Int) := ⟨ov.toNat, by omega⟩
    exact slotOver_good w s (by omega) a1 l1 c1 a2 l2 c2 x y h1 h2 _ _ rfl rfl g3 g4 (by omega) (by omega)
  · have q1 := h1.len_le
    have q2 := h2.len_le
    generalize l1.length = n1 at *
    generalize l2.length = n2 at *
    clear h1 h2
    go_enter Try.func9, Try.ntmps9
    go_wp2_with fail
    refine (awake15_calls w).mono ?_
    rintro e w1 ⟨rfl, hb1⟩
    have HB1 := Lib.hid hb1
    clear hb1
    go_wp2_with fail
    refine (empty_calls w1).mono ?_
    rintro e w2 ⟨p, rfl, hD, hpl, hb2⟩
    have HB2 := Lib.hid (HB1.out.trans (hb2.mono HB1.out.size))
    clear hD hpl hb2
    by_cases t0 : (wh : Int) < 0
    · clear hg q1 q2
      go_wp2_with fail
      go_ret
      exact ⟨rfl, HB2.out⟩
    by_cases t1 : 1 < (wh : Int)
    · clear hg q1 q2
      go_wp2_with fail
      go_ret
      exact ⟨rfl, HB2.out⟩
    by_cases t2 : (1000 : Int) < (n1 : Int)
    · clear hg q1 q2
      go_wp2_with fail
      go_ret
      exact ⟨rfl, HB2.out⟩
    by_cases t3 : (1000 : Int) < (n2 : Int)
    · clear hg q1 q2
      go_wp2_with fail
      go_ret
      exact ⟨rfl, HB2.out⟩
    by_cases t4 : (at_ : Int) < 0
    · clear hg q1 q2
      go_wp2_with fail
      go_ret
      exact ⟨rfl, HB2.out⟩
    by_cases t5 : (ov : Int) < 0
    · clear hg q1 q2
      go_wp2_with fail
      go_ret
      exact ⟨rfl, HB2.out⟩
    by_cases t6 : 4096 - (n1 : Int) < at_
    · clear hg q1 q2
      go_wp2_with fail
      go_ret
      exact ⟨rfl, HB2.out⟩
    by_cases t7 : 4096 - (n2 : Int) < ov
    · clear hg q1 q2
      go_wp2_with fail
      go_ret
      exact ⟨rfl, HB2.out⟩
    exact absurd ⟨by omega, by omega, by omega, by omega, by omega, by omega, by omega, by omega⟩ hg
theorem slotOver_law (w : World) (wh : Int) (a1 : Option Addr) (l1 : List UInt8) (c1 : Nat) (a2 : Option Addr) (l2 : List UInt8) (c2 : Nat) (at_ ov : Int) (r0 : -9223372036854775808 ≤ wh ∧ wh ≤ 9223372036854775807) (h1 : Row w a1 l1 c1) (h2 : Row w a2 l2 c2) (r1 : -9223372036854775808 ≤ at_ ∧ at_ ≤ 9223372036854775807) (r2 : -9223372036854775808 ≤ ov ∧ ov ≤ 9223372036854775807) :
    Calls Try.prog 9 #[.int .i64 wh, .slice a1 l1.length c1, .slice a2 l2.length c2, .int .i64 at_, .int .i64 ov] w fun e w' => e = .returned (.bool true) ∧ Below w.heap.size w w' :=
  slotOver_all w wh a1 l1 c1 a2 l2 c2 at_ ov h1 h2 r0 r1 r2
end Go.Proofs.Ytofagofpeedfcaa
