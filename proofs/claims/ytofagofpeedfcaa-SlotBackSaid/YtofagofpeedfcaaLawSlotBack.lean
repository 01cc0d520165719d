/- Chapter 15's law SlotBack: walked. -/
import Derived.Test.YtofagofpeedfcaaLawSlotOver
import Derived.Test.YtofagofpeedfcaaSlotG
import Derived.Test.YtofagofpeedfcaaRowsOwn
namespace Go.Proofs.Ytofagofpeedfcaa
open Go Go.RowKit Go.Cit

theorem Wr.nil {D : Dk} (A : Nat) (hok : D.Ok) (hu : D.up = true) (hl : D.left = 0) : Wr D D A [] :=
  ⟨hok, hu, hl, rfl, fun i k _ _ => by rw [if_neg (by rw [List.length_nil]; omega)], fun i h => .inl h⟩
theorem Wr.app {D D' D'' : Dk} {A : Nat} {l m : List UInt8} (h : Wr D D' A l) (k : Wr D' D'' (A + l.length) m) : Wr D D'' A (l ++ m) := by
  refine ⟨k.ok, k.up, k.left, k.S.trans h.S, fun i j hi hj => ?_, fun i hi => ?_⟩
  · rw [k.at_ i j (by rw [h.S]; exact hi) hj, h.at_ i j hi hj, List.length_append]
    by_cases g1 : A + l.length ≤ 64 * i + j ∧ 64 * i + j < A + l.length + m.length
    · rw [if_pos g1, if_pos (by omega), List.getElem?_append_right (by omega)]
      congr 1
      omega
    · rw [if_neg g1]
      by_cases g2 : A ≤ 64 * i + j ∧ 64 * i + j < A + l.length
      · rw [if_pos g2, if_pos (by omega), List.getElem?_append_left (by omega)]
      · rw [if_neg g2, if_neg (by omega)]
  · rw [List.length_append]
    rcases k.dirty i hi with h1 | h1
    · rcases h.dirty i h1 with h2 | h2
      · exact .inl h2
      · exact .inr (by omega)
    · exact .inr (by omega)
theorem back_cont {D : Dk} {s x : Nat} {l : List UInt8} (hs : s ≤ 1) (h : Wr (newD 323) D (64 * (3 + 64 * s) + x) l) (hl : x + l.length ≤ 4096) : contD D (64 * (3 + 64 * s)) (x + l.length) = List.replicate x 0 ++ l := by
  have hok := newD_ok 323 (by decide) (by decide)
  rw [h.patch hok (by rw [newD_len]; omega) x rfl (Nat.le_refl _), contD_new _ _ _ (by omega), patchL, List.take_replicate, List.drop_replicate, Nat.min_eq_left (by omega), Nat.sub_self]
  simp
theorem other_cont {D : Dk} {s x : Nat} {l : List UInt8} (hs : s ≤ 1) (h : Wr (newD 323) D (64 * (3 + 64 * s) + x) l) (hl : x + l.length ≤ 4096) : contD D (64 * (3 + 64 * (1 - s))) 4096 = List.replicate 4096 0 := by
  have hok := newD_ok 323 (by decide) (by decide)
  rw [← contD_new 323 (64 * (3 + 64 * (1 - s))) 4096 (by omega)]
  apply List.ext_getElem?
  intro j
  by_cases hj : j < 4096
  · rw [h.cont hok (by rw [newD_len]; omega) j hj, if_neg (by omega)]
  · rw [List.getElem?_eq_none (by rw [contD_len]; omega), List.getElem?_eq_none (by rw [contD_len]; omega)]
theorem dirty_new : dirtyL (newD 323).C = [] := by kernel_rfl
theorem back_dirty {D : Dk} {s x : Nat} {l : List UInt8} (h : Wr (newD 323) D (64 * (3 + 64 * s) + x) l) (hl : x + l.length ≤ 4096) {v : Int} (hv : v ∈ dirtyI D.C) : 3 + (s : Int) * 64 ≤ v ∧ v < 3 + ((s : Int) + 1) * 64 := by
  unfold dirtyI at hv
  obtain ⟨i, hi, rfl⟩ := List.mem_map.1 hv
  rcases h.dirty i hi with h1 | h1
  · rw [dirty_new] at h1; simp at h1
  · constructor <;> simp only [Int.ofNat_eq_natCast] <;> omega
theorem stepT_plain {D : Dk} (h : D.left = 0) (m : List UInt8) (x : Pc) : (stepT D m x).left = 0 ∧ (stepT D m x).stay = D.stay := by
  unfold stepT
  split
  · exact ⟨h, rfl⟩
  · unfold writeT
    split
    · exact ⟨h, rfl⟩
    · rw [if_neg (by omega)]
      exact ⟨by show D.left - 1 = 0; omega, rfl⟩
theorem wrP_stay : ∀ (xs : List Pc) (D : Dk) (m : List UInt8), D.left = 0 → (wrP D m xs).1.stay = D.stay
  | [], _, _, _ => rfl
  | x :: xs, D, m, h => by
    rw [wrP]
    split
    · exact (stepT_plain h m x).2
    · rw [wrP_stay xs _ _ (stepT_plain h m x).1]; exact (stepT_plain h m x).2
theorem swrite_ws (w : World) (p : Pl) (D : Dk) (h : DiskAt w p D) (hu : D.up = true) (hl : D.left = 0) (hS : 131 ≤ D.S.length) (s at_ : Nat) (hs : s ≤ 1) (a : Option Addr) (l : List UInt8) (c : Nat) (hr : Row w a l c) (ha : l ≠ [] → ∀ g, Go.Cit.blk a = some g → p.Off g) (hal : at_ + l.length ≤ 4096) :
    Calls Try.prog 35 #[.pointer (some ⟨p.b, 0, none⟩), .int .i64 (s : Int), .int .i64 (at_ : Int), .slice a l.length c] w fun e w' => ∃ D', e = .returned (.int .i64 0) ∧ DiskAt w' p D' ∧ (Wr D D' (64 * (3 + 64 * s) + at_) l ∧ D'.stay = D.stay) ∧ Save p.Off w w' :=
  (swrite_good w p D h hu s at_ hs a l c hr ha hal).mono fun e w' ⟨xs, h1, h2, h3, h4⟩ => by
    obtain ⟨h5, h6⟩ := wr_plain (3 + 64 * s) (at_ + l.length) hal xs D at_ l h.ok hu hl (by omega) (by omega) (by omega) h1
    rw [h5] at h2
    exact ⟨_, h2, h3, ⟨h6, wrP_stay xs D l hl⟩, h4⟩
/-- A disk at which nothing is to stay lies by its own blocks alone. -/
theorem bare_save {w w' : World} {p : Pl} {D : Dk} (h : DiskAt w p D) (h0 : D.stay = []) {T : Nat → Prop} (hs : Save T w w') (hT : ∀ k, ¬ p.Off k → T k) : DiskAt w' p D := by
  obtain ⟨a, c, h1, h2, h3⟩ := h.box
  have lt : ∀ {k : Nat} {o : Obj}, w.heap[k]? = some o → k < w.heap.size := fun e => (Array.getElem?_eq_some_iff.1 e).1
  have hr : Row w' a D.stay c := by
    rw [h0] at h2 ⊢
    exact h2.save' hs (fun hne => absurd rfl hne)
  exact ⟨⟨a, c, (hs.block _ (lt h1) (hT _ (fun e => e.1 rfl))).trans h1, hr, fun g hg => ⟨(h3 g hg).1, (h3 g hg).2.1, Nat.lt_of_lt_of_le (h3 g hg).2.2 hs.size⟩⟩, (hs.block _ (lt h.sec) (hT _ (fun e => e.2.1 rfl))).trans h.sec, h.map.save hs (hT _ (fun e => e.2.2 rfl)), h.ne1, h.ne2, h.ne3, fun k hk => Nat.lt_of_lt_of_le (h.xlt k hk) hs.size, h.ok⟩
def catR (ds : List (Sl UInt8)) : List UInt8 := ds.flatMap (·.l)
theorem catR_take (ds : List (Sl UInt8)) (k : Nat) (h : k < ds.length) : catR (ds.take (k + 1)) = catR (ds.take k) ++ ds[k].l := by
  rw [catR, catR, List.take_succ_eq_append_getElem h, List.flatMap_append]; simp
theorem catR_len (ds : List (Sl UInt8)) (k : Nat) (h : k < ds.length) : (catR (ds.take (k + 1))).length = (catR (ds.take k)).length + ds[k].l.length := by
  rw [catR_take ds k h, List.length_append]
theorem catR_le (ds : List (Sl UInt8)) (k : Nat) : (catR (ds.take k)).length ≤ (catR ds).length := by
  have := congrArg (fun l => (catR l).length) (List.take_append_drop k ds)
  simp only [catR, List.flatMap_append, List.length_append] at this ⊢
  omega
set_option maxRecDepth 100000 in
set_option maxHeartbeats 8000000 in
theorem slotBack_all (w0 : World) (wh : Int) (at_ : Int) (a : Option Addr) (ds : List (Sl UInt8)) (c : Nat) (r0 : -9223372036854775808 ≤ wh ∧ wh ≤ 9223372036854775807) (r1 : -9223372036854775808 ≤ at_ ∧ at_ ≤ 9223372036854775807) (h : Rows w0 a ds c) (hcap : ∀ d ∈ ds, d.l.length ≤ 140737488351232) :
    Calls Try.prog 11 #[.int .i64 wh, .int .i64 at_, .slice a ds.length c] w0 fun e w' => e = .returned (.bool true) ∧ Below w0.heap.size w0 w' := by
  have hlen := h.len_le
  have HH := Lib.hid h
  have HCAP := Lib.hid hcap
  clear h hcap
  go_enter Try.func11, Try.ntmps11
  go_wp2_with fail
  refine (awake15_calls w0).mono ?_
  rintro e w1 ⟨rfl, hb1⟩
  have HB1 := Lib.hid hb1
  have HR1 := Lib.hid (HH.out.stay hb1)
  clear hb1
  go_wp2_with fail
  go_loop [7, 8] (fun n i => ∃ (k m : Nat), Hid (m = (catR (ds.take k)).length) ∧ k ≤ ds.length ∧ m ≤ 3000 ∧ n = .int .i64 m ∧ i = .int .i64 k) (fun _ i => ds.length - (intOf i).toNat)
  case atStart => exact ⟨0, 0, rfl, Nat.zero_le _, by omega, rfl, rfl⟩
  case round =>
    obtain ⟨k, m, hm, hk, hm5, rfl, rfl⟩ := hrel
    by_cases hlt : k < ds.length
    · have i0 := HR1.out.index k hlt
      have e4 := HR1.out.cell k hlt
      have hl := HCAP.out _ (List.getElem_mem hlt)
      have HS : Hid (m + ds[k].l.length = (catR (ds.take (k + 1))).length) := by rw [Hid, catR_len ds k hlt, hm.out]
      generalize ds[k].l.length = n at *
      by_cases hg : 3000 < m + n
      · have t1 : ((3000 : Int) < (m : Int) + n) := by omega
        go_wp2_with fail
        go_ret
        exact ⟨rfl, HB1.out⟩
      · have t1 : ¬ ((3000 : Int) < (m : Int) + n) := by omega
        by_cases hg2 : 40 ≤ k
        · go_wp2_with fail
          go_ret
          exact ⟨rfl, HB1.out⟩
        · go_wp2_with fail
          go_round
          case rel => exact ⟨k + 1, m + n, HS.out, by omega, by omega, by go_num, by go_num⟩
          case measure => simp [intOf]; omega
    · have hk2 : k = ds.length := by omega
      have HM : Hid (m = (catR ds).length) := by rw [Hid, hm.out, hk2, List.take_length]
      clear hk2 hm
      go_wp2_with fail
      refine (empty_calls w1).mono ?_
      rintro e w2 ⟨p, rfl, hD, hpl, hb2⟩
      have HD := Lib.hid hD
      have HPL := Lib.hid hpl
      have HB2 := Lib.hid (HB1.out.trans (hb2.mono HB1.out.size))
      clear hD hpl hb2 hlt hk
      have q1 := HB1.out.size
      by_cases t0 : wh < 0
      · clear q1
        go_wp2_with fail
        go_ret
        exact ⟨rfl, HB2.out⟩
      by_cases t1 : 1 < wh
      · clear q1
        go_wp2_with fail
        go_ret
        exact ⟨rfl, HB2.out⟩
      by_cases t2 : at_ < 0
      · clear q1
        go_wp2_with fail
        go_ret
        exact ⟨rfl, HB2.out⟩
      by_cases t3 : 4096 - (m : Int) < at_
      · clear q1
        go_wp2_with fail
        go_ret
        exact ⟨rfl, HB2.out⟩
      obtain ⟨s, rfl⟩ : ∃ s : Nat, wh = (s : Int) := ⟨wh.toNat, by omega⟩
      obtain ⟨x, rfl⟩ : ∃ s : Nat, at_ = (s : Int) := ⟨at_.toNat, by omega⟩
      have hs : s ≤ 1 := by omega
      have hx : x + m ≤ 4096 := by omega
      have hx9 : x ≤ 1000000000 := by omega
      have HOFF : Hid (∀ k, k < w0.heap.size → p.Off k) := fun k hk => by have := HPL.out; exact ⟨by omega, by omega, by omega⟩
      have HOFF2 : Hid (∀ k, w2.heap.size ≤ k → p.Off k) := fun k hk => by have := HD.out.lt; exact ⟨by omega, by omega, by omega⟩
      have HROFF : Hid (∀ (a : Option Addr) (l : List UInt8) (c : Nat), Row w0 a l c → l ≠ [] → ∀ g, Go.Cit.blk a = some g → p.Off g) := fun a l c h h0 g hg => by
        obtain ⟨g', off, rfl⟩ := h.spot h0
        have h1 := h.blk (i := 0) (List.length_pos_iff.2 h0)
        simp only [ad] at h1
        simp only [Go.Cit.blk, Option.map_some, Option.some.injEq] at hg
        exact HOFF.out g (by rw [← hg]; exact h1)
      clear q1
      go_wp2_with ((with_reducible refine wp_make_bytes (o := ⟨some 67, .makeSlice _ _ _, _, _, _, _⟩) bt (.tmp 66) (.tmp 66) (by with_unfolding_all rfl) (by with_unfolding_all rfl) x .i64 .i64 (by with_unfolding_all rfl) (by with_unfolding_all rfl) rfl hx9 ?_); intro w3 hown hgr hsz; have HO3 := Lib.hid hown; have HG3 := Lib.hid ((Below.refl w2.heap.size w2).grown hgr (Nat.le_refl _) (fun k hk => by cases hk)); clear hown hgr hsz)
      have HB3 := Lib.hid (HB2.out.trans (HG3.out.mono HB2.out.size))
      have HD3 := Lib.hid (HD.out.stay HG3.out)
      have hok := newD_ok 323 (by decide) (by decide)
      have HWN := Lib.hid (Wr.nil (64 * (3 + 64 * s) + x) hok rfl rfl)
      have HSL : Hid ((newD 323).S.length = 323) := newD_len 323
      clear hok
      have HS2 : Hid (w0.heap.size ≤ w2.heap.size) := HB2.out.size
      go_loopw [11, 12] (fun al i wr => ∃ (k n : Nat) (A : Option Addr) (l : List UInt8) (c9 : Nat) (D : Dk), k ≤ ds.length ∧ al = .slice A n c9 ∧ i = .int .i64 (k : Int) ∧ Hid (n = l.length ∧ l = List.replicate x 0 ++ catR (ds.take k)) ∧ Hid (Cit.Own 5 w2.heap.size wr A l c9) ∧ Hid (DiskAt wr p D ∧ D.stay = []) ∧ Hid (Wr (newD 323) D (64 * (3 + 64 * s) + x) (catR (ds.take k))) ∧ Hid (Below w0.heap.size w0 wr ∧ w2.heap.size ≤ wr.heap.size)) (fun _ i _ => ds.length - (intOf i).toNat)
      case atStart => exact ⟨0, x, some ⟨w2.heap.size, 0, none⟩, List.replicate x 0, x, newD 323, Nat.zero_le _, rfl, rfl, ⟨by simp, by simp [catR]⟩, HO3.out, ⟨HD3.out, rfl⟩, HWN.out, HB3.out, HG3.out.size⟩
      case round =>
        obtain ⟨k, n, A, l, c9, D, hk, rfl, rfl, HN, HO, HDD, HW, HBr⟩ := hrel
        by_cases hlt : k < ds.length
        · obtain ⟨y, hy⟩ : ∃ e, Hid (e = ds[k]) := ⟨ds[k], rfl⟩
          have HY : Hid (Row w0 y.a y.l y.c) := by rw [Hid, hy.out]; exact HH.out.row _ (List.getElem_mem hlt)
          obtain ⟨N, hN⟩ : ∃ N, Hid (N = y.l.length) := ⟨_, rfl⟩
          have i0 := HH.out.index k hlt
          have e4 : wr.cell? (ad a k) = some (.slice y.a N y.c) := by rw [hN.out, hy.out]; exact (HH.out.stay HBr.out.1).cell k hlt
          have HTK : Hid (catR (ds.take (k + 1)) = catR (ds.take k) ++ y.l) := by rw [Hid, hy.out]; exact catR_take ds k hlt
          have HTL : Hid (x + (catR (ds.take k)).length + N ≤ 4096) := by
            have h1 := catR_le ds (k + 1)
            rw [HTK.out, List.length_append, ← hN.out, ← HM.out] at h1
            rw [Hid]; omega
          have HNL : Hid (n = x + (catR (ds.take k)).length) := by rw [Hid, HN.out.1, HN.out.2]; simp
          have hw := swrite_ws wr p D HDD.out.1 HW.out.up HW.out.left (by rw [HW.out.S, HSL.out]; decide) s n hs y.a y.l y.c (HY.out.stay HBr.out.1) (HROFF.out _ _ _ HY.out) (by rw [← hN.out, HNL.out]; exact HTL.out)
          rw [← hN.out] at hw
          go_wp2_with fail
          refine (hw).mono ?_
          rintro e w4 ⟨D4, rfl, hD4, hW4, hS4⟩
          have HW5 : Hid (Wr (newD 323) D4 (64 * (3 + 64 * s) + x) (catR (ds.take (k + 1)))) := by
            rw [Hid, HTK.out]
            refine HW.out.app ?_
            have h9 := hW4.1
            rw [HNL.out, ← Nat.add_assoc] at h9
            exact h9
          have HO4 := Lib.hid (HO.out.save hS4 (fun g hg => HOFF2.out g (HO.out.blk_ge hg).1))
          have HB4 := Lib.hid (And.intro (HBr.out.1.trans (hS4.below HBr.out.1.size HOFF.out)) (Nat.le_trans HBr.out.2 hS4.size))
          have HY4 := Lib.hid (HY.out.stay HB4.out.1)
          have e5 : w4.cell? (ad a k) = some (.slice y.a N y.c) := by rw [hN.out, hy.out]; exact (HH.out.stay HB4.out.1).cell k hlt
          have HST : Hid (D4.stay = []) := hW4.2.trans HDD.out.2
          have HD4 := Lib.hid hD4
          have HL9 : Hid (l.length + y.l.length ≤ 1000000000) := by have := HTL.out; rw [Hid, ← HN.out.1, ← hN.out, HNL.out]; omega
          clear hw hD4 hW4 hS4 e4
          go_wp2_with ((with_reducible refine wp_append_row (o := ⟨some 89, .call _, _, _, _, _⟩) bt (.tmp 84) (.tmp 88) (by with_unfolding_all rfl) (by with_unfolding_all rfl) HO4.out HY4.out HL9.out HB4.out.2 (by rw [← HN.out.1]; with_unfolding_all rfl) (by rw [← hN.out]; with_unfolding_all rfl) ?_); intro a5 c5 w5 hO5 hg5; obtain ⟨n5, hn5⟩ : ∃ n5, Hid (n5 = (l ++ y.l).length) := ⟨_, rfl⟩; rw [← hn5.out]; have HO5 := Lib.hid hO5; have HG5 := Lib.hid hg5; clear hO5 hg5)
          have HB5 := Lib.hid (And.intro (HB4.out.1.trans (grown_below HG5.out HB4.out.1.size (fun g hg => Nat.le_trans HS2.out (HO4.out.blk_ge hg).1))) (Nat.le_trans HB4.out.2 HG5.out.size))
          have HD5 := Lib.hid (bare_save HD4.out HST.out (Save.grown HG5.out) (fun k hk e => hk (HOFF2.out k (HO4.out.blk_ge e.symm).1)))
          go_roundw
          case rel => exact ⟨k + 1, n5, a5, l ++ y.l, c5, D4, hlt, rfl, by go_num, ⟨hn5.out, by rw [HTK.out, HN.out.2, List.append_assoc]⟩, HO5.out, ⟨HD5.out, HST.out⟩, HW5.out, HB5.out⟩
          case measure => simp [intOf]; omega
        · have hk2 : k = ds.length := by omega
          have HWW : Hid (Wr (newD 323) D (64 * (3 + 64 * s) + x) (catR ds)) := by
            have h9 := HW.out
            rw [hk2, List.take_length] at h9
            exact h9
          have HLL : Hid (n = l.length ∧ l = List.replicate x 0 ++ catR ds ∧ n = x + (catR ds).length) := by
            have h9 := HN.out
            rw [hk2, List.take_length] at h9
            exact ⟨h9.1, h9.2, by rw [h9.1, h9.2]; simp⟩
          have hn4 : n ≤ 4096 := by rw [HLL.out.2.2, ← HM.out]; exact hx
          have HXL : Hid (x + (catR ds).length ≤ 4096) := by rw [Hid, ← HM.out]; exact hx
          have HCE : Hid (contD D (64 * (3 + 64 * s)) n = l) := by rw [Hid, HLL.out.2.2, back_cont hs HWW.out HXL.out]; exact HLL.out.2.1.symm
          have HRD : Hid (∀ W, Below wr.heap.size wr W → Calls Try.prog 36 #[.pointer (some ⟨p.b, 0, none⟩), .int .i64 (s : Int), .int .i64 (n : Int)] W fun e w' => ∃ a c, e = .returned (.tuple #[.slice a n c, .int .i64 0]) ∧ Row w' a l c ∧ Below W.heap.size W w') := fun W hb =>
            (sread_ct W p D (HDD.out.1.stay hb) HWW.out.up (by rw [HWW.out.S, HSL.out]; decide) s hs n hn4).mono fun e w' ⟨a, c, h1, h2, h3⟩ => ⟨a, c, h1, by rw [HCE.out] at h2; exact h2.isRow, h3⟩
          have hr := HRD.out wr (Below.refl _ _)
          have HOR := Lib.hid HO.out.isRow
          have HD0 := Lib.hid HDD.out.1
          have HL7 : Hid (l.length ≤ 10000000) := by rw [Hid, ← HLL.out.1]; omega
          have HBZ := Lib.hid HBr.out.1
          clear hk2 HW HN HO HDD HBr
          go_wp2_with fail
          refine (hr).mono ?_
          rintro e w6 ⟨a6, c6, rfl, hr6, hb6⟩
          have HR6 := Lib.hid hr6
          have HA6 := Lib.hid (HOR.out.stay hb6)
          have HK6 := Lib.hid hb6
          clear hr hr6 hb6
          obtain ⟨C, hC⟩ : ∃ C, Hid (C = ((sumB l).map vb).toArray) := ⟨_, rfl⟩
          have hsum := sum_calls w6 A l c9 HA6.out HL7.out
          rw [← HLL.out.1, ← hC.out] at hsum
          go_wp2_with fail
          refine (hsum).mono ?_
          rintro e w7 ⟨rfl, hb7⟩
          have HK7 := Lib.hid (HK6.out.trans (hb7.mono HK6.out.size))
          have HR7 := Lib.hid (HR6.out.stay hb7)
          have hget : Calls Try.prog 38 #[.pointer (some ⟨p.b, 0, none⟩), .int .i64 (s : Int), .int .i64 (n : Int), .agg C] w7 fun e w' => ∃ a c, e = .returned (.tuple #[.slice a n c, .int .i64 0]) ∧ Row w' a l c ∧ Below w7.heap.size w7 w' := by
            rw [hC.out]
            refine (sget_good w7 (some ⟨p.b, 0, none⟩) s n (sumB l) (sumB32 l) l HL7.out (fun W hb => ?_)).mono fun e w' ⟨a, c, m9, h1, h2, h3, h4⟩ => ?_
            · rw [← HLL.out.1]
              exact HRD.out W (HK7.out.trans (hb.mono HK7.out.size))
            · rw [if_pos rfl] at h1 h2
              subst h2
              exact ⟨a, c, by rw [h1, ← HLL.out.1], h3, h4⟩
          clear hsum hb7
          go_wp2_with fail
          refine (hget).mono ?_
          rintro e w8 ⟨a8, c8, rfl, hr8, hb8⟩
          have HK8 := Lib.hid (HK7.out.trans (hb8.mono HK7.out.size))
          have HR8 := Lib.hid hr8
          have hsm1 := wsame_id w8 a6 A l c6 c9 (HR7.out.stay hb8) (HOR.out.stay HK8.out)
          rw [← HLL.out.1] at hsm1
          clear hget hr8 hb8
          go_wp2_with fail
          refine (hsm1).mono ?_
          rintro e w9 ⟨rfl, hb9⟩
          have HK9 := Lib.hid (HK8.out.trans (hb9.mono HK8.out.size))
          have hsm2 := wsame_id w9 a8 A l c8 c9 (HR8.out.stay hb9) (HOR.out.stay HK9.out)
          rw [← HLL.out.1] at hsm2
          clear hsm1 hb9
          go_wp2_with fail
          refine (hsm2).mono ?_
          rintro e w10 ⟨rfl, hb10⟩
          have HK10 := Lib.hid (HK9.out.trans (hb10.mono HK9.out.size))
          obtain ⟨L, hL⟩ : ∃ L, Hid (L = dirtyI D.C) := ⟨_, rfl⟩
          have hdi := dirty_calls w10 p D (HD0.out.stay HK10.out)
          rw [← hL.out] at hdi
          clear hsm2 hb10
          go_wp2_with fail
          refine (hdi).mono ?_
          rintro e w11 ⟨a11, c11, rfl, hO11, hb11⟩
          have HK11 := Lib.hid (HK10.out.trans (hb11.mono HK10.out.size))
          have HV := Lib.hid (hO11.vec (fun _ => rfl))
          clear hdi hO11 hb11
          have hL9 := HV.out.len_le
          go_wp2_with fail
          go_loop [18] (fun i => ∃ k : Nat, k ≤ L.length ∧ i = .int .i64 (k : Int)) (fun i => L.length - (intOf i).toNat)
          case atStart => exact ⟨0, Nat.zero_le _, rfl⟩
          case round =>
            obtain ⟨k, hk, rfl⟩ := hrel
            by_cases hlt : k < L.length
            · have ix := HV.out.index1 etZ k hlt
              have ec := HV.out.cell1 k hlt
              have hbd := back_dirty HWW.out HXL.out (v := L[k]) (by rw [← hL.out]; exact List.getElem_mem hlt)
              generalize L[k] = v at *
              have t5 : ¬ v < 3 + (s : Int) * 64 := by omega
              have t6 : ¬ 3 + ((s : Int) + 1) * 64 ≤ v := by omega
              clear hbd
              go_wp2_with fail
              go_round
              case rel => exact ⟨k + 1, by omega, by go_num⟩
              case measure => simp [intOf]; omega
            · have e1 : ((1 - s : Nat) : Int) = 1 - (s : Int) := by omega
              have hr2 := sread_ct w11 p D (HD0.out.stay HK11.out) HWW.out.up (by rw [HWW.out.S, HSL.out]; decide) (1 - s) (by omega) 4096 (by decide)
              rw [other_cont hs HWW.out HXL.out, e1] at hr2
              clear e1
              go_wp2_with fail
              refine (hr2).mono ?_
              rintro e w12 ⟨a12, c12, rfl, hO12, hb12⟩
              have HK12 := Lib.hid (HK11.out.trans (hb12.mono HK11.out.size))
              have HR12 := Lib.hid hO12.isRow
              clear hr2 hO12 hb12
              go_wp2_with (refine wp_make_bytes bt (.const (.int .i64 4096)) (.const (.int .i64 4096)) rfl rfl 4096 .i64 .i64 rfl rfl rfl (by decide) ?_; intro w13 hown hgr hsz; have HO13 := Lib.hid hown; have HG13 := Lib.hid ((Below.refl w12.heap.size w12).grown hgr (Nat.le_refl _) (fun k hk => by cases hk)); clear hown hgr hsz)
              have HK13 := Lib.hid (HK12.out.trans (HG13.out.mono HK12.out.size))
              have hsm3 := wsame_id w13 a12 (some ⟨w12.heap.size, 0, none⟩) (List.replicate 4096 0) c12 4096 (HR12.out.stay HG13.out) HO13.out.isRow
              rw [List.length_replicate] at hsm3
              refine (hsm3).mono ?_
              rintro e w14 ⟨rfl, hb14⟩
              have HK14 := Lib.hid (HK13.out.trans (hb14.mono HK13.out.size))
              clear hsm3 hb14
              go_wp2_with fail
              go_ret
              exact ⟨rfl, HBZ.out.trans (HK14.out.mono HBZ.out.size)⟩
end Go.Proofs.Ytofagofpeedfcaa
