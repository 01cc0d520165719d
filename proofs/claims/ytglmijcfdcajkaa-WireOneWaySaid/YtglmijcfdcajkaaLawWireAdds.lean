/- WireAdds: any fields, added, are the form that the chapter says, after each of them. The walk of the law. -/
import Derived.Test.YtglmijcfdcajkaaWireFlds
namespace Go.Proofs.Ytglmijcfdcajkaa
open Go Go.RowKit Go.Cit

/-- The fields' bytes. -/
def allB (fs : List Fl) : List UInt8 := fs.flatMap Fl.bytes
theorem allB_take (fs : List Fl) (k : Nat) (h : k < fs.length) : allB (fs.take (k + 1)) = allB (fs.take k) ++ fs[k].bytes := by
  rw [allB, allB, List.take_succ_eq_append_getElem h, List.flatMap_append]; simp
theorem allB_len (fs : List Fl) (h : ∀ f ∈ fs, f.t.length = 32) : (allB fs).length ≤ totN fs := by
  induction fs with
  | nil => simp [allB]
  | cons f fs ih =>
    have h1 := bytes_room f (h f (by simp))
    have h2 := ih (fun g hg => h g (by simp [hg]))
    simp only [allB, List.flatMap_cons, List.length_append, totN, List.map_cons, List.sum_cons] at h2 ⊢
    omega

theorem Save.ofB {B : Nat} {w w' : World} (h : Below B w w') : Save (· < B) w w' := ⟨h.os, h.tape, h.output, h.size, fun k _ hk => h.block k hk⟩

set_option maxRecDepth 100000 in
set_option maxHeartbeats 4000000 in
theorem wireAdds_law (w : World) (a0 : Option Addr) (fs : List Fl) (c0 : Nat) (h0 : Flds w a0 fs c0) :
    Calls Try.prog 3 #[.slice a0 fs.length c0] w fun e w' => e = .returned (.bool true) ∧ Below w.heap.size w w' := by
  have hlen := h0.len_le
  go_enter Try.func3, Try.ntmps3
  go_wp2_with fail
  refine (great_calls _ _ _ _ h0).mono ?_
  rintro e w1 ⟨rfl, hw1⟩
  subst hw1
  by_cases hg : 5000 < totN fs
  · have gg : decide (5000 < totN fs) = true := decide_eq_true hg
    have HG := Lib.hid hg
    clear hg
    go_wp2_with fail
    go_ret
    exact ⟨rfl, Below.refl _ _⟩
  have gg : decide (5000 < totN fs) = false := decide_eq_false hg
  have HG : Hid (∀ k, (allB (fs.take k)).length ≤ 5000) := by
    intro k
    have h1 := allB_len (fs.take k) (fun f hf => by
      obtain ⟨i, hi, rfl⟩ := List.mem_iff_getElem.1 (List.mem_of_mem_take hf)
      exact (h0.fld i hi).t32)
    have h2 := totN_le fs k
    omega
  have HF : Hid (∀ i (h : i < fs.length), fs[i].l.length ≤ 5000) := by
    intro i h
    have := totN_one fs i h
    omega
  clear hg
  go_wp2_with fail
  refine (newwriter_calls _).mono ?_
  rintro e w2 ⟨rfl, hW, hb2⟩
  go_wp2_with fail
  clear gg
  go_loopw [4, 5] (fun want i wr => ∃ (k : Nat) (a : Option Addr) (X : List UInt8) (c : Nat) (a2 : Option Addr) (Y : List UInt8) (c2 : Nat), Hid (X = allB (fs.take k)) ∧ Hid (Y = X) ∧ k ≤ fs.length ∧ i = .int .i64 k ∧ want = .slice a2 Y.length c2 ∧
    Own 5 w1.heap.size wr a2 Y c2 ∧ Wr w1.heap.size wr w1.heap.size a X c 0 ∧ (∀ g, blk a2 = some g → blk a ≠ some g) ∧ Below w1.heap.size w1 wr) (fun _ i _ => fs.length - (intOf i).toNat)
  case atStart => exact ⟨0, none, [], 0, none, [], 0, rfl, rfl, Nat.zero_le _, rfl, rfl, Own.nil _ _ _, hW, fun g hg => by simp [blk] at hg, hb2⟩
  case round =>
    clear hW hb2
    obtain ⟨wo, rfl⟩ : ∃ wo : World, wo = wr := ⟨_, rfl⟩
    obtain ⟨k, a, X, c, a2, Y, c2, HX, HY, hk, rfl, rfl, hown, hW, hdis, B⟩ := hrel
    have hs := B.size
    have hXl : X.length ≤ 5000 := by rw [HX.out]; exact HG.out k
    have hYl : Y.length ≤ 5000 := by rw [HY.out]; exact hXl
    by_cases hlt : k < fs.length
    · have q0 := h0.stay B
      have i0 := q0.index k hlt
      have ld := q0.load k hlt
      have fat := q0.fld k hlt
      have HXZ : Hid (X ++ fs[k].bytes = allB (fs.take (k + 1))) := by rw [Hid, HX.out, allB_take fs k hlt]
      have hZl : Hid (X.length + fs[k].bytes.length ≤ 5000) := by rw [Hid, ← List.length_append, HXZ.out]; exact HG.out (k + 1)
      have HLD := Lib.hid ld
      have hfl : fs[k].l.length ≤ 5000 := HF.out k hlt
      clear ld
      go_wp2_with ((with_reducible refine wpList_load_op (o := ⟨some 24, .load 31 (.tmp 23), _, _, _, _⟩) (by with_unfolding_all rfl) (by with_unfolding_all rfl) (by with_unfolding_all rfl) HLD.out ?_))
      refine (put_calls _ fs[k] fat (by omega)).mono ?_
      rintro e w3 ⟨a3, Z, c3, HZ, rfl, hm3, hn3, hb3⟩
      have hZ2 : Z.length ≤ 5000 := by have := hZl.out; rw [HZ.out]; omega
      have own3 := hown.stay hb3
      have hs3 := Nat.le_trans hs hb3.size
      have hO : ∀ {a4 c4 w4}, Own 5 w1.heap.size w4 a4 (Y ++ Z) c4 → w3.grownBy w4 (blk a2) → Near w3.heap.size a2 a4 →
          Hid (Flds w4 a0 fs c0 ∧ Wr w1.heap.size w4 w1.heap.size a X c 0 ∧ (∀ g, blk a4 = some g → blk a ≠ some g) ∧ Below w1.heap.size w1 w4) := by
        intro a4 c4 w4 ho hg hn
        have B3 := B.trans (hb3.mono hs)
        have B4 : Below w1.heap.size w1 w4 := B3.grown hg B3.size (fun g hg => (own3.blk_ge hg).1)
        have hW3 := hW.stay hb3
        refine ⟨h0.stay B4, hW3.save (Save.grown hg) (fun he => own_ne own3 hW3.blk (by decide) he.symm) (fun g hga he => hdis g he.symm hga), fun g hga he => ?_, B4⟩
        rcases hn g hga with h1 | h1
        · exact hdis g h1 he
        · have := (hW3.own.blk_ge he).2; omega
      go_wp2_with (first | (at_builtin; refine wp_append_at bt (.tmp 20) (.tmp 25) rfl rfl own3 hm3.isRow hn3 (by omega) hs3 rfl rfl ?_; intro a4 c4 w4 hown4 hgr4 hnear4; have HO := hO hown4 hgr4 hnear4; have HL4 := Lib.hid (HO.out.1.load k hlt)) | ((with_reducible refine wpList_load_op (o := ⟨some 31, .load 31 (.tmp 30), _, _, _, _⟩) (by with_unfolding_all rfl) (by with_unfolding_all rfl) (by with_unfolding_all rfl) HL4.out ?_)))
      obtain ⟨q4, hW4, hdis4, B4⟩ := HO.out
      have hs4 := B4.size
      refine (ladd_calls fs[k] (q4.fld k hlt) hW4 hs4 (by have := hZl.out; omega)).mono ?_
      rintro e w5 ⟨a5, X5, c5, HX5, rfl, hW5, hS5, hN5⟩
      clear HO hO HL4 HLD
      go_wp2_with fail
      refine (done_calls hW5).mono ?_
      rintro e w6 ⟨a6, V, c6, HV, rfl, hm6, hb6⟩
      have hXY : Hid (V = Y ++ Z) := by rw [Hid, HV.out, HX5.out, HZ.out, HY.out]
      have hownw : Own 5 w1.heap.size w5 a4 (Y ++ Z) c4 := hown4.save hS5 (fun g hg => ⟨fun he => own_ne hown4 hW4.blk (by decide) (by rw [hg, he]), fun he => hdis4 g hg he.symm⟩)
      have own6 := hownw.stay hb6
      have hsm := same_calls _ _ _ V (Y ++ Z) c6 c4 hm6.row own6.isRow
      rw [List.length_append] at hsm
      have hW6 := hW5.stay hb6
      have B5 : Below w1.heap.size w1 w5 := B4.trans (hS5.below hs4 (fun g hg => ⟨by omega, fun he => by have := (hW4.own.blk_ge he.symm).1; omega⟩))
      have B6 : Below w1.heap.size w1 w6 := B5.trans (hb6.mono B5.size)
      have hdis5 : ∀ g, blk a4 = some g → blk a5 ≠ some g := fun g hg he => by
        rcases hN5 g he with h1 | h1
        · exact hdis4 g hg h1
        · have := (hown4.blk_ge hg).2; omega
      have gs : (ordB V (Y ++ Z) == 0) = true := by rw [hXY.out]; exact ordB_self _
      have hVl : V.length ≤ 20000 := by rw [hXY.out, List.length_append]; omega
      have b7 : ∀ {w7}, Drew w6 w7 → Below w5.heap.size w5 w7 ∧ Mine w5.heap.size w7 a6 V c6 := fun hd => ⟨hb6.trans (hd.below _), hm6.stay (hd.below _)⟩
      clear own6 hb6 hb3 hgr4 hnear4 hS5 hN5 hm3 own3 hown4 hW4 q4 B4 hdis4 hn3
      go_wp2_with fail
      refine Calls.mono hsm ?_
      rintro e w7 ⟨rfl, hd7⟩
      obtain ⟨B7, m7⟩ := b7 hd7
      clear b7 hd7 hsm B6 hW6 hm6
      go_wp2_with fail
      clear gs
      go_loopw [8] (fun i wx => ∃ (t : Nat) (U : List UInt8), Hid (U.length = V.length) ∧ t ≤ V.length ∧ i = .int .i64 t ∧ Mine w5.heap.size wx a6 U c6 ∧ Below w5.heap.size w5 wx) (fun i _ => V.length - (intOf i).toNat)
      case atStart => exact ⟨0, V, rfl, Nat.zero_le _, rfl, m7, B7⟩
      case round =>
        clear m7 B7
        obtain ⟨t, U, HU, ht, rfl, mx, B8⟩ := hrel
        by_cases hlt2 : t < V.length
        · have hkV : t < U.length := by rw [HU.out]; exact hlt2
          have j0 := mx.row.index bt.slice bt.sz t hkV
          rw [HU.out] at j0
          have e0 := mx.cellOf hkV
          have f0 := mx.free t hkV
          have HS := Lib.hid (mx.stored t hkV (bAdd U[t] (bI 1)))
          go_wp2_with fail
          go_roundw
          case rel => exact ⟨t + 1, _, by rw [Hid, List.length_set]; exact HU.out, by omega, by go_num, HS.out.1, B8.trans HS.out.2.2⟩
          case measure => simp [intOf]; omega
        · have HX6 : Hid (X5 = allB (fs.take (k + 1))) := by rw [Hid, HX5.out, HXZ.out]
          have HY6 : Hid (Y ++ Z = X5) := by rw [Hid, HX5.out, HY.out, HZ.out]
          go_wp2_with fail
          go_roundw
          case rel => exact ⟨k + 1, a5, X5, c5, a4, Y ++ Z, c4, HX6, HY6, hlt, by go_num, by simp, hownw.stay B8, hW5.stay B8, hdis5, B5.trans (B8.mono B5.size)⟩
          case measure => simp [intOf]; omega
    · go_wp2_with fail
      go_ret
      exact ⟨rfl, B⟩
end Go.Proofs.Ytglmijcfdcajkaa
