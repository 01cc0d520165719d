/- Chapter 15: the reference's Get: walked. -/
import Derived.Test.YtofagofpeedfcaaGreatSlotG
import Derived.Test.YtofagofpeedfcaaGreatGf
namespace Go.Proofs.YtofagofpeedfcaaGreat
open Go Go.RowKit Go.Cit

set_option maxRecDepth 100000 in
theorem rget_err2 (w : World) (q : Option Addr) (s n : Int) (H : List UInt8) (E : Int) (hE : E ≠ 0)
    (hrd : ∀ W, Below w.heap.size w W → Calls Tryz.prog 14 #[.pointer q, .int .i64 s, .int .i64 n] W fun e w' => ∃ v, e = .returned (.tuple #[v, .int .i64 E]) ∧ Below W.heap.size W w') :
    Calls Tryz.prog 17 #[.pointer q, .int .i64 s, .int .i64 n, .agg (H.map vb).toArray] w fun e w' => e = .returned (.tuple #[.slice none 0 0, .int .i64 E]) ∧ Below w.heap.size w w' := by
  have HRD := Lib.hid hrd
  obtain ⟨C, hC⟩ : ∃ C, Hid (C = (H.map vb).toArray) := ⟨_, rfl⟩
  rw [← hC.out]
  have t0 : ((E : Int) != 0) = true := by simp [hE]
  clear hrd hE
  go_enter Tryz.func17, Tryz.ntmps17
  go_wp2_with ((with_reducible refine wpList_boxB (o := ⟨some 7, .box _ (.tmp 3), _, _, _, _⟩) (.tmp 3) (by with_unfolding_all rfl) (by with_unfolding_all rfl) (by with_unfolding_all rfl) ?_))
  obtain ⟨w1, hw1⟩ : ∃ w1, w1 = w.alloc (.cells C 54) := ⟨_, rfl⟩
  have HB1 : Hid (Below w.heap.size w w1) := by rw [hw1]; exact (Below.refl _ w).alloc (Nat.le_refl _) _
  rw [← hw1]
  clear hw1
  refine (HRD.out w1 HB1.out).mono ?_
  rintro e w2 ⟨v, rfl, hb2⟩
  have HB2 := Lib.hid (HB1.out.trans (hb2.mono HB1.out.size))
  clear hb2
  go_wp2_with fail
  go_ret2
  exact ⟨rfl, HB2.out⟩
theorem rget_err (w : World) (q : Option Addr) (s n : Int) (H : List UInt8) (E : Int) (hE : E ≠ 0)
    (hrd : ∀ W, Below w.heap.size w W → Calls Tryz.prog 14 #[.pointer q, .int .i64 s, .int .i64 n] W fun e w' => e = .returned (.tuple #[.slice none 0 0, .int .i64 E]) ∧ Below W.heap.size W w') :
    Calls Tryz.prog 17 #[.pointer q, .int .i64 s, .int .i64 n, .agg (H.map vb).toArray] w fun e w' => e = .returned (.tuple #[.slice none 0 0, .int .i64 E]) ∧ Below w.heap.size w w' :=
  rget_err2 w q s n H E hE fun W hb => (hrd W hb).mono fun e w' ⟨h1, h2⟩ => ⟨_, h1, h2⟩
def rgT (C D : Array Value) (v : Value) (t : Bool) : Nat → Ty
  | 22 => .val v
  | 23 => .val (.agg D)
  | 24 => .val (.agg C)
  | _ => .val (.bool t)
set_option maxRecDepth 100000 in
set_option maxHeartbeats 400000 in
/-- Get of bytes that are read. -/
theorem rget_good (w : World) (q : Option Addr) (s n : Int) (H : List UInt8) (hH : H.length = 32) (l : List UInt8) (hl : l.length ≤ 10000000)
    (hrd : ∀ W, Below w.heap.size w W → Calls Tryz.prog 14 #[.pointer q, .int .i64 s, .int .i64 n] W fun e w' => ∃ a c, e = .returned (.tuple #[.slice a l.length c, .int .i64 0]) ∧ Row w' a l c ∧ Below W.heap.size W w') :
    Calls Tryz.prog 17 #[.pointer q, .int .i64 s, .int .i64 n, .agg (H.map vb).toArray] w fun e w' => ∃ a c m, e = .returned (.tuple #[.slice a m.length c, .int .i64 (if sumB l = H then 0 else 150)]) ∧ m = (if sumB l = H then l else []) ∧ Row w' a m c ∧ Below w.heap.size w w' := by
  have HRD := Lib.hid hrd
  obtain ⟨C, hC⟩ : ∃ C, Hid (C = (H.map vb).toArray) := ⟨_, rfl⟩
  obtain ⟨D, hD⟩ : ∃ D, Hid (D = ((sumB l).map vb).toArray) := ⟨_, rfl⟩
  obtain ⟨t, ht⟩ : ∃ t : Bool, Hid (t = decide (sumB l = H)) := ⟨_, rfl⟩
  rw [← hC.out]
  have HC : Hid (C.size = 32) := by rw [Hid, hC.out]; exact vb32 H hH
  have HE : Hid (∀ w, (Op.equalIn 10000 54 (.agg D) (.agg C)).run Tryz.prog w = .ok t w) := by
    intro w; rw [hD.out, hC.out, ht.out, run_eq_bytes tgT _ _ (sumB32 _) hH]
  obtain ⟨N, hN⟩ : ∃ N : Nat, Hid (N = l.length) := ⟨_, rfl⟩
  rw [← hN.out] at HRD
  have HSUM : Hid (∀ (wx : World) (a : Option Addr) (c : Nat), Row wx a l c → Calls Tryz.prog 15 #[.slice a N c] wx fun e w' => e = .returned (.agg D) ∧ Below wx.heap.size wx w') := fun wx a c hr => by
    have h9 := refsum_calls wx a l c hr hl
    rw [← hN.out, ← hD.out] at h9
    exact h9
  clear hrd
  go_enter Tryz.func17, Tryz.ntmps17
  go_wp2_with ((with_reducible refine wpList_boxB (o := ⟨some 7, .box _ (.tmp 3), _, _, _, _⟩) (.tmp 3) (by with_unfolding_all rfl) (by with_unfolding_all rfl) (by with_unfolding_all rfl) ?_))
  obtain ⟨w1, hw1⟩ : ∃ w1, w1 = w.alloc (.cells C 54) := ⟨_, rfl⟩
  have HB1 : Hid (Below w.heap.size w w1) := by rw [hw1]; exact (Below.refl _ w).alloc (Nat.le_refl _) _
  have bT : w1.heap[w.heap.size]? = some (.cells C 54 (0, 0)) := by rw [hw1]; exact heap_alloc_new _ _
  rw [← hw1]
  clear hw1
  refine (HRD.out w1 HB1.out).mono ?_
  rintro e w2 ⟨a2, c2, rfl, hr2, hb2⟩
  have HB2 := Lib.hid (HB1.out.trans (hb2.mono HB1.out.size))
  have HR2 := Lib.hid hr2
  have HT := Lib.hid ((hb2.block _ (Array.getElem?_eq_some_iff.1 bT).1).trans bT)
  clear hb2 hr2 bT
  go_upto_region 4 with (fail)
  refine wp_region_ty (rgT C D (.slice a2 N c2) (!t)) (by kernel_rfl) (by kernel_rfl) ?_ ?_
  · refine opsAll_cons ?_ (opsAll_cons ?_ (opsAll_cons ?_ (opsAll_cons ?_ opsAll_nil)))
    all_goals intro a wx hk
    · exact ⟨wanted_free rfl, g_move (.tmp 10) rfl (hk.old 10 (by kernel_rfl))⟩
    · exact ⟨wanted_free rfl, g_call hk.below.size rfl (hk.fn _) #[.slice a2 N c2] (fun w => by kernel_rfl) (by simp [show a.eval (.tmp 22) = _ from hk.slot 22 (by kernel_rfl)]) ((HSUM.out wx a2 c2 (HR2.out.stay hk.below)).mono fun e w' ⟨h1, h2⟩ => ⟨_, h1, h2, rfl⟩)⟩
    · exact ⟨wanted_free rfl, g_loadB row_tag (.tmp 7) rfl (hk.old 7 (by kernel_rfl)) ((hk.below.block _ (Array.getElem?_eq_some_iff.1 HT.out).1).trans HT.out) HC.out rfl⟩
    · exact ⟨wanted_free rfl, g_bin rfl (hk.slot 23 (by kernel_rfl)) (hk.slot 24 (by kernel_rfl)) (run_neq_op tgT.guard _ _ HE.out) rfl⟩
  intro a wz hbz hsame hall
  have he := act_same hsame [22, 23, 24, 25] (by kernel_rfl)
  simp only [List.foldl_cons, List.foldl_nil] at he
  rw [show a.eval (.tmp 22) = _ from hall 22 (by kernel_rfl), show a.eval (.tmp 23) = _ from hall 23 (by kernel_rfl), show a.eval (.tmp 24) = _ from hall 24 (by kernel_rfl), show a.eval (.tmp 25) = _ from hall 25 (by kernel_rfl)] at he
  simp only [Act.put, List.setIfInBounds_toArray, List.set_cons_zero, List.set_cons_succ] at he
  subst he
  clear hsame hall
  have HB3 := Lib.hid (HB2.out.trans (hbz.mono HB2.out.size))
  have HR3 := Lib.hid (HR2.out.stay hbz)
  clear hbz HB2 HR2
  cases t with
  | true =>
    have hs : sumB l = H := by simpa using ht.out.symm
    have HS := Lib.hid hs
    clear hs
    go_wp2_with fail
    go_ret2
    exact ⟨a2, c2, l, by rw [← hN.out]; rfl, rfl, HR3.out, HB3.out⟩
  | false =>
    have hs : ¬ sumB l = H := by simpa using ht.out.symm
    have HS := Lib.hid hs
    clear hs
    go_wp2_with fail
    go_ret2
    exact ⟨none, 0, [], rfl, rfl, Row.nil_ _, HB3.out⟩
end Go.Proofs.YtofagofpeedfcaaGreat
