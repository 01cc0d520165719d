/- ShaSums: the walk of the law. -/
import Derived.Test.YtiemafgnpmoblaaGf
import Derived.Test.YtiemafgnpmoblaaLawShaEats
namespace Go.Proofs.Ytiemafgnpmoblaa
open Go Go.RowKit Go.Cit

def tailI (n : Int) : List UInt8 := if n < 0 then [] else tailB n.toNat
theorem tailneg_calls (w : World) (n : Int) (hn : n < 0) :
    Calls Try.prog 23 #[.int .i64 n] w fun e w' => e = .returned (.slice none 0 0) ∧ w = w' := by
  have d1 : decide (n < 0) = true := by simpa using hn
  go_enter Try.func23, Try.ntmps23
  go_wp2
  go_ret
  exact ⟨rfl, rfl⟩
theorem taili_calls (w : World) (n : Int) (hn : n ≤ 100000) :
    Calls Try.prog 23 #[.int .i64 n] w fun e w' => ∃ a c, e = .returned (.slice a (tailI n).length c) ∧ Row w' a (tailI n) c ∧ Below w.heap.size w w' := by
  unfold tailI
  by_cases h : n < 0
  · rw [if_pos h]
    refine (tailneg_calls w n h).mono ?_
    rintro e w' ⟨rfl, rfl⟩
    exact ⟨none, 0, rfl, Row.nil_ w, Below.refl _ _⟩
  · rw [if_neg h]
    have h2 : ((n.toNat : Nat) : Int) = n := by omega
    have := tail_calls w n.toNat (by omega)
    rw [h2] at this
    exact this

/-- What is said of each slot of the law's great statement. -/
def sumsT (l : List UInt8) (u v : Value) : Nat → Ty
  | 25 => .val (.agg ((sumB l).map vb).toArray)
  | 26 => .val v
  | 27 => .val (.agg ((sumB l).map vb).toArray)
  | 30 => .val (.agg ((sumB l).map vb).toArray)
  | 31 => .val (.string ⟨(hexB (sumB l)).toArray⟩)
  | 32 => .val (.agg ((sumB l).map vb).toArray)
  | 33 => .val (.string ⟨(hexB (sumB l)).toArray⟩)
  | 37 => .val u
  | 38 => .val v
  | 39 => .val (.bool true)
  | _ => .val (.bool false)

theorem neq_str {x y : Operand} (s : List UInt8) (w : World) : (do eqGuard .neq 9 x y (.string ⟨s.toArray⟩) (.string ⟨s.toArray⟩); binOp .neq 9 (.string ⟨s.toArray⟩) (.string ⟨s.toArray⟩) : Sem Value).run Try.prog w = .ok (.bool false) w := by
  go_simp

set_option maxRecDepth 100000 in
set_option maxHeartbeats 4000000 in
theorem shaSums_law (w : World) (a0 : Option Addr) (b : List UInt8) (c0 : Nat) (n : Int) (h0 : Row w a0 b c0) (hn9 : -9223372036854775808 ≤ n ∧ n ≤ 9223372036854775807) :
    Calls Try.prog 4 #[.slice a0 b.length c0, .int .i64 n] w fun e w' => e = .returned (.bool true) ∧ Below w.heap.size w w' := by
  have hlen := h0.len_le
  by_cases hbig : 600 < b.length ∨ n < -5 ∨ 100000 < n
  · have HP : Hid (∃ d1 d2 d3, decide ((600 : Int) < (b.length : Int)) = d1 ∧ decide (n < -5) = d2 ∧ decide (100000 < n) = d3) := ⟨_, _, _, rfl, rfl, rfl⟩
    by_cases h1 : 600 < b.length
    · have d1 : decide ((600 : Int) < (b.length : Int)) = true := by simp; omega
      have d1' : decide (600 < b.length) = true := by simpa using h1
      go_enter Try.func4, Try.ntmps4
      go_wp2_with fail
      go_ret
      exact ⟨rfl, Below.refl _ _⟩
    · have d1 : decide ((600 : Int) < (b.length : Int)) = false := by simp; omega
      have d1' : decide (600 < b.length) = false := by simpa using h1
      by_cases h2 : n < -5
      · have d2 : decide (n < -5) = true := by simpa using h2
        go_enter Try.func4, Try.ntmps4
        go_wp2_with fail
        go_ret
        exact ⟨rfl, Below.refl _ _⟩
      · have d2 : decide (n < -5) = false := by simpa using h2
        have h3 : 100000 < n := by omega
        have d3 : decide (100000 < n) = true := by simpa using h3
        go_enter Try.func4, Try.ntmps4
        go_wp2_with fail
        go_ret
        exact ⟨rfl, Below.refl _ _⟩
  · have hb6 : b.length ≤ 600 := by omega
    have hn1 : -5 ≤ n := by omega
    have hn2 : n ≤ 100000 := by omega
    have d1 : decide ((600 : Int) < (b.length : Int)) = false := by simp; omega
    have d1' : decide (600 < b.length) = false := by simp; omega
    have d2 : decide (n < -5) = false := by simp; omega
    have d3 : decide (100000 < n) = false := by simp; omega
    have HA := Lib.hid (fun ρ d ty ps af w => alloc_tag ρ d ty ps (af := af) w)
    obtain ⟨X, hX⟩ : ∃ Y, Hid (Y = ((List.replicate 32 (0 : UInt8)).map vb).toArray) := ⟨_, rfl⟩
    rw [← hX.out] at HA
    have HX : Hid (X.size = 32) := by rw [Hid, hX.out]; simp
    clear hbig
    go_enter Try.func4, Try.ntmps4
    go_wp2_with fail
    refine (copy_calls _ a0 b c0 h0 (by omega)).mono ?_
    rintro e w1 ⟨a5, c5, rfl, hO, hb1⟩
    have HR1 : Hid (Row w1 a0 b c0) := h0.stay hb1
    have HM1 : Hid (Row w1 a5 b c5) := hO.isRow
    have HS := Lib.hid (sum_calls w1 a5 b c5 hO.isRow (by omega))
    clear hO h0
    go_wp2_with fail
    refine HS.out.mono ?_
    rintro e w2 ⟨rfl, hb2⟩
    have B2 := hb1.trans (hb2.mono hb1.size)
    have HR2 : Hid (Row w2 a0 b c0) := HR1.out.stay hb2
    have HM2 : Hid (Row w2 a5 b c5) := HM1.out.stay hb2
    obtain ⟨D, hD⟩ : ∃ D, Hid (D = ((sumB b).map vb).toArray) := ⟨_, rfl⟩
    rw [← hD.out]
    have HD : Hid (D.size = 32) := by rw [Hid, hD.out]; simpa using sumB_len b
    have HDo : Hid (D.all (·.oneCell') = true) := by rw [Hid, hD.out]; exact arrB_ok _
    have HN2 : Hid ((w2.alloc (.cells X 36)).heap[w2.heap.size]? = some (.cells X 36 (0, 0))) := heap_alloc_new _ _
    clear hb1 hb2 HR1 HM1 HS
    go_wp2_with (first
      | ((with_reducible refine wpList_value (o := ⟨some 6, .alloc _, _, _, _, _⟩) (by with_unfolding_all rfl) (HA.out _ _ _ _ _ _) ?_))
      | ((with_reducible refine wpList_storeB (o := ⟨none, .store _ (.tmp 6) (.tmp 22), _, _, _, _⟩) row_tag (.tmp 6) (.tmp 22) (by with_unfolding_all rfl) (by with_unfolding_all rfl) (by with_unfolding_all rfl) (by with_unfolding_all rfl) (by with_unfolding_all rfl) HN2.out HX.out HD.out HDo.out ?_); intro w3 hb3 hS3; have HB3 := Lib.hid hb3; have HS3 := Lib.hid hS3; clear hb3 hS3))
    have hs3 := HS3.out.size
    rw [World.size_alloc] at hs3
    have hA2 : Below w2.heap.size w2 (w2.alloc (.cells X 36)) := (Below.refl _ _).alloc (Nat.le_refl _) _
    have B3' : Below w2.heap.size w2 w3 := hA2.trans (HS3.out.below (by simp) (fun j hj => by omega))
    have HR3 : Hid (Row w3 a0 b c0) := HR2.out.stay B3'
    have HM3 : Hid (Row w3 a5 b c5) := HM2.out.stay B3'
    have B3 := B2.trans (B3'.mono B2.size)
    clear HS3 hA2 B3' HR2 HM2 B2
    refine (taili_calls w3 n (by omega)).mono ?_
    rintro e w4 ⟨a7, c7, rfl, hr7, hb4⟩
    have HR : Hid (Row w4 a0 b c0) := HR3.out.stay hb4
    have HM : Hid (Row w4 a5 b c5) := HM3.out.stay hb4
    have HT : Hid (w4.heap[w2.heap.size]? = some (.cells D 36 (0, 0))) := (hb4.block _ (Array.getElem?_eq_some_iff.1 HB3.out).1).trans HB3.out
    have B4 := B3.trans (hb4.mono B3.size)
    have HTL := Lib.hid hr7
    clear hr7 hb4 HR3 HM3 B3 HB3
    go_wp2_with fail
    refine wp_region_ty (sumsT b (.slice a5 b.length c5) (.slice a0 b.length c0)) (by kernel_rfl) (by kernel_rfl) ?_ ?_
    · refine opsAll_cons ?_ (opsAll_cons ?_ (opsAll_cons ?_ (opsAll_cons ?_ (opsAll_cons ?_ (opsAll_cons ?_ (opsAll_cons ?_ (opsAll_cons ?_ (opsAll_cons ?_ (opsAll_cons ?_ (opsAll_cons ?_ (opsAll_cons ?_ (opsAll_cons ?_ (opsAll_cons ?_ (opsAll_cons ?_ (opsAll_cons ?_ (opsAll_cons ?_ opsAll_nil))))))))))))))))
      all_goals intro a wx hk
      · -- slot 25
        exact ⟨wanted_free rfl, g_loadB row_tag (.tmp 6) rfl (hk.old 6 (by kernel_rfl)) ((hk.below.block _ (Array.getElem?_eq_some_iff.1 HT.out).1).trans HT.out) HD.out (by rw [hD.out]; rfl)⟩
      · -- slot 26
        exact ⟨wanted_free rfl, g_move (.tmp 0) rfl (hk.old 0 (by kernel_rfl))⟩
      · -- slot 27
        exact ⟨wanted_free rfl, g_call hk.below.size rfl (hk.fn _) #[.slice a0 b.length c0] (fun w => by kernel_rfl) (by simp [show a.eval (.tmp 26) = _ from hk.slot 26 (by kernel_rfl)]) ((refsum_calls wx a0 b c0 (HR.out.stay hk.below) (by omega)).mono fun e w3 ⟨he, hd⟩ => ⟨_, he, hd, rfl⟩)⟩
      · -- slot 28
        exact ⟨wanted_free rfl, g_bin rfl (hk.slot 25 (by kernel_rfl)) (hk.slot 27 (by kernel_rfl)) (run_neq_op tagT.guard _ _ (run_eq_bytes tagT _ _ (sumB_len b) (sumB_len b))) (by show Value.bool _ = Value.bool _; simp)⟩
      · -- slot 29
        exact ⟨wanted_free rfl, g_move (.tmp 28) rfl (hk.slot 28 (by kernel_rfl))⟩
      · -- slot 30
        exact ⟨wanted_by 29 false (by kernel_rfl) (hk.slot 29 (by kernel_rfl)), g_loadB row_tag (.tmp 6) rfl (hk.old 6 (by kernel_rfl)) ((hk.below.block _ (Array.getElem?_eq_some_iff.1 HT.out).1).trans HT.out) HD.out (by rw [hD.out]; rfl)⟩
      · -- slot 31
        exact ⟨wanted_by 29 false (by kernel_rfl) (hk.slot 29 (by kernel_rfl)), g_call hk.below.size rfl (hk.fn _) #[.agg ((sumB b).map vb).toArray] (fun w => by kernel_rfl) (by simp [show a.eval (.tmp 30) = _ from hk.slot 30 (by kernel_rfl)]) ((hex_calls wx _ (sumB_len b)).mono fun e w3 ⟨he, hd⟩ => ⟨_, he, hd, rfl⟩)⟩
      · -- slot 32
        exact ⟨wanted_by 29 false (by kernel_rfl) (hk.slot 29 (by kernel_rfl)), g_loadB row_tag (.tmp 6) rfl (hk.old 6 (by kernel_rfl)) ((hk.below.block _ (Array.getElem?_eq_some_iff.1 HT.out).1).trans HT.out) HD.out (by rw [hD.out]; rfl)⟩
      · -- slot 33
        exact ⟨wanted_by 29 false (by kernel_rfl) (hk.slot 29 (by kernel_rfl)), g_call hk.below.size rfl (hk.fn _) #[.agg ((sumB b).map vb).toArray] (fun w => by kernel_rfl) (by simp [show a.eval (.tmp 32) = _ from hk.slot 32 (by kernel_rfl)]) ((refhex_calls wx _ (sumB_len b)).mono fun e w3 ⟨he, hd⟩ => ⟨_, he, hd, rfl⟩)⟩
      · -- slot 34
        exact ⟨wanted_by 29 false (by kernel_rfl) (hk.slot 29 (by kernel_rfl)), g_bin rfl (hk.slot 31 (by kernel_rfl)) (hk.slot 33 (by kernel_rfl)) (neq_str _) rfl⟩
      · -- slot 35
        exact ⟨wanted_free rfl, g_pick rfl false (hk.slot 29 (by kernel_rfl)) (hk.slot 34 (by kernel_rfl))⟩
      · -- slot 36
        exact ⟨wanted_free rfl, g_move (.tmp 35) rfl (hk.slot 35 (by kernel_rfl))⟩
      · -- slot 37
        exact ⟨wanted_by 36 false (by kernel_rfl) (hk.slot 36 (by kernel_rfl)), g_move (.tmp 5) rfl (hk.old 5 (by kernel_rfl))⟩
      · -- slot 38
        exact ⟨wanted_by 36 false (by kernel_rfl) (hk.slot 36 (by kernel_rfl)), g_move (.tmp 0) rfl (hk.old 0 (by kernel_rfl))⟩
      · -- slot 39
        exact ⟨wanted_by 36 false (by kernel_rfl) (hk.slot 36 (by kernel_rfl)), g_call hk.below.size rfl (hk.fn _) #[.slice a5 b.length c5, .slice a0 b.length c0] (fun w => by kernel_rfl) (by simp [show a.eval (.tmp 37) = _ from hk.slot 37 (by kernel_rfl), show a.eval (.tmp 38) = _ from hk.slot 38 (by kernel_rfl)]) ((same_calls wx a5 a0 b b c5 c0 (HM.out.stay hk.below) (HR.out.stay hk.below)).mono fun e w3 ⟨he, hd⟩ => ⟨_, he, hd.below _, by show Value.bool _ = Value.bool _; rw [ordB_self]⟩)⟩
      · -- slot 40
        exact ⟨wanted_by 36 false (by kernel_rfl) (hk.slot 36 (by kernel_rfl)), g_not rfl _ (hk.slot 39 (by kernel_rfl)) rfl⟩
      · -- slot 41
        exact ⟨wanted_free rfl, g_pick rfl false (hk.slot 36 (by kernel_rfl)) (hk.slot 40 (by kernel_rfl))⟩
    intro a wz hbz hsame hall
    have he := act_same hsame [25, 26, 27, 28, 29, 30, 31, 32, 33, 34, 35, 36, 37, 38, 39, 40, 41] (by kernel_rfl)
    simp only [List.foldl_cons, List.foldl_nil] at he
    rw [show a.eval (.tmp 25) = _ from hall 25 (by kernel_rfl), show a.eval (.tmp 26) = _ from hall 26 (by kernel_rfl), show a.eval (.tmp 27) = _ from hall 27 (by kernel_rfl), show a.eval (.tmp 28) = _ from hall 28 (by kernel_rfl), show a.eval (.tmp 29) = _ from hall 29 (by kernel_rfl), show a.eval (.tmp 30) = _ from hall 30 (by kernel_rfl), show a.eval (.tmp 31) = _ from hall 31 (by kernel_rfl), show a.eval (.tmp 32) = _ from hall 32 (by kernel_rfl), show a.eval (.tmp 33) = _ from hall 33 (by kernel_rfl), show a.eval (.tmp 34) = _ from hall 34 (by kernel_rfl), show a.eval (.tmp 35) = _ from hall 35 (by kernel_rfl), show a.eval (.tmp 36) = _ from hall 36 (by kernel_rfl), show a.eval (.tmp 37) = _ from hall 37 (by kernel_rfl), show a.eval (.tmp 38) = _ from hall 38 (by kernel_rfl), show a.eval (.tmp 39) = _ from hall 39 (by kernel_rfl), show a.eval (.tmp 40) = _ from hall 40 (by kernel_rfl), show a.eval (.tmp 41) = _ from hall 41 (by kernel_rfl)] at he
    simp only [Act.put, List.setIfInBounds_toArray, List.set_cons_zero, List.set_cons_succ] at he
    subst he
    clear hsame hall
    have HT5 : Hid (Row wz a7 (tailI n) c7) := HTL.out.stay hbz
    have B5 := B4.trans (hbz.mono B4.size)
    clear hbz HT HR HM HTL B4
    by_cases hneg : n < 0
    · have e1 : decide (n < 0) = true := by simpa using hneg
      have e2 : (tailI n).length = 0 := by unfold tailI; rw [if_pos hneg]; rfl
      go_wp2_with fail
      go_ret
      exact ⟨rfl, B5⟩
    · have e1 : decide (n < 0) = false := by simpa using hneg
      obtain ⟨m, rfl⟩ := Int.eq_ofNat_of_zero_le (show 0 ≤ n by omega)
      have HTI : Hid (tailI (m : Int) = tailB m) := by rw [Hid, tailI, if_neg hneg]; rfl
      go_wp2_with fail
      refine (reftail_calls _ m (by omega)).mono ?_
      rintro e w6 ⟨a8, c8, rfl, hO8, hb6⟩
      have r7 := HT5.out.stay hb6
      rw [HTI.out] at r7 ⊢
      have B6 := B5.trans (hb6.mono B5.size)
      have HSM := Lib.hid (same_calls w6 a7 a8 (tailB m) (tailB m) c7 c8 r7 hO8.isRow)
      clear hb6 hO8 r7
      go_wp2_with fail
      refine HSM.out.mono ?_
      rintro e w7 ⟨rfl, hd⟩
      have B7 := B6.trans (hd.below _)
      rw [ordB_self]
      go_wp2_with fail
      go_ret
      exact ⟨rfl, B7⟩
end Go.Proofs.Ytiemafgnpmoblaa
