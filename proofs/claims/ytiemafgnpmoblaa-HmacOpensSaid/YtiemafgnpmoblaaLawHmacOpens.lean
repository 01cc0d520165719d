/- HmacOpens: the walk of the law. -/
import Derived.Test.YtiemafgnpmoblaaHmacOpenJ
import Derived.Test.YtiemafgnpmoblaaLawShaEats
namespace Go.Proofs.Ytiemafgnpmoblaa
open Go Go.RowKit Go.Cit

def hoT (vs v0 v1 v12 v14 : Value) (S : List UInt8) (q e : Bool) (X Y : Array Value) : Nat → Ty
  | 44 => .val vs
  | 45 => .val v0
  | 46 => .val v1
  | 47 => .row S
  | 50 => .val v12
  | 51 => .val v14
  | 55 => .val (.bool q)
  | 56 => .val (.bool q)
  | 60 => .val (.agg X)
  | 61 => .val (.agg Y)
  | 62 => .val (.bool e)
  | 63 => .val (.agg X)
  | 64 => .val (.agg Y)
  | 65 => .val (.bool e)
  | 69 => .val (.agg X)
  | 70 => .val (.agg X)
  | _ => .val (.bool true)
theorem ho_same {B : Nat} {wx : World} {o : Oper} {ρ : Operand → Value} {x y : Tmp} {a1 : Option Addr} {n1 c1 : Nat} {l : List UInt8} (hB : B ≤ wx.heap.size) (h : o.op = .call { callee := .value (.func 14), args := #[.tmp x, .tmp y], argTypes := #[25, 25] })
    (hf : ρ (.func 14) = .func (.func 14) #[] #[]) (h1 : (Ty.val (.slice a1 n1 c1)).ok (ρ (.tmp x)) wx) (hn : n1 = l.length) (h2 : (Ty.row l).ok (ρ (.tmp y)) wx) (r1 : Row wx a1 l c1) {T : Ty} (hT : T = .val (.bool true)) : Gives Try.prog B wx T ((execOp ρ o).run Try.prog wx) := by
  obtain ⟨a, c, hv, hr⟩ := h2
  subst hT hn
  refine g_call hB h hf #[.slice a1 l.length c1, .slice a l.length c] (fun w => by kernel_rfl) (by simp [show ρ (.tmp x) = _ from h1, hv]) ((same_calls wx a1 a l l c1 c r1 hr).mono fun e w3 ⟨he, hd⟩ => ⟨_, he, hd.below _, ?_⟩)
  show Value.bool _ = Value.bool _
  rw [ordB_self]

theorem opens_far (w : World) (a0 : Option Addr) (k : List UInt8) (c0 : Nat) (a1 : Option Addr) (b : List UInt8) (c1 : Nat) (a2 : Option Addr) (s : List UInt8) (c2 : Nat) (X Y : Array Value) (h : 600 < k.length ∨ 600 < b.length ∨ 600 < s.length) :
    Calls Try.prog 10 #[.slice a0 k.length c0, .slice a1 b.length c1, .slice a2 s.length c2, .agg X, .agg Y] w fun e w' => e = .returned (.bool true) ∧ Below w.heap.size w w' := by
  have B : Hid (Below w.heap.size w ((w.alloc (.cells X 36)).alloc (.cells Y 36))) := ((Below.refl _ w).alloc (Nat.le_refl _) _).alloc (by simp) _
  by_cases h1 : 600 < k.length
  · have d1 : decide ((600 : Int) < (k.length : Int)) = true := by simp; omega
    have d1' : decide (600 < k.length) = true := by simpa using h1
    go_enter Try.func10, Try.ntmps10
    go_wp2_with (first
      | ((with_reducible refine wpList_boxB (o := ⟨some 8, .box _ (.tmp 3), _, _, _, _⟩) (.tmp 3) (by with_unfolding_all rfl) (by with_unfolding_all rfl) (by with_unfolding_all rfl) ?_))
      | ((with_reducible refine wpList_boxB (o := ⟨some 9, .box _ (.tmp 4), _, _, _, _⟩) (.tmp 4) (by with_unfolding_all rfl) (by with_unfolding_all rfl) (by with_unfolding_all rfl) ?_)))
    go_ret
    exact ⟨rfl, B.out⟩
  have d1 : decide ((600 : Int) < (k.length : Int)) = false := by simp; omega
  have d1' : decide (600 < k.length) = false := by simpa using h1
  by_cases h2 : 600 < b.length
  · have d2 : decide ((600 : Int) < (b.length : Int)) = true := by simp; omega
    have d2' : decide (600 < b.length) = true := by simpa using h2
    go_enter Try.func10, Try.ntmps10
    go_wp2_with (first
      | ((with_reducible refine wpList_boxB (o := ⟨some 8, .box _ (.tmp 3), _, _, _, _⟩) (.tmp 3) (by with_unfolding_all rfl) (by with_unfolding_all rfl) (by with_unfolding_all rfl) ?_))
      | ((with_reducible refine wpList_boxB (o := ⟨some 9, .box _ (.tmp 4), _, _, _, _⟩) (.tmp 4) (by with_unfolding_all rfl) (by with_unfolding_all rfl) (by with_unfolding_all rfl) ?_)))
    go_ret
    exact ⟨rfl, B.out⟩
  have d2 : decide ((600 : Int) < (b.length : Int)) = false := by simp; omega
  have d2' : decide (600 < b.length) = false := by simpa using h2
  have h3 : 600 < s.length := by omega
  have d3 : decide ((600 : Int) < (s.length : Int)) = true := by simp; omega
  have d3' : decide (600 < s.length) = true := by simpa using h3
  go_enter Try.func10, Try.ntmps10
  go_wp2_with (first
    | ((with_reducible refine wpList_boxB (o := ⟨some 8, .box _ (.tmp 3), _, _, _, _⟩) (.tmp 3) (by with_unfolding_all rfl) (by with_unfolding_all rfl) (by with_unfolding_all rfl) ?_))
    | ((with_reducible refine wpList_boxB (o := ⟨some 9, .box _ (.tmp 4), _, _, _, _⟩) (.tmp 4) (by with_unfolding_all rfl) (by with_unfolding_all rfl) (by with_unfolding_all rfl) ?_)))
  go_ret
  exact ⟨rfl, B.out⟩

set_option maxRecDepth 100000 in
set_option maxHeartbeats 4000000 in
theorem opens_near (w : World) (a0 : Option Addr) (k : List UInt8) (c0 : Nat) (a1 : Option Addr) (b : List UInt8) (c1 : Nat) (a2 : Option Addr) (s : List UInt8) (c2 : Nat) (x y : List UInt8) (h0 : Row w a0 k c0) (h1 : Row w a1 b c1) (h2 : Row w a2 s c2) (hx : x.length = 32) (hy : y.length = 32) (hk6 : k.length ≤ 600) (hb6 : b.length ≤ 600) (hs6 : s.length ≤ 600) :
    Calls Try.prog 10 #[.slice a0 k.length c0, .slice a1 b.length c1, .slice a2 s.length c2, .agg (x.map vb).toArray, .agg (y.map vb).toArray] w fun e w' => e = .returned (.bool true) ∧ Below w.heap.size w w' := by
  have d1 : decide ((600 : Int) < (k.length : Int)) = false := by simp; omega
  have d1' : decide (600 < k.length) = false := by simp; omega
  have d2 : decide ((600 : Int) < (b.length : Int)) = false := by simp; omega
  have d2' : decide (600 < b.length) = false := by simp; omega
  have d3 : decide ((600 : Int) < (s.length : Int)) = false := by simp; omega
  have d3' : decide (600 < s.length) = false := by simp; omega
  obtain ⟨X, hX⟩ : ∃ C, Hid (C = (x.map vb).toArray) := ⟨_, rfl⟩
  obtain ⟨Y, hY⟩ : ∃ C, Hid (C = (y.map vb).toArray) := ⟨_, rfl⟩
  obtain ⟨e, he⟩ : ∃ e, Hid (e = decide (x = y)) := ⟨_, rfl⟩
  rw [← hX.out, ← hY.out]
  have HX : Hid (X.size = 32) := by rw [Hid, hX.out]; simpa using hx
  have HY : Hid (Y.size = 32) := by rw [Hid, hY.out]; simpa using hy
  have HSXY : Hid (∀ w, Calls Try.prog 44 #[.agg X, .agg Y] w fun z w' => z = .returned (.bool e) ∧ Below w.heap.size w w') := fun w => by
    have h := hsame_calls w x y hx hy
    rw [← hX.out, ← hY.out, ← he.out] at h
    exact h
  have HSXX : Hid (∀ w, Calls Try.prog 44 #[.agg X, .agg X] w fun z w' => z = .returned (.bool true) ∧ Below w.heap.size w w') := fun w => by
    have h := hsame_calls w x x hx hx
    rw [← hX.out] at h
    simpa using h
  have HEQ : Hid (∀ w, (Op.equalIn 10000 36 (.agg X) (.agg Y)).run Try.prog w = .ok e w) := fun w => by
    rw [hX.out, hY.out, he.out]; exact run_eq_bytes tagT _ _ hx hy w
  have b8 : ((w.alloc (.cells X 36)).alloc (.cells Y 36)).heap[w.heap.size]? = some (.cells X 36 (0, 0)) := (Below.heap_alloc _ _ _ (by simp)).trans (heap_alloc_new w _)
  have b9 : ((w.alloc (.cells X 36)).alloc (.cells Y 36)).heap[w.heap.size + 1]? = some (.cells Y 36 (0, 0)) := by
    have := heap_alloc_new (w.alloc (.cells X 36)) (.cells Y 36)
    rwa [World.size_alloc] at this
  have B0 : Below w.heap.size w ((w.alloc (.cells X 36)).alloc (.cells Y 36)) := ((Below.refl _ w).alloc (Nat.le_refl _) _).alloc (by simp) _
  have hsz : ((w.alloc (.cells X 36)).alloc (.cells Y 36)).heap.size = w.heap.size + 2 := by simp
  have HC1 := Lib.hid (seal_calls _ a0 k c0 (h0.stay B0) (by omega) a1 b c1 (h1.stay B0) (by omega))
  have HR0 := Lib.hid (h0.stay B0)
  have HR1 := Lib.hid (h1.stay B0)
  have HR2 := Lib.hid (h2.stay B0)
  have HB0 := Lib.hid (And.intro B0 (And.intro b8 (And.intro b9 hsz)))
  clear h0 h1 h2 hx hy B0 b8 b9 hsz
  go_enter Try.func10, Try.ntmps10
  go_wp2_with (first
    | ((with_reducible refine wpList_boxB (o := ⟨some 8, .box _ (.tmp 3), _, _, _, _⟩) (.tmp 3) (by with_unfolding_all rfl) (by with_unfolding_all rfl) (by with_unfolding_all rfl) ?_))
    | ((with_reducible refine wpList_boxB (o := ⟨some 9, .box _ (.tmp 4), _, _, _, _⟩) (.tmp 4) (by with_unfolding_all rfl) (by with_unfolding_all rfl) (by with_unfolding_all rfl) ?_)))
  refine HC1.out.mono ?_
  rintro z w1 ⟨a11, c11, rfl, r11, hb1⟩
  have B1 := HB0.out.1.trans (hb1.mono HB0.out.1.size)
  have H8 := (hb1.block w.heap.size (by rw [HB0.out.2.2.2]; omega)).trans HB0.out.2.1
  have H9 := (hb1.block (w.heap.size + 1) (by rw [HB0.out.2.2.2]; omega)).trans HB0.out.2.2.1
  have HQ1 := Lib.hid (And.intro H8 H9)
  have R0 := HR0.out.stay hb1
  have R1 := HR1.out.stay hb1
  have R2 := HR2.out.stay hb1
  have HC2 := Lib.hid (open_calls w1 a0 k c0 R0 (by omega) a2 s c2 R2 (by omega))
  have HRR1 := Lib.hid (And.intro R0 (And.intro R1 (And.intro R2 r11)))
  clear hb1 H8 H9 R0 R1 R2 r11 HC1 HR0 HR1 HR2 HB0
  obtain ⟨O, hO⟩ : ∃ O, Hid (O = openO k s) := ⟨_, rfl⟩
  obtain ⟨q, hq⟩ : ∃ q, Hid (q = okO k s) := ⟨_, rfl⟩
  rw [← hO.out, ← hq.out] at HC2
  go_wp2_with fail
  refine HC2.out.mono ?_
  rintro z w2 ⟨a12, c12, rfl, r12, hb2⟩
  have B2 := B1.trans (hb2.mono B1.size)
  have R0 := HRR1.out.1.stay hb2
  have R1 := HRR1.out.2.1.stay hb2
  have R2 := HRR1.out.2.2.1.stay hb2
  have R11 := HRR1.out.2.2.2.stay hb2
  have H8 := (hb2.block w.heap.size (Array.getElem?_eq_some_iff.1 HQ1.out.1).1).trans HQ1.out.1
  have H9 := (hb2.block (w.heap.size + 1) (Array.getElem?_eq_some_iff.1 HQ1.out.2).1).trans HQ1.out.2
  have HQ2 := Lib.hid (And.intro H8 H9)
  have HC3 := Lib.hid (refhopen_calls w2 a0 k c0 R0 (by omega) a2 s c2 R2 (by omega))
  rw [← hO.out, ← hq.out] at HC3
  have HRR2 := Lib.hid (And.intro R0 (And.intro R1 (And.intro R11 r12)))
  clear hb2 H8 H9 R0 R1 R2 R11 r12 HC2 HRR1 HQ1 B1
  go_wp2_with fail
  refine HC3.out.mono ?_
  rintro z w3 ⟨a14, c14, rfl, r14, hb3⟩
  have B3 := B2.trans (hb3.mono B2.size)
  have HR0 := Lib.hid (HRR2.out.1.stay hb3)
  have HR1 := Lib.hid (HRR2.out.2.1.stay hb3)
  have HR11 := Lib.hid (HRR2.out.2.2.1.stay hb3)
  have HR12 := Lib.hid (HRR2.out.2.2.2.stay hb3)
  have HR14 := Lib.hid r14
  have HT8 : Hid (w3.heap[w.heap.size]? = some (.cells X 36 (0, 0))) := (hb3.block w.heap.size (Array.getElem?_eq_some_iff.1 HQ2.out.1).1).trans HQ2.out.1
  have HT9 : Hid (w3.heap[w.heap.size + 1]? = some (.cells Y 36 (0, 0))) := (hb3.block (w.heap.size + 1) (Array.getElem?_eq_some_iff.1 HQ2.out.2).1).trans HQ2.out.2
  clear hb3 r14 HC3 HRR2 HQ2 B2
  go_wp2_with fail
  refine wp_region_ty (hoT (.slice a11 (sealB k b).length c11) (.slice a0 k.length c0) (.slice a1 b.length c1) (.slice a12 O.length c12) (.slice a14 O.length c14) (sealB k b) q e X Y) (by kernel_rfl) (by kernel_rfl) ?_ ?_
  · refine opsAll_cons ?_ (opsAll_cons ?_ (opsAll_cons ?_ (opsAll_cons ?_ (opsAll_cons ?_ (opsAll_cons ?_ (opsAll_cons ?_ (opsAll_cons ?_ (opsAll_cons ?_ (opsAll_cons ?_ (opsAll_cons ?_ (opsAll_cons ?_ (opsAll_cons ?_ (opsAll_cons ?_ (opsAll_cons ?_ (opsAll_cons ?_ (opsAll_cons ?_ (opsAll_cons ?_ (opsAll_cons ?_ (opsAll_cons ?_ (opsAll_cons ?_ (opsAll_cons ?_ (opsAll_cons ?_ (opsAll_cons ?_ (opsAll_cons ?_ (opsAll_cons ?_ (opsAll_cons ?_ (opsAll_cons ?_ (opsAll_cons ?_ (opsAll_cons ?_ opsAll_nil)))))))))))))))))))))))))))))
    all_goals intro a wx hk
    · -- slot 44
      exact ⟨wanted_free rfl, g_move (.tmp 11) rfl (hk.old 11 (by kernel_rfl))⟩
    · -- slot 45
      exact ⟨wanted_free rfl, g_move (.tmp 0) rfl (hk.old 0 (by kernel_rfl))⟩
    · -- slot 46
      exact ⟨wanted_free rfl, g_move (.tmp 1) rfl (hk.old 1 (by kernel_rfl))⟩
    · -- slot 47
      exact ⟨wanted_free rfl, g_call hk.below.size rfl (hk.fn _) #[.slice a0 k.length c0, .slice a1 b.length c1] (fun w => by kernel_rfl) (by simp [show a.eval (.tmp 45) = _ from hk.slot 45 (by kernel_rfl), show a.eval (.tmp 46) = _ from hk.slot 46 (by kernel_rfl)]) ((refseal_calls wx a0 k c0 (HR0.out.stay hk.below) (by omega) a1 b c1 (HR1.out.stay hk.below) (by omega)).mono fun e w3 ⟨a', c', he, hr, hd⟩ => ⟨_, he, hd, _, _, rfl, hr⟩)⟩
    · -- slot 48
      exact ⟨wanted_free rfl, ho_same hk.below.size rfl (hk.fn _) (hk.slot 44 (by kernel_rfl)) rfl (hk.slot 47 (by kernel_rfl)) (HR11.out.stay hk.below) rfl⟩
    · -- slot 49
      exact ⟨wanted_free rfl, g_move (.tmp 48) rfl (hk.slot 48 (by kernel_rfl))⟩
    · -- slot 50
      exact ⟨wanted_by 49 true (by kernel_rfl) (hk.slot 49 (by kernel_rfl)), g_move (.tmp 12) rfl (hk.old 12 (by kernel_rfl))⟩
    · -- slot 51
      exact ⟨wanted_by 49 true (by kernel_rfl) (hk.slot 49 (by kernel_rfl)), g_move (.tmp 14) rfl (hk.old 14 (by kernel_rfl))⟩
    · -- slot 52
      exact ⟨wanted_by 49 true (by kernel_rfl) (hk.slot 49 (by kernel_rfl)), g_call hk.below.size rfl (hk.fn _) #[.slice a12 O.length c12, .slice a14 O.length c14] (fun w => by kernel_rfl) (by simp [show a.eval (.tmp 50) = _ from hk.slot 50 (by kernel_rfl), show a.eval (.tmp 51) = _ from hk.slot 51 (by kernel_rfl)]) ((same_calls wx a12 a14 O O c12 c14 (HR12.out.stay hk.below) (HR14.out.stay hk.below)).mono fun e w3 ⟨he, hd⟩ => ⟨_, he, hd.below _, by show Value.bool _ = Value.bool _; rw [ordB_self]⟩)⟩
    · -- slot 53
      exact ⟨wanted_free rfl, g_pick rfl true (hk.slot 49 (by kernel_rfl)) (hk.slot 52 (by kernel_rfl))⟩
    · -- slot 54
      exact ⟨wanted_free rfl, g_move (.tmp 53) rfl (hk.slot 53 (by kernel_rfl))⟩
    · -- slot 55
      exact ⟨wanted_by 54 true (by kernel_rfl) (hk.slot 54 (by kernel_rfl)), g_move (.tmp 13) rfl (hk.old 13 (by kernel_rfl))⟩
    · -- slot 56
      exact ⟨wanted_by 54 true (by kernel_rfl) (hk.slot 54 (by kernel_rfl)), g_move (.tmp 15) rfl (hk.old 15 (by kernel_rfl))⟩
    · -- slot 57
      exact ⟨wanted_by 54 true (by kernel_rfl) (hk.slot 54 (by kernel_rfl)), g_bin rfl (hk.slot 55 (by kernel_rfl)) (hk.slot 56 (by kernel_rfl)) (v := .bool true) (fun w => by cases q <;> kernel_rfl) rfl⟩
    · -- slot 58
      exact ⟨wanted_free rfl, g_pick rfl true (hk.slot 54 (by kernel_rfl)) (hk.slot 57 (by kernel_rfl))⟩
    · -- slot 59
      exact ⟨wanted_free rfl, g_move (.tmp 58) rfl (hk.slot 58 (by kernel_rfl))⟩
    · -- slot 60
      exact ⟨wanted_by 59 true (by kernel_rfl) (hk.slot 59 (by kernel_rfl)), g_loadB row_tag (.tmp 8) rfl (hk.old 8 (by kernel_rfl)) ((hk.below.block _ (Array.getElem?_eq_some_iff.1 HT8.out).1).trans HT8.out) HX.out rfl⟩
    · -- slot 61
      exact ⟨wanted_by 59 true (by kernel_rfl) (hk.slot 59 (by kernel_rfl)), g_loadB row_tag (.tmp 9) rfl (hk.old 9 (by kernel_rfl)) ((hk.below.block _ (Array.getElem?_eq_some_iff.1 HT9.out).1).trans HT9.out) HY.out rfl⟩
    · -- slot 62
      exact ⟨wanted_by 59 true (by kernel_rfl) (hk.slot 59 (by kernel_rfl)), g_call hk.below.size rfl (hk.fn _) #[.agg X, .agg Y] (fun w => by kernel_rfl) (by simp [show a.eval (.tmp 60) = _ from hk.slot 60 (by kernel_rfl), show a.eval (.tmp 61) = _ from hk.slot 61 (by kernel_rfl)]) ((HSXY.out wx).mono fun e w3 ⟨he, hd⟩ => ⟨_, he, hd, rfl⟩)⟩
    · -- slot 63
      exact ⟨wanted_by 59 true (by kernel_rfl) (hk.slot 59 (by kernel_rfl)), g_loadB row_tag (.tmp 8) rfl (hk.old 8 (by kernel_rfl)) ((hk.below.block _ (Array.getElem?_eq_some_iff.1 HT8.out).1).trans HT8.out) HX.out rfl⟩
    · -- slot 64
      exact ⟨wanted_by 59 true (by kernel_rfl) (hk.slot 59 (by kernel_rfl)), g_loadB row_tag (.tmp 9) rfl (hk.old 9 (by kernel_rfl)) ((hk.below.block _ (Array.getElem?_eq_some_iff.1 HT9.out).1).trans HT9.out) HY.out rfl⟩
    · -- slot 65
      exact ⟨wanted_by 59 true (by kernel_rfl) (hk.slot 59 (by kernel_rfl)), g_bin rfl (hk.slot 63 (by kernel_rfl)) (hk.slot 64 (by kernel_rfl)) (run_eql_op tagT.guard _ _ HEQ.out) rfl⟩
    · -- slot 66
      exact ⟨wanted_by 59 true (by kernel_rfl) (hk.slot 59 (by kernel_rfl)), g_bin rfl (hk.slot 62 (by kernel_rfl)) (hk.slot 65 (by kernel_rfl)) (v := .bool true) (fun w => by cases e <;> kernel_rfl) rfl⟩
    · -- slot 67
      exact ⟨wanted_free rfl, g_pick rfl true (hk.slot 59 (by kernel_rfl)) (hk.slot 66 (by kernel_rfl))⟩
    · -- slot 68
      exact ⟨wanted_free rfl, g_move (.tmp 67) rfl (hk.slot 67 (by kernel_rfl))⟩
    · -- slot 69
      exact ⟨wanted_by 68 true (by kernel_rfl) (hk.slot 68 (by kernel_rfl)), g_loadB row_tag (.tmp 8) rfl (hk.old 8 (by kernel_rfl)) ((hk.below.block _ (Array.getElem?_eq_some_iff.1 HT8.out).1).trans HT8.out) HX.out rfl⟩
    · -- slot 70
      exact ⟨wanted_by 68 true (by kernel_rfl) (hk.slot 68 (by kernel_rfl)), g_loadB row_tag (.tmp 8) rfl (hk.old 8 (by kernel_rfl)) ((hk.below.block _ (Array.getElem?_eq_some_iff.1 HT8.out).1).trans HT8.out) HX.out rfl⟩
    · -- slot 71
      exact ⟨wanted_by 68 true (by kernel_rfl) (hk.slot 68 (by kernel_rfl)), g_call hk.below.size rfl (hk.fn _) #[.agg X, .agg X] (fun w => by kernel_rfl) (by simp [show a.eval (.tmp 69) = _ from hk.slot 69 (by kernel_rfl), show a.eval (.tmp 70) = _ from hk.slot 70 (by kernel_rfl)]) ((HSXX.out wx).mono fun e w3 ⟨he, hd⟩ => ⟨_, he, hd, rfl⟩)⟩
    · -- slot 72
      exact ⟨wanted_free rfl, g_pick rfl true (hk.slot 68 (by kernel_rfl)) (hk.slot 71 (by kernel_rfl))⟩
    · -- slot 10
      exact ⟨wanted_free rfl, g_assign (.tmp 72) rfl (hk.slot 72 (by kernel_rfl))⟩
  intro a wz hbz hsame hall
  have h0 := hall 10 (by kernel_rfl)
  have hd := hsame.1
  rename_i hK
  refine hK a wz ?_
  apply wp_ret
  refine bodyPost_ret (results_tmp rfl _ _ _) hd ⟨congrArg Ending.returned h0, ?_⟩
  exact B3.trans (hbz.mono B3.size)

theorem hmacOpens_law (w : World) (a0 : Option Addr) (k : List UInt8) (c0 : Nat) (a1 : Option Addr) (b : List UInt8) (c1 : Nat) (a2 : Option Addr) (s : List UInt8) (c2 : Nat) (x y : List UInt8) (h0 : Row w a0 k c0) (h1 : Row w a1 b c1) (h2 : Row w a2 s c2) (hx : x.length = 32) (hy : y.length = 32) :
    Calls Try.prog 10 #[.slice a0 k.length c0, .slice a1 b.length c1, .slice a2 s.length c2, .agg (x.map vb).toArray, .agg (y.map vb).toArray] w fun e w' => e = .returned (.bool true) ∧ Below w.heap.size w w' := by
  by_cases h : 600 < k.length ∨ 600 < b.length ∨ 600 < s.length
  · exact opens_far w a0 k c0 a1 b c1 a2 s c2 _ _ h
  · exact opens_near w a0 k c0 a1 b c1 a2 s c2 x y h0 h1 h2 hx hy (by omega) (by omega) (by omega)
end Go.Proofs.Ytiemafgnpmoblaa
