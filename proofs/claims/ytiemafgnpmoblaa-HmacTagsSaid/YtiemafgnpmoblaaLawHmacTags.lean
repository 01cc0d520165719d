/- HmacTags: the walk of the law. -/
import Derived.Test.YtiemafgnpmoblaaRefHsum
import Derived.Test.YtiemafgnpmoblaaLawShaEats
namespace Go.Proofs.Ytiemafgnpmoblaa
open Go Go.RowKit Go.Cit

/-- What is said of each slot of the law's two great statements. -/
def htT (D : Array Value) (vk vb_ vs vk2 vb2 : Value) (s : List UInt8) : Nat → Ty
  | 27 => .val (.agg D)
  | 28 => .val vk
  | 29 => .val vb_
  | 30 => .val (.agg D)
  | 31 => .val (.bool false)
  | 32 => .val (.bool false)
  | 33 => .val vs
  | 34 => .val vk
  | 35 => .row s
  | 36 => .val (.bool true)
  | 37 => .val (.bool false)
  | 38 => .val (.bool false)
  | 51 => .val vk2
  | 52 => .val vk
  | 55 => .val vb2
  | 56 => .val vb_
  | 60 => .val vk2
  | 61 => .val vb2
  | 62 => .val (.agg D)
  | 63 => .val (.agg D)
  | _ => .val (.bool true)
theorem ht_same {B : Nat} {wx : World} {o : Oper} {ρ : Operand → Value} {x y : Tmp} {a1 : Option Addr} {n1 c1 : Nat} {l : List UInt8} (hB : B ≤ wx.heap.size) (h : o.op = .call { callee := .value (.func 14), args := #[.tmp x, .tmp y], argTypes := #[25, 25] })
    (hf : ρ (.func 14) = .func (.func 14) #[] #[]) (h1 : (Ty.val (.slice a1 n1 c1)).ok (ρ (.tmp x)) wx) (hn : n1 = l.length) (h2 : (Ty.row l).ok (ρ (.tmp y)) wx) (r1 : Row wx a1 l c1) {T : Ty} (hT : T = .val (.bool true)) : Gives Try.prog B wx T ((execOp ρ o).run Try.prog wx) := by
  obtain ⟨a, c, hv, hr⟩ := h2
  subst hT hn
  refine g_call hB h hf #[.slice a1 l.length c1, .slice a l.length c] (fun w => by kernel_rfl) (by simp [show ρ (.tmp x) = _ from h1, hv]) ((same_calls wx a1 a l l c1 c r1 hr).mono fun e w3 ⟨he, hd⟩ => ⟨_, he, hd.below _, ?_⟩)
  show Value.bool _ = Value.bool _
  rw [ordB_self]
theorem ht_short {B : Nat} {wx : World} {o : Oper} {ρ : Operand → Value} {x : Tmp} {a1 : Option Addr} {n1 c1 : Nat} {k : List UInt8} (hB : B ≤ wx.heap.size) (h : o.op = .call { callee := .value (.func 37), args := #[.tmp x], argTypes := #[25] })
    (hf : ρ (.func 37) = .func (.func 37) #[] #[]) (h1 : (Ty.val (.slice a1 n1 c1)).ok (ρ (.tmp x)) wx) (hn : n1 = k.length) (r1 : Row wx a1 k c1) (hl : k.length ≤ 1000000) {T : Ty} (hT : T = .row (shortK k)) : Gives Try.prog B wx T ((execOp ρ o).run Try.prog wx) := by
  subst hT hn
  exact g_call hB h hf #[.slice a1 k.length c1] (fun w => by kernel_rfl) (by simp [show ρ (.tmp x) = _ from h1]) ((refshort_calls wx a1 k c1 r1 hl).mono fun e w3 ⟨a', c', he, ho, hd⟩ => ⟨_, he, hd, _, _, rfl, ho.isRow⟩)
theorem row_blk_lt {w : World} {a : Option Addr} {l : List UInt8} {c : Nat} (h : Row w a l c) (hne : l ≠ []) (g : Nat) (hg : Go.Cit.blk a = some g) : g < w.heap.size := by
  obtain ⟨g', off, rfl⟩ := h.spot hne
  have h1 := h.blk (i := 0) (List.length_pos_iff.2 hne)
  simp [Go.Cit.blk] at hg
  simp [ad] at h1
  omega

theorem tags_far (w : World) (a0 : Option Addr) (k : List UInt8) (c0 : Nat) (a1 : Option Addr) (b : List UInt8) (c1 : Nat) (hk : k.length ≤ 9223372036854775807) (hb : b.length ≤ 9223372036854775807) (h : 600 < k.length ∨ 600 < b.length) :
    Calls Try.prog 8 #[.slice a0 k.length c0, .slice a1 b.length c1] w fun e w' => e = .returned (.bool true) ∧ Below w.heap.size w w' := by
  by_cases h1 : 600 < k.length
  · have d1 : decide ((600 : Int) < (k.length : Int)) = true := by simp; omega
    have d1' : decide (600 < k.length) = true := by simpa using h1
    go_enter Try.func8, Try.ntmps8
    go_wp2_with fail
    go_ret
    exact ⟨rfl, Below.refl _ _⟩
  · have h2 : 600 < b.length := by omega
    have d1 : decide ((600 : Int) < (k.length : Int)) = false := by simp; omega
    have d1' : decide (600 < k.length) = false := by simpa using h1
    have d2 : decide ((600 : Int) < (b.length : Int)) = true := by simp; omega
    have d2' : decide (600 < b.length) = true := by simpa using h2
    go_enter Try.func8, Try.ntmps8
    go_wp2_with fail
    go_ret
    exact ⟨rfl, Below.refl _ _⟩

set_option maxRecDepth 100000 in
set_option maxHeartbeats 4000000 in
theorem tags_near (w : World) (a0 : Option Addr) (k : List UInt8) (c0 : Nat) (a1 : Option Addr) (b : List UInt8) (c1 : Nat) (h0 : Row w a0 k c0) (h1 : Row w a1 b c1) (hk6 : k.length ≤ 600) (hb6 : b.length ≤ 600) :
    Calls Try.prog 8 #[.slice a0 k.length c0, .slice a1 b.length c1] w fun e w' => e = .returned (.bool true) ∧ Below w.heap.size w w' := by
  have d1 : decide ((600 : Int) < (k.length : Int)) = false := by simp; omega
  have d1' : decide (600 < k.length) = false := by simp; omega
  have d2 : decide ((600 : Int) < (b.length : Int)) = false := by simp; omega
  have d2' : decide (600 < b.length) = false := by simp; omega
  have HA := Lib.hid (fun ρ d ty ps af w => alloc_tag ρ d ty ps (af := af) w)
  obtain ⟨X, hX⟩ : ∃ Y, Hid (Y = ((List.replicate 32 (0 : UInt8)).map vb).toArray) := ⟨_, rfl⟩
  rw [← hX.out] at HA
  have HX : Hid (X.size = 32) := by rw [Hid, hX.out]; simp
  have HH0 := Lib.hid h0
  have HH1 := Lib.hid h1
  have HC0 := Lib.hid (copy_calls w a0 k c0 h0 (by omega))
  clear h0 h1
  go_enter Try.func8, Try.ntmps8
  go_wp2_with fail
  refine HC0.out.mono ?_
  rintro e w1 ⟨a5, c5, rfl, hO5, hb1⟩
  have HM5 := Lib.hid hO5.isRow
  have HB1 := Lib.hid hb1
  have HC1 := Lib.hid (copy_calls w1 a1 b c1 (HH1.out.stay hb1) (by omega))
  clear hO5 hb1 HC0
  go_wp2_with fail
  refine HC1.out.mono ?_
  rintro e w2 ⟨a6, c6, rfl, hO6, hb2⟩
  have B2 := HB1.out.trans (hb2.mono HB1.out.size)
  have HM6 := Lib.hid hO6.isRow
  have HM52 := Lib.hid (HM5.out.stay hb2)
  have HS2 := Lib.hid (short_calls w2 a5 k c5 HM52.out (by omega))
  clear hO6 hb2 HC1 HM5
  go_wp2_with fail
  refine HS2.out.mono ?_
  rintro e w3 ⟨a7, c7, rfl, hO7, hb3⟩
  have B3 := B2.trans (hb3.mono B2.size)
  have HN7 : Hid (∀ g, Go.Cit.blk a7 = some g → w2.heap.size ≤ g) := fun g hg => (hO7.blk_ge hg).1
  have HO7 := Lib.hid (hO7.low B2.size)
  have HR5 := Lib.hid (HM52.out.stay hb3)
  have HR6 := Lib.hid (HM6.out.stay hb3)
  have HL5 : Hid (k ≠ [] → ∀ g, Go.Cit.blk a5 = some g → g < w2.heap.size) := fun hne => row_blk_lt HM52.out hne
  have HL6 : Hid (b ≠ [] → ∀ g, Go.Cit.blk a6 = some g → g < w2.heap.size) := fun hne => row_blk_lt HM6.out hne
  have HL0 : Hid (k ≠ [] → ∀ g, Go.Cit.blk a0 = some g → g < w2.heap.size) := fun hne => row_blk_lt (HH0.out.stay B2) hne
  have HL1 : Hid (b ≠ [] → ∀ g, Go.Cit.blk a1 = some g → g < w2.heap.size) := fun hne => row_blk_lt (HH1.out.stay B2) hne
  have HQ := Lib.hid (hsum_calls w3 a5 k c5 HR5.out (by omega) a6 b c6 HR6.out (by omega))
  have hz23 : w2.heap.size ≤ w3.heap.size := hb3.size
  clear hO7 hb3 HS2 HM52 HM6
  go_wp2_with fail
  refine HQ.out.mono ?_
  rintro e w4 ⟨rfl, hb4⟩
  have B4 := B3.trans (hb4.mono B3.size)
  have HO74 := Lib.hid (HO7.out.save (Save.of (S := fun _ => True) hb4) (fun _ _ => trivial))
  have HR54 := Lib.hid (HR5.out.stay hb4)
  have HR64 := Lib.hid (HR6.out.stay hb4)
  have hz34 := hb4.size
  obtain ⟨D, hD⟩ : ∃ D, Hid (D = ((hmacB k b).map vb).toArray) := ⟨_, rfl⟩
  rw [← hD.out]
  have HD : Hid (D.size = 32) := by rw [Hid, hD.out]; simpa using hmacB_len k b
  have HDo : Hid (D.all (·.oneCell') = true) := by rw [Hid, hD.out]; exact arrB_ok _
  have HEQD : Hid (∀ w, (Op.equalIn 10000 36 (.agg D) (.agg D)).run Try.prog w = .ok true w) := by
    intro w; rw [hD.out, run_eq_bytes tagT _ _ (hmacB_len _ _) (hmacB_len _ _)]; simp
  have HN4 : Hid ((w4.alloc (.cells X 36)).heap[w4.heap.size]? = some (.cells X 36 (0, 0))) := heap_alloc_new _ _
  clear hb4 HQ HO7 HR5 HR6
  go_wp2_with (first
    | ((with_reducible refine wpList_value (o := ⟨some 8, .alloc _, _, _, _, _⟩) (by with_unfolding_all rfl) (HA.out _ _ _ _ _ _) ?_))
    | ((with_reducible refine wpList_storeB (o := ⟨none, .store _ (.tmp 8) (.tmp 26), _, _, _, _⟩) row_tag (.tmp 8) (.tmp 26) (by with_unfolding_all rfl) (by with_unfolding_all rfl) (by with_unfolding_all rfl) (by with_unfolding_all rfl) (by with_unfolding_all rfl) HN4.out HX.out HD.out HDo.out ?_); intro w5 hb5 hS5; have HB5 := Lib.hid hb5; have HS5 := Lib.hid hS5; clear hb5 hS5))
  have hs5 := HS5.out.size
  rw [World.size_alloc] at hs5
  have hA5 : Below w4.heap.size w4 w5 := ((Below.refl _ w4).alloc (Nat.le_refl _) (.cells X 36)).trans (HS5.out.below (by simp) (fun j hj => by omega))
  have B5 := B4.trans (hA5.mono B4.size)
  have HR7 := Lib.hid (HO74.out.save (Save.of (S := fun _ => True) hA5) (fun _ _ => trivial))
  have HR55 := Lib.hid (HR54.out.stay hA5)
  have HR65 := Lib.hid (HR64.out.stay hA5)
  have HR0 := Lib.hid (HH0.out.stay B5)
  have HR1 := Lib.hid (HH1.out.stay B5)
  obtain ⟨t8, ht8⟩ : ∃ t, t = w4.heap.size := ⟨_, rfl⟩
  have HT : Hid (w5.heap[t8]? = some (.cells D 36 (0, 0))) := by rw [Hid, ht8]; exact HB5.out
  rw [← ht8]
  have ht7 : Hid (∀ g, Go.Cit.blk a7 = some g → g ≠ t8) := fun g hg => by have := (HO74.out.blk_ge hg).2; omega
  clear HA HB5 HS5 hA5 HDo hs5 B4 B3 HN4 HO74 HR54 HR64 HB1 HH0 HH1
  refine wp_region_ty (htT D (.slice a0 k.length c0) (.slice a1 b.length c1) (.slice a7 (shortK k).length c7) (.slice a5 k.length c5) (.slice a6 b.length c6) (shortK k)) (by kernel_rfl) (by kernel_rfl) ?_ ?_
  · refine opsAll_cons ?_ (opsAll_cons ?_ (opsAll_cons ?_ (opsAll_cons ?_ (opsAll_cons ?_ (opsAll_cons ?_ (opsAll_cons ?_ (opsAll_cons ?_ (opsAll_cons ?_ (opsAll_cons ?_ (opsAll_cons ?_ (opsAll_cons ?_ opsAll_nil)))))))))))
    all_goals intro a wx hk
    · -- slot 27
      exact ⟨wanted_free rfl, g_loadB row_tag (.tmp 8) rfl (hk.old 8 (by kernel_rfl)) ((hk.below.block _ (Array.getElem?_eq_some_iff.1 HT.out).1).trans HT.out) HD.out rfl⟩
    · -- slot 28
      exact ⟨wanted_free rfl, g_move (.tmp 0) rfl (hk.old 0 (by kernel_rfl))⟩
    · -- slot 29
      exact ⟨wanted_free rfl, g_move (.tmp 1) rfl (hk.old 1 (by kernel_rfl))⟩
    · -- slot 30
      exact ⟨wanted_free rfl, g_call hk.below.size rfl (hk.fn _) #[.slice a0 k.length c0, .slice a1 b.length c1] (fun w => by kernel_rfl) (by simp [show a.eval (.tmp 28) = _ from hk.slot 28 (by kernel_rfl), show a.eval (.tmp 29) = _ from hk.slot 29 (by kernel_rfl)]) ((refhsum_calls wx a0 k c0 (HR0.out.stay hk.below) (by omega) a1 b c1 (HR1.out.stay hk.below) (by omega)).mono fun e w3 ⟨he, hd⟩ => ⟨_, he, hd, by rw [hD.out]; rfl⟩)⟩
    · -- slot 31
      exact ⟨wanted_free rfl, g_bin rfl (hk.slot 27 (by kernel_rfl)) (hk.slot 30 (by kernel_rfl)) (run_neq_op tagT.guard _ _ HEQD.out) rfl⟩
    · -- slot 32
      exact ⟨wanted_free rfl, g_move (.tmp 31) rfl (hk.slot 31 (by kernel_rfl))⟩
    · -- slot 33
      exact ⟨wanted_by 32 false (by kernel_rfl) (hk.slot 32 (by kernel_rfl)), g_move (.tmp 7) rfl (hk.old 7 (by kernel_rfl))⟩
    · -- slot 34
      exact ⟨wanted_by 32 false (by kernel_rfl) (hk.slot 32 (by kernel_rfl)), g_move (.tmp 0) rfl (hk.old 0 (by kernel_rfl))⟩
    · -- slot 35
      exact ⟨wanted_by 32 false (by kernel_rfl) (hk.slot 32 (by kernel_rfl)), ht_short hk.below.size rfl (hk.fn _) (hk.slot 34 (by kernel_rfl)) rfl (HR0.out.stay hk.below) (by omega) rfl⟩
    · -- slot 36
      exact ⟨wanted_by 32 false (by kernel_rfl) (hk.slot 32 (by kernel_rfl)), ht_same hk.below.size rfl (hk.fn _) (hk.slot 33 (by kernel_rfl)) rfl (hk.slot 35 (by kernel_rfl)) (HR7.out.isRow.stay hk.below) rfl⟩
    · -- slot 37
      exact ⟨wanted_by 32 false (by kernel_rfl) (hk.slot 32 (by kernel_rfl)), g_not rfl _ (hk.slot 36 (by kernel_rfl)) rfl⟩
    · -- slot 38
      exact ⟨wanted_free rfl, g_pick rfl false (hk.slot 32 (by kernel_rfl)) (hk.slot 37 (by kernel_rfl))⟩
  intro a wz hbz hsame hall
  have he := act_same hsame [27, 28, 29, 30, 31, 32, 33, 34, 35, 36, 37, 38] (by kernel_rfl)
  obtain ⟨a35, c35, e35, r35⟩ := hall 35 (by kernel_rfl)
  simp only [List.foldl_cons, List.foldl_nil] at he
  rw [show a.eval (.tmp 27) = _ from hall 27 (by kernel_rfl), show a.eval (.tmp 28) = _ from hall 28 (by kernel_rfl), show a.eval (.tmp 29) = _ from hall 29 (by kernel_rfl), show a.eval (.tmp 30) = _ from hall 30 (by kernel_rfl), show a.eval (.tmp 31) = _ from hall 31 (by kernel_rfl), show a.eval (.tmp 32) = _ from hall 32 (by kernel_rfl), show a.eval (.tmp 33) = _ from hall 33 (by kernel_rfl), show a.eval (.tmp 34) = _ from hall 34 (by kernel_rfl), e35, show a.eval (.tmp 36) = _ from hall 36 (by kernel_rfl), show a.eval (.tmp 37) = _ from hall 37 (by kernel_rfl), show a.eval (.tmp 38) = _ from hall 38 (by kernel_rfl)] at he
  simp only [Act.put, List.setIfInBounds_toArray, List.set_cons_zero, List.set_cons_succ] at he
  subst he
  clear hsame hall e35
  have B6 := B5.trans (hbz.mono B5.size)
  have HR76 := Lib.hid (HR7.out.save (Save.of (S := fun _ => True) hbz) (fun _ _ => trivial))
  have HR56 := Lib.hid (HR55.out.stay hbz)
  have HR66 := Lib.hid (HR65.out.stay hbz)
  have HR06 := Lib.hid (HR0.out.stay hbz)
  have HR16 := Lib.hid (HR1.out.stay hbz)
  have HT6 : Hid (wz.heap[t8]? = some (.cells D 36 (0, 0))) := (hbz.block _ (Array.getElem?_eq_some_iff.1 HT.out).1).trans HT.out
  have hz6 := hbz.size
  clear hbz r35 B5 HR7 HR55 HR65 HR0 HR1 HT
  obtain ⟨s0, hs0⟩ : ∃ s, s = shortK k := ⟨_, rfl⟩
  have hs9 : s0.length ≤ 64 := by rw [hs0]; exact shortK_len k
  rw [← hs0] at HR76 ⊢
  clear hs0
  go_wp2_with fail
  go_loopw [9] (fun i wr => ∃ (j : Nat) (m : List UInt8), j ≤ s0.length ∧ i = .int .i64 j ∧ Hid (m.length = s0.length) ∧ Cit.Own 5 w.heap.size wr a7 m c7 ∧ Save (fun g => some g ≠ Go.Cit.blk a7) wz wr) (fun i _ => s0.length - (intOf i).toNat)
  case atStart => exact ⟨0, s0, Nat.zero_le _, rfl, rfl, HR76.out, Save.refl _ _⟩
  case round =>
    obtain ⟨j, m, hj, rfl, HML, hO, hsv⟩ := hrel
    by_cases hlt : j < s0.length
    · have e1 : decide (j < s0.length) = true := by simpa using hlt
      have hjm : j < m.length := by rw [HML.out]; exact hlt
      have hr := hO.isRow
      have ij := hr.index bt.slice bt.sz j hjm
      have ej := hr.cell j hjm
      have fj := hO.frozen j hjm
      rw [HML.out] at ij
      obtain ⟨hst, hgr⟩ := Cit.Own.stored hO j hjm (bAdd m[j] (bI 1))
      have HST := Lib.hid hst
      have HSV := Lib.hid (hsv.trans (Save.grown hgr))
      obtain ⟨y, hy⟩ : ∃ y, m[j] = y := ⟨_, rfl⟩
      rw [hy] at ej HST HSV
      clear hst hgr hy hr hjm hO hsv
      go_wp2_with fail
      go_roundw
      case rel => exact ⟨j + 1, _, by omega, by go_num, by rw [Hid, List.length_set]; exact HML.out, HST.out, HSV.out⟩
      case measure => simp [intOf]; omega
    · have e1 : decide (j < s0.length) = false := by simpa using hlt
      have q5 := HR56.out.save' hsv (fun hne g hg he => by have h1 := HL5.out hne g hg; have h2 := HN7.out g he.symm; omega)
      have q6 := HR66.out.save' hsv (fun hne g hg he => by have h1 := HL6.out hne g hg; have h2 := HN7.out g he.symm; omega)
      have q0 := HR06.out.save' hsv (fun hne g hg he => by have h1 := HL0.out hne g hg; have h2 := HN7.out g he.symm; omega)
      have q1 := HR16.out.save' hsv (fun hne g hg he => by have h1 := HL1.out hne g hg; have h2 := HN7.out g he.symm; omega)
      have qt := (hsv.block t8 (Array.getElem?_eq_some_iff.1 HT6.out).1 (fun he => ht7.out t8 he.symm rfl)).trans HT6.out
      have hbs : Below w.heap.size w wr := B6.trans (hsv.below B6.size (fun g hg he => by have := HN7.out g he.symm; have := B2.size; omega))
      clear hsv hO
      go_wp2_with fail
      refine wp_region_ty (htT D (.slice a0 k.length c0) (.slice a1 b.length c1) (.slice a7 s0.length c7) (.slice a5 k.length c5) (.slice a6 b.length c6) s0) (by kernel_rfl) (by kernel_rfl) ?_ ?_
      · refine opsAll_cons ?_ (opsAll_cons ?_ (opsAll_cons ?_ (opsAll_cons ?_ (opsAll_cons ?_ (opsAll_cons ?_ (opsAll_cons ?_ (opsAll_cons ?_ (opsAll_cons ?_ (opsAll_cons ?_ (opsAll_cons ?_ (opsAll_cons ?_ (opsAll_cons ?_ (opsAll_cons ?_ (opsAll_cons ?_ (opsAll_cons ?_ opsAll_nil)))))))))))))))
        all_goals intro a wx hk
        · -- slot 51
          exact ⟨wanted_free rfl, g_move (.tmp 5) rfl (hk.old 5 (by kernel_rfl))⟩
        · -- slot 52
          exact ⟨wanted_free rfl, g_move (.tmp 0) rfl (hk.old 0 (by kernel_rfl))⟩
        · -- slot 53
          exact ⟨wanted_free rfl, g_call hk.below.size rfl (hk.fn _) #[.slice a5 k.length c5, .slice a0 k.length c0] (fun w => by kernel_rfl) (by simp [show a.eval (.tmp 51) = _ from hk.slot 51 (by kernel_rfl), show a.eval (.tmp 52) = _ from hk.slot 52 (by kernel_rfl)]) ((same_calls wx a5 a0 k k c5 c0 (q5.stay hk.below) (q0.stay hk.below)).mono fun e w3 ⟨he, hd⟩ => ⟨_, he, hd.below _, by show Value.bool _ = Value.bool _; rw [ordB_self]⟩)⟩
        · -- slot 54
          exact ⟨wanted_free rfl, g_move (.tmp 53) rfl (hk.slot 53 (by kernel_rfl))⟩
        · -- slot 55
          exact ⟨wanted_by 54 true (by kernel_rfl) (hk.slot 54 (by kernel_rfl)), g_move (.tmp 6) rfl (hk.old 6 (by kernel_rfl))⟩
        · -- slot 56
          exact ⟨wanted_by 54 true (by kernel_rfl) (hk.slot 54 (by kernel_rfl)), g_move (.tmp 1) rfl (hk.old 1 (by kernel_rfl))⟩
        · -- slot 57
          exact ⟨wanted_by 54 true (by kernel_rfl) (hk.slot 54 (by kernel_rfl)), g_call hk.below.size rfl (hk.fn _) #[.slice a6 b.length c6, .slice a1 b.length c1] (fun w => by kernel_rfl) (by simp [show a.eval (.tmp 55) = _ from hk.slot 55 (by kernel_rfl), show a.eval (.tmp 56) = _ from hk.slot 56 (by kernel_rfl)]) ((same_calls wx a6 a1 b b c6 c1 (q6.stay hk.below) (q1.stay hk.below)).mono fun e w3 ⟨he, hd⟩ => ⟨_, he, hd.below _, by show Value.bool _ = Value.bool _; rw [ordB_self]⟩)⟩
        · -- slot 58
          exact ⟨wanted_free rfl, g_pick rfl true (hk.slot 54 (by kernel_rfl)) (hk.slot 57 (by kernel_rfl))⟩
        · -- slot 59
          exact ⟨wanted_free rfl, g_move (.tmp 58) rfl (hk.slot 58 (by kernel_rfl))⟩
        · -- slot 60
          exact ⟨wanted_by 59 true (by kernel_rfl) (hk.slot 59 (by kernel_rfl)), g_move (.tmp 5) rfl (hk.old 5 (by kernel_rfl))⟩
        · -- slot 61
          exact ⟨wanted_by 59 true (by kernel_rfl) (hk.slot 59 (by kernel_rfl)), g_move (.tmp 6) rfl (hk.old 6 (by kernel_rfl))⟩
        · -- slot 62
          exact ⟨wanted_by 59 true (by kernel_rfl) (hk.slot 59 (by kernel_rfl)), g_call hk.below.size rfl (hk.fn _) #[.slice a5 k.length c5, .slice a6 b.length c6] (fun w => by kernel_rfl) (by simp [show a.eval (.tmp 60) = _ from hk.slot 60 (by kernel_rfl), show a.eval (.tmp 61) = _ from hk.slot 61 (by kernel_rfl)]) ((hsum_calls wx a5 k c5 (q5.stay hk.below) (by omega) a6 b c6 (q6.stay hk.below) (by omega)).mono fun e w3 ⟨he, hd⟩ => ⟨_, he, hd, by rw [hD.out]; rfl⟩)⟩
        · -- slot 63
          exact ⟨wanted_by 59 true (by kernel_rfl) (hk.slot 59 (by kernel_rfl)), g_loadB row_tag (.tmp 8) rfl (hk.old 8 (by kernel_rfl)) ((hk.below.block _ (Array.getElem?_eq_some_iff.1 qt).1).trans qt) HD.out rfl⟩
        · -- slot 64
          exact ⟨wanted_by 59 true (by kernel_rfl) (hk.slot 59 (by kernel_rfl)), g_bin rfl (hk.slot 62 (by kernel_rfl)) (hk.slot 63 (by kernel_rfl)) (run_eql_op tagT.guard _ _ HEQD.out) rfl⟩
        · -- slot 65
          exact ⟨wanted_free rfl, g_pick rfl true (hk.slot 59 (by kernel_rfl)) (hk.slot 64 (by kernel_rfl))⟩
        · -- slot 4
          exact ⟨wanted_free rfl, g_assign (.tmp 65) rfl (hk.slot 65 (by kernel_rfl))⟩
      intro a wz hbz hsame hall
      have h0 := hall 4 (by kernel_rfl)
      have hd := hsame.1
      rename_i hK
      refine hK a wz ?_
      apply wp_ret
      refine bodyPost_ret (results_tmp rfl _ _ _) hd ⟨congrArg Ending.returned h0, ?_⟩
      exact hbs.trans (hbz.mono hbs.size)

theorem hmacTags_law (w : World) (a0 : Option Addr) (k : List UInt8) (c0 : Nat) (a1 : Option Addr) (b : List UInt8) (c1 : Nat) (h0 : Row w a0 k c0) (h1 : Row w a1 b c1) :
    Calls Try.prog 8 #[.slice a0 k.length c0, .slice a1 b.length c1] w fun e w' => e = .returned (.bool true) ∧ Below w.heap.size w w' := by
  by_cases h : 600 < k.length ∨ 600 < b.length
  · exact tags_far w a0 k c0 a1 b c1 h0.len_le h1.len_le h
  · exact tags_near w a0 k c0 a1 b c1 h0 h1 (by omega) (by omega)
end Go.Proofs.Ytiemafgnpmoblaa
