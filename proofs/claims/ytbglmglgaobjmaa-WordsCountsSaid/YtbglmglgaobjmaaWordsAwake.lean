/- The chapter's examples of words: walked. -/
import Derived.Test.YtbglmglgaobjmaaCut
import Derived.Test.YtbglmglgaobjmaaRepeat
import Derived.Test.YtbglmglgaobjmaaSame
import Derived.Test.YtbglmglgaobjmaaWordsLoad
import Derived.Test.YtbglmglgaobjmaaTy
import Derived.Test.YtbglmglgaobjmaaWordsOrd
namespace Go.Proofs.Ytbglmglgaobjmaa
open Go Go.RowKit Go.Cit

theorem g_same {B : Nat} {wx : World} {o : Oper} {ρ : Operand → Value} (x y : Operand) (hB : B ≤ wx.heap.size) (h : o.op = .call { callee := .value (.func 35), args := #[x, y], argTypes := #[23, 23] })
    (hf : ρ (.func 35) = .func (.func 35) #[] #[]) {T : Ty} {l m : List UInt8} {b : Bool} (hb : (ordB l m == 0) = b) (hT : T = .val (.bool b)) (hs : (Ty.row l).ok (ρ x) wx) (hs2 : (Ty.row m).ok (ρ y) wx) : Gives Try.prog B wx T ((execOp ρ o).run Try.prog wx) := by
  obtain ⟨a, cp, hv, hr⟩ := hs
  obtain ⟨a2, cp2, hv2, hr2⟩ := hs2
  subst hT hb
  refine g_call hB h hf #[.slice a l.length cp, .slice a2 m.length cp2] (fun w => by kernel_rfl) (by simp [hv, hv2]) ((wsame_calls wx a a2 l m cp cp2 hr hr2).mono ?_)
  rintro e w3 ⟨he, rfl⟩
  exact ⟨_, he, Below.refl _ _, rfl⟩

theorem waw_pad (w : World) (a : Option Addr) (c : Nat) (h : Row w a [7] c) : Calls Try.prog 61 #[.slice a 1 c, .int .i64 3] w fun e w' => ∃ a c, e = .returned (.slice a 3 c) ∧ Row w' a [7, 0, 0] c ∧ Below w.heap.size w w' := by
  refine (padded_calls w a [7] c 3 h (by decide) (by decide)).mono ?_
  rintro e w' ⟨a', cp, rfl, hm, hb⟩
  have e1 : padL [7] 3 = [7, 0, 0] := by decide
  rw [e1] at hm
  exact ⟨a', cp, by rw [e1]; rfl, hm.row, hb⟩

def wawT (a : Option Addr) (c : Nat) : Nat → Ty
  | 31 => .val (.int .u64 256)
  | 34 => .val (.bool true)
  | 41 => .val (.int .u32 256)
  | 45 => .val (.bool true)
  | 52 => .val (.slice a 3 c)
  | 57 => .val (.slice a 3 c)
  | 65 => .val (.slice a 3 c)
  | 68 => .val (.slice a 3 c)
  | 53 => .val (.int .i64 3)
  | 58 => .val (.pointer (some (ad a 2)))
  | 66 => .val (.pointer (some (ad a 0)))
  | 69 => .val (.pointer (some (ad a 1)))
  | 59 => .row [5]
  | 60 => .row [5]
  | 61 => .val (.bool true)
  | 67 => .row [1, 2]
  | 70 => .row [3, 4]
  | _ => .val (.bool false)

theorem waw_num (w : World) (a : Option Addr) (c : Nat) (h : Row w a [1, 0] c) : Calls Try.prog 26 #[.slice a 2 c] w fun e w' => e = .returned (.tuple #[.int .u64 256, .bool true]) ∧ w' = w := by
  have := number_calls w a [1, 0] c h
  have e1 : vq (numV [1, 0]) = .int .u64 256 := by kernel_rfl
  have e2 : numOk [1, 0] = true := by decide
  rw [e1, e2] at this
  exact this
theorem waw_num0 (w : World) : Calls Try.prog 26 #[.slice none 0 0] w fun e w' => e = .returned (.tuple #[.int .u64 0, .bool false]) ∧ w' = w := by
  have := number_calls w none [] 0 (Row.nil_ w)
  have e1 : vq (numV []) = .int .u64 0 := by kernel_rfl
  have e2 : numOk [] = false := by decide
  rw [e1, e2] at this
  exact this
theorem waw_load1 (w : World) (a : Option Addr) (c : Nat) (h : Row w a [9, 0, 0, 1, 0] c) : Calls Try.prog 28 #[.slice a 5 c, .int .i64 1] w fun e w' => e = .returned (.tuple #[.int .u32 256, .bool true]) ∧ w' = w := by
  have := load32_calls w a [9, 0, 0, 1, 0] c 1 h
  have e1 : vw (wOfQ (loadB [9, 0, 0, 1, 0] 1 4).1) = .int .u32 256 := by kernel_rfl
  have e2 : (loadB [9, 0, 0, 1, 0] 1 4).2 = true := by kernel_rfl
  rw [e1, e2] at this
  exact this
theorem waw_load2 (w : World) (a : Option Addr) (c : Nat) (h : Row w a [9, 0, 0, 1, 0] c) : Calls Try.prog 28 #[.slice a 5 c, .int .i64 2] w fun e w' => e = .returned (.tuple #[.int .u32 0, .bool false]) ∧ w' = w := by
  have := load32_calls w a [9, 0, 0, 1, 0] c 2 h
  have e1 : vw (wOfQ (loadB [9, 0, 0, 1, 0] 2 4).1) = .int .u32 0 := by kernel_rfl
  have e2 : (loadB [9, 0, 0, 1, 0] 2 4).2 = false := by kernel_rfl
  rw [e1, e2] at this
  exact this
theorem waw_cut (w : World) (a : Option Addr) (c : Nat) (h : Row w a [1, 2, 3, 4, 5] c) : Calls Try.prog 60 #[.slice a 5 c, .int .i64 2] w fun e w' => ∃ a' a0 a1 a2 c0 c1 c2 cp, e = .returned (.slice a' 3 cp) ∧ Rows w' a' [⟨a0, c0, [1, 2]⟩, ⟨a1, c1, [3, 4]⟩, ⟨a2, c2, [5]⟩] cp ∧ Below w.heap.size w w' := by
  refine (cut_calls w a [1, 2, 3, 4, 5] c 2 h (by decide) (by decide) (by decide)).mono ?_
  rintro e w' ⟨a', ds, cp, rfl, hds, hr, hb⟩
  have e1 : cutL 2 [1, 2, 3, 4, 5] = [[1, 2], [3, 4], [5]] := by decide
  rw [e1] at hds
  obtain ⟨d0, r0, rfl, h0, hds⟩ := List.map_eq_cons_iff.1 hds
  obtain ⟨d1, r1, rfl, h1, hds⟩ := List.map_eq_cons_iff.1 hds
  obtain ⟨d2, r2, rfl, h2, hds⟩ := List.map_eq_cons_iff.1 hds
  obtain rfl := List.map_eq_nil_iff.1 hds
  obtain ⟨a0, c0, l0⟩ := d0
  obtain ⟨a1, c1, l1⟩ := d1
  obtain ⟨a2, c2, l2⟩ := d2
  subst h0 h1 h2
  exact ⟨a', a0, a1, a2, c0, c1, c2, cp, rfl, hr, hb⟩
theorem waw_row (w : World) (x : UInt64) (n : Nat) (h1 : 1 ≤ n) (h8 : n ≤ 8) (l : List UInt8) (hl : rowB x n = l) : Calls Try.prog 24 #[vq x, .int .i64 n] w fun e w' => ∃ a c, e = .returned (.slice a l.length c) ∧ Row w' a l c ∧ Below w.heap.size w w' := by
  refine (row_calls w x n h1 h8).mono ?_
  rintro e w' ⟨a, c, rfl, ho, hb⟩
  subst hl
  exact ⟨a, c, by rw [rowB_length], ho.isRow, hb⟩
theorem waw_same (w : World) (a b : Option Addr) (l m : List UInt8) (c d : Nat) (h : Row w a l c) (k : Row w b m d) (r : Bool) (hr : (ordB l m == 0) = r) : Calls Try.prog 35 #[.slice a l.length c, .slice b m.length d] w fun e w' => e = .returned (.bool r) ∧ w' = w := by
  subst hr; exact wsame_calls w a b l m c d h k
theorem waw_ahead (w : World) (a b : Option Addr) (l m : List UInt8) (c d : Nat) (h : Row w a l c) (k : Row w b m d) (r : Bool) (hr : decide (ordB l m < 0) = r) : Calls Try.prog 36 #[.slice a l.length c, .slice b m.length d] w fun e w' => e = .returned (.bool r) ∧ w' = w := by
  subst hr; exact wahead_calls w a b l m c d h k

set_option maxRecDepth 100000 in
set_option maxHeartbeats 4000000 in
theorem wordsAwake_calls (w : World) :
    Calls Try.prog 51 #[] w fun e w' => e = .returned (.bool true) ∧ Below w.heap.size w w' := by
  go_enter Try.func51, Try.ntmps51
  go_wp2_with fail
  have r1 : Row (w.alloc (.cells #[.int .u8 1, .int .u8 0] 5)) (some ⟨w.heap.size, 0, none⟩) [1, 0] 2 := row_new w _ _ _ [1, 0] rfl (by decide)
  refine (waw_num _ _ _ r1).mono ?_
  rintro e w1 ⟨rfl, rfl⟩
  go_wp2_with fail
  refine (waw_num0 _).mono ?_
  rintro e w1 ⟨rfl, rfl⟩
  have B1 : Below w.heap.size w (w.alloc (.cells #[.int .u8 1, .int .u8 0] 5)) := (Below.refl _ _).alloc (Nat.le_refl _) _
  clear r1
  generalize (w.alloc (.cells #[.int .u8 1, .int .u8 0] 5)) = w1 at B1 ⊢
  go_wp2_with fail
  have rw2 : Row (w1.alloc (.cells #[.int .u8 9, .int .u8 0, .int .u8 0, .int .u8 1, .int .u8 0] 5)) (some ⟨w1.heap.size, 0, none⟩) [9, 0, 0, 1, 0] 5 := row_new w1 _ _ _ [9, 0, 0, 1, 0] rfl (by decide)
  refine (waw_load1 _ _ _ rw2).mono ?_
  rintro e w2 ⟨rfl, rfl⟩
  have B2 : Below w.heap.size w (w1.alloc (.cells #[.int .u8 9, .int .u8 0, .int .u8 0, .int .u8 1, .int .u8 0] 5)) := B1.alloc B1.size _
  clear rw2
  generalize (w1.alloc (.cells #[.int .u8 9, .int .u8 0, .int .u8 0, .int .u8 1, .int .u8 0] 5)) = w2 at B2 ⊢
  go_wp2_with fail
  have rw3 : Row (w2.alloc (.cells #[.int .u8 9, .int .u8 0, .int .u8 0, .int .u8 1, .int .u8 0] 5)) (some ⟨w2.heap.size, 0, none⟩) [9, 0, 0, 1, 0] 5 := row_new w2 _ _ _ [9, 0, 0, 1, 0] rfl (by decide)
  refine (waw_load2 _ _ _ rw3).mono ?_
  rintro e w3 ⟨rfl, rfl⟩
  have B3 : Below w.heap.size w (w2.alloc (.cells #[.int .u8 9, .int .u8 0, .int .u8 0, .int .u8 1, .int .u8 0] 5)) := B2.alloc B2.size _
  clear rw3
  generalize (w2.alloc (.cells #[.int .u8 9, .int .u8 0, .int .u8 0, .int .u8 1, .int .u8 0] 5)) = w3 at B3 ⊢
  go_wp2_with fail
  have r4 : Row (w3.alloc (.cells #[.int .u8 1, .int .u8 2, .int .u8 3, .int .u8 4, .int .u8 5] 5)) (some ⟨w3.heap.size, 0, none⟩) [1, 2, 3, 4, 5] 5 := row_new w3 _ _ _ [1, 2, 3, 4, 5] rfl (by decide)
  refine (waw_cut _ _ _ r4).mono ?_
  rintro e w4 ⟨a, a0, a1, a2, c0, c1, c2, c, rfl, HR, hb4⟩
  have B4 : Below w.heap.size w w4 := (B3.alloc B3.size _).trans (hb4.mono (by have := B3.size; simp; omega))
  clear r4 hb4
  have HH := Lib.hid HR
  clear HR
  go_wp2_with fail
  have HR := HH.out
  refine wp_region_ty (wawT a c) (by kernel_rfl) (by kernel_rfl) ?_ ?_
  · refine opsAll_cons ?_ (opsAll_cons ?_ (opsAll_cons ?_ (opsAll_cons ?_ (opsAll_cons ?_ (opsAll_cons ?_ (opsAll_cons ?_ (opsAll_cons ?_ (opsAll_cons ?_ (opsAll_cons ?_ (opsAll_cons ?_ (opsAll_cons ?_ (opsAll_cons ?_ (opsAll_cons ?_ (opsAll_cons ?_ (opsAll_cons ?_ (opsAll_cons ?_ (opsAll_cons ?_ (opsAll_cons ?_ (opsAll_cons ?_ (opsAll_cons ?_ (opsAll_cons ?_ (opsAll_cons ?_ (opsAll_cons ?_ (opsAll_cons ?_ (opsAll_cons ?_ (opsAll_cons ?_ (opsAll_cons ?_ (opsAll_cons ?_ (opsAll_cons ?_ (opsAll_cons ?_ (opsAll_cons ?_ (opsAll_cons ?_ (opsAll_cons ?_ (opsAll_cons ?_ (opsAll_cons ?_ (opsAll_cons ?_ (opsAll_cons ?_ (opsAll_cons ?_ (opsAll_cons ?_ (opsAll_cons ?_ (opsAll_cons ?_ opsAll_nil)))))))))))))))))))))))))))))))))))))))))
    all_goals intro wa wx hk
    · -- slot 31
      exact ⟨wanted_free rfl, g_move (.tmp 1) rfl (hk.old 1 (by kernel_rfl))⟩
    · -- slot 32
      exact ⟨wanted_free rfl, g_bin rfl (hk.slot 31 (by kernel_rfl)) (hk.lit _) (fun w => by kernel_rfl) rfl⟩
    · -- slot 33
      exact ⟨wanted_free rfl, g_move (.tmp 32) rfl (hk.slot 32 (by kernel_rfl))⟩
    · -- slot 34
      exact ⟨wanted_by 33 false (by kernel_rfl) (hk.slot 33 (by kernel_rfl)), g_move (.tmp 2) rfl (hk.old 2 (by kernel_rfl))⟩
    · -- slot 35
      exact ⟨wanted_by 33 false (by kernel_rfl) (hk.slot 33 (by kernel_rfl)), g_not rfl _ (hk.slot 34 (by kernel_rfl)) rfl⟩
    · -- slot 36
      exact ⟨wanted_free rfl, g_pick rfl false (hk.slot 33 (by kernel_rfl)) (hk.slot 35 (by kernel_rfl))⟩
    · -- slot 37
      exact ⟨wanted_free rfl, g_move (.tmp 36) rfl (hk.slot 36 (by kernel_rfl))⟩
    · -- slot 38
      exact ⟨wanted_by 37 false (by kernel_rfl) (hk.slot 37 (by kernel_rfl)), g_move (.tmp 4) rfl (hk.old 4 (by kernel_rfl))⟩
    · -- slot 39
      exact ⟨wanted_free rfl, g_pick rfl false (hk.slot 37 (by kernel_rfl)) (hk.slot 38 (by kernel_rfl))⟩
    · -- slot 40
      exact ⟨wanted_free rfl, g_move (.tmp 39) rfl (hk.slot 39 (by kernel_rfl))⟩
    · -- slot 41
      exact ⟨wanted_by 40 false (by kernel_rfl) (hk.slot 40 (by kernel_rfl)), g_move (.tmp 5) rfl (hk.old 5 (by kernel_rfl))⟩
    · -- slot 42
      exact ⟨wanted_by 40 false (by kernel_rfl) (hk.slot 40 (by kernel_rfl)), g_bin rfl (hk.slot 41 (by kernel_rfl)) (hk.lit _) (fun w => by kernel_rfl) rfl⟩
    · -- slot 43
      exact ⟨wanted_free rfl, g_pick rfl false (hk.slot 40 (by kernel_rfl)) (hk.slot 42 (by kernel_rfl))⟩
    · -- slot 44
      exact ⟨wanted_free rfl, g_move (.tmp 43) rfl (hk.slot 43 (by kernel_rfl))⟩
    · -- slot 45
      exact ⟨wanted_by 44 false (by kernel_rfl) (hk.slot 44 (by kernel_rfl)), g_move (.tmp 6) rfl (hk.old 6 (by kernel_rfl))⟩
    · -- slot 46
      exact ⟨wanted_by 44 false (by kernel_rfl) (hk.slot 44 (by kernel_rfl)), g_not rfl _ (hk.slot 45 (by kernel_rfl)) rfl⟩
    · -- slot 47
      exact ⟨wanted_free rfl, g_pick rfl false (hk.slot 44 (by kernel_rfl)) (hk.slot 46 (by kernel_rfl))⟩
    · -- slot 48
      exact ⟨wanted_free rfl, g_move (.tmp 47) rfl (hk.slot 47 (by kernel_rfl))⟩
    · -- slot 49
      exact ⟨wanted_by 48 false (by kernel_rfl) (hk.slot 48 (by kernel_rfl)), g_move (.tmp 8) rfl (hk.old 8 (by kernel_rfl))⟩
    · -- slot 50
      exact ⟨wanted_free rfl, g_pick rfl false (hk.slot 48 (by kernel_rfl)) (hk.slot 49 (by kernel_rfl))⟩
    · -- slot 51
      exact ⟨wanted_free rfl, g_move (.tmp 50) rfl (hk.slot 50 (by kernel_rfl))⟩
    · -- slot 52
      exact ⟨wanted_by 51 false (by kernel_rfl) (hk.slot 51 (by kernel_rfl)), g_move (.tmp 9) rfl (hk.old 9 (by kernel_rfl))⟩
    · -- slot 53
      exact ⟨wanted_by 51 false (by kernel_rfl) (hk.slot 51 (by kernel_rfl)), g_len rfl (by simp [Program.elem, Try.underlying68]) (hk.slot 52 (by kernel_rfl)) rfl⟩
    · -- slot 54
      exact ⟨wanted_by 51 false (by kernel_rfl) (hk.slot 51 (by kernel_rfl)), g_bin rfl (hk.slot 53 (by kernel_rfl)) (hk.lit _) (fun w => by kernel_rfl) rfl⟩
    · -- slot 55
      exact ⟨wanted_free rfl, g_pick rfl false (hk.slot 51 (by kernel_rfl)) (hk.slot 54 (by kernel_rfl))⟩
    · -- slot 56
      exact ⟨wanted_free rfl, g_move (.tmp 55) rfl (hk.slot 55 (by kernel_rfl))⟩
    · -- slot 57
      exact ⟨wanted_by 56 false (by kernel_rfl) (hk.slot 56 (by kernel_rfl)), g_move (.tmp 9) rfl (hk.old 9 (by kernel_rfl))⟩
    · -- slot 58
      exact ⟨wanted_by 56 false (by kernel_rfl) (hk.slot 56 (by kernel_rfl)), g_index (.tmp 57) (.const (.int .i64 2)) rfl (hk.slot 57 (by kernel_rfl)) (hk.lit _) (HR.index 2 (by simp) _) rfl⟩
    · -- slot 59
      exact ⟨wanted_by 56 false (by kernel_rfl) (hk.slot 56 (by kernel_rfl)), g_load (.tmp 58) rfl (hk.slot 58 (by kernel_rfl)) (by simp [go_sem, (HR.stay hk.below).cell 2 (by simp)]) ⟨_, _, rfl, ((HR.stay hk.below).row ⟨a2, c2, [5]⟩ (by simp))⟩⟩
    · -- slot 60
      exact ⟨wanted_by 56 false (by kernel_rfl) (hk.slot 56 (by kernel_rfl)), g_lay hk.below.size (.slice (some ⟨wx.heap.size, 0, none⟩) 1 1) (wx.alloc (.cells #[.int .u8 5] 5)) (by kernel_rfl) ((Below.refl _ _).alloc (Nat.le_refl _) _) ⟨_, _, rfl, row_new wx _ _ _ _ rfl (by decide)⟩⟩
    · -- slot 61
      exact ⟨wanted_by 56 false (by kernel_rfl) (hk.slot 56 (by kernel_rfl)), g_same (.tmp 59) (.tmp 60) hk.below.size rfl (hk.fn _) (l := [5]) (m := [5]) (b := true) (by decide) rfl (hk.slot 59 (by kernel_rfl)) (hk.slot 60 (by kernel_rfl))⟩
    · -- slot 62
      exact ⟨wanted_by 56 false (by kernel_rfl) (hk.slot 56 (by kernel_rfl)), g_not rfl _ (hk.slot 61 (by kernel_rfl)) rfl⟩
    · -- slot 63
      exact ⟨wanted_free rfl, g_pick rfl false (hk.slot 56 (by kernel_rfl)) (hk.slot 62 (by kernel_rfl))⟩
    · -- slot 64
      exact ⟨wanted_free rfl, g_move (.tmp 63) rfl (hk.slot 63 (by kernel_rfl))⟩
    · -- slot 65
      exact ⟨wanted_by 64 false (by kernel_rfl) (hk.slot 64 (by kernel_rfl)), g_move (.tmp 9) rfl (hk.old 9 (by kernel_rfl))⟩
    · -- slot 66
      exact ⟨wanted_by 64 false (by kernel_rfl) (hk.slot 64 (by kernel_rfl)), g_index (.tmp 65) (.const (.int .i64 0)) rfl (hk.slot 65 (by kernel_rfl)) (hk.lit _) (HR.index 0 (by simp) _) rfl⟩
    · -- slot 67
      exact ⟨wanted_by 64 false (by kernel_rfl) (hk.slot 64 (by kernel_rfl)), g_load (.tmp 66) rfl (hk.slot 66 (by kernel_rfl)) (by simp [go_sem, (HR.stay hk.below).cell 0 (by simp)]) ⟨_, _, rfl, ((HR.stay hk.below).row ⟨a0, c0, [1, 2]⟩ (by simp))⟩⟩
    · -- slot 68
      exact ⟨wanted_by 64 false (by kernel_rfl) (hk.slot 64 (by kernel_rfl)), g_move (.tmp 9) rfl (hk.old 9 (by kernel_rfl))⟩
    · -- slot 69
      exact ⟨wanted_by 64 false (by kernel_rfl) (hk.slot 64 (by kernel_rfl)), g_index (.tmp 68) (.const (.int .i64 1)) rfl (hk.slot 68 (by kernel_rfl)) (hk.lit _) (HR.index 1 (by simp) _) rfl⟩
    · -- slot 70
      exact ⟨wanted_by 64 false (by kernel_rfl) (hk.slot 64 (by kernel_rfl)), g_load (.tmp 69) rfl (hk.slot 69 (by kernel_rfl)) (by simp [go_sem, (HR.stay hk.below).cell 1 (by simp)]) ⟨_, _, rfl, ((HR.stay hk.below).row ⟨a1, c1, [3, 4]⟩ (by simp))⟩⟩
    · -- slot 71
      exact ⟨wanted_by 64 false (by kernel_rfl) (hk.slot 64 (by kernel_rfl)), g_same (.tmp 67) (.tmp 70) hk.below.size rfl (hk.fn _) (l := [1, 2]) (m := [3, 4]) (b := false) (by decide) rfl (hk.slot 67 (by kernel_rfl)) (hk.slot 70 (by kernel_rfl))⟩
    · -- slot 72
      exact ⟨wanted_free rfl, g_pick rfl false (hk.slot 64 (by kernel_rfl)) (hk.slot 71 (by kernel_rfl))⟩
  · intro wa w5 hb5 hsame hall
    have he := act_same hsame [31, 32, 33, 34, 35, 36, 37, 38, 39, 40, 41, 42, 43, 44, 45, 46, 47, 48, 49, 50, 51, 52, 53, 54, 55, 56, 57, 58, 59, 60, 61, 62, 63, 64, 65, 66, 67, 68, 69, 70, 71, 72] (by kernel_rfl)
    simp only [List.foldl_cons, List.foldl_nil] at he
    rw [show wa.eval (.tmp 72) = .bool false from hall 72 (by kernel_rfl)] at he
    generalize wa.eval (.tmp 31) = v31 at he
    generalize wa.eval (.tmp 32) = v32 at he
    generalize wa.eval (.tmp 33) = v33 at he
    generalize wa.eval (.tmp 34) = v34 at he
    generalize wa.eval (.tmp 35) = v35 at he
    generalize wa.eval (.tmp 36) = v36 at he
    generalize wa.eval (.tmp 37) = v37 at he
    generalize wa.eval (.tmp 38) = v38 at he
    generalize wa.eval (.tmp 39) = v39 at he
    generalize wa.eval (.tmp 40) = v40 at he
    generalize wa.eval (.tmp 41) = v41 at he
    generalize wa.eval (.tmp 42) = v42 at he
    generalize wa.eval (.tmp 43) = v43 at he
    generalize wa.eval (.tmp 44) = v44 at he
    generalize wa.eval (.tmp 45) = v45 at he
    generalize wa.eval (.tmp 46) = v46 at he
    generalize wa.eval (.tmp 47) = v47 at he
    generalize wa.eval (.tmp 48) = v48 at he
    generalize wa.eval (.tmp 49) = v49 at he
    generalize wa.eval (.tmp 50) = v50 at he
    generalize wa.eval (.tmp 51) = v51 at he
    generalize wa.eval (.tmp 52) = v52 at he
    generalize wa.eval (.tmp 53) = v53 at he
    generalize wa.eval (.tmp 54) = v54 at he
    generalize wa.eval (.tmp 55) = v55 at he
    generalize wa.eval (.tmp 56) = v56 at he
    generalize wa.eval (.tmp 57) = v57 at he
    generalize wa.eval (.tmp 58) = v58 at he
    generalize wa.eval (.tmp 59) = v59 at he
    generalize wa.eval (.tmp 60) = v60 at he
    generalize wa.eval (.tmp 61) = v61 at he
    generalize wa.eval (.tmp 62) = v62 at he
    generalize wa.eval (.tmp 63) = v63 at he
    generalize wa.eval (.tmp 64) = v64 at he
    generalize wa.eval (.tmp 65) = v65 at he
    generalize wa.eval (.tmp 66) = v66 at he
    generalize wa.eval (.tmp 67) = v67 at he
    generalize wa.eval (.tmp 68) = v68 at he
    generalize wa.eval (.tmp 69) = v69 at he
    generalize wa.eval (.tmp 70) = v70 at he
    generalize wa.eval (.tmp 71) = v71 at he
    simp [Act.put] at he
    subst he
    clear hall hsame HR HH
    have B5 := B4.trans (hb5.mono B4.size)
    clear hb5
    go_wp2_with fail
    refine (waw_row _ 258 3 (by decide) (by decide) [0, 1, 2] (by decide)).mono ?_
    rintro e w6 ⟨a6, c6, rfl, r6, hb6⟩
    have B6 := B5.trans (hb6.mono B5.size)
    clear hb6
    go_wp2_with fail
    have n0 : Below (w6).heap.size (w6) ((w6).alloc (.cells #[.int .u8 0, .int .u8 1, .int .u8 2] 5)) := (Below.refl _ _).alloc (Nat.le_refl _) _
    replace r6 := r6.stay n0
    have q0 : Row ((w6).alloc (.cells #[.int .u8 0, .int .u8 1, .int .u8 2] 5)) (some ⟨(w6).heap.size, 0, none⟩) [0, 1, 2] 3 := row_new (w6) _ _ _ [0, 1, 2] rfl (by decide)
    replace B6 := B6.trans (n0.mono B6.size)
    clear n0
    refine (waw_same _ _ _ [0, 1, 2] [0, 1, 2] _ _ r6 q0 true (by decide)).mono ?_
    rintro e w0 ⟨rfl, rfl⟩
    clear r6 q0
    generalize ((w6).alloc (.cells #[.int .u8 0, .int .u8 1, .int .u8 2] 5)) = w7 at B6 ⊢
    rename Below w.heap.size w w7 => B7
    go_wp2_with fail
    refine (waw_row _ 258 1 (by decide) (by decide) [2] (by decide)).mono ?_
    rintro e w8 ⟨a8, c8, rfl, r8, hb8⟩
    have B8 := B7.trans (hb8.mono B7.size)
    clear hb8
    go_wp2_with fail
    have n0 : Below (w8).heap.size (w8) ((w8).alloc (.cells #[.int .u8 2] 5)) := (Below.refl _ _).alloc (Nat.le_refl _) _
    replace r8 := r8.stay n0
    have q0 : Row ((w8).alloc (.cells #[.int .u8 2] 5)) (some ⟨(w8).heap.size, 0, none⟩) [2] 1 := row_new (w8) _ _ _ [2] rfl (by decide)
    replace B8 := B8.trans (n0.mono B8.size)
    clear n0
    refine (waw_same _ _ _ [2] [2] _ _ r8 q0 true (by decide)).mono ?_
    rintro e w0 ⟨rfl, rfl⟩
    clear r8 q0
    generalize ((w8).alloc (.cells #[.int .u8 2] 5)) = w9 at B8 ⊢
    rename Below w.heap.size w w9 => B9
    go_wp2_with fail
    refine (row_none _ 5 0 (.inl (by decide))).mono ?_
    rintro e w0 ⟨rfl, hw0⟩
    have hw0 := hw0.symm
    subst hw0
    go_wp2_with fail
    have n0 : Below (w9).heap.size (w9) ((w9).alloc (.cells #[.int .u8 7] 5)) := (Below.refl _ _).alloc (Nat.le_refl _) _
    have q0 : Row ((w9).alloc (.cells #[.int .u8 7] 5)) (some ⟨(w9).heap.size, 0, none⟩) [7] 1 := row_new (w9) _ _ _ [7] rfl (by decide)
    replace B9 := B9.trans (n0.mono B9.size)
    clear n0
    refine (waw_pad _ _ _ q0).mono ?_
    rintro e w10 ⟨a10, c10, rfl, r10, hb10⟩
    have B10 := B9.trans (hb10.mono B9.size)
    clear hb10 q0
    go_wp2_with fail
    have n0 : Below (w10).heap.size (w10) ((w10).alloc (.cells #[.int .u8 7, .int .u8 0, .int .u8 0] 5)) := (Below.refl _ _).alloc (Nat.le_refl _) _
    replace r10 := r10.stay n0
    have q0 : Row ((w10).alloc (.cells #[.int .u8 7, .int .u8 0, .int .u8 0] 5)) (some ⟨(w10).heap.size, 0, none⟩) [7, 0, 0] 3 := row_new (w10) _ _ _ [7, 0, 0] rfl (by decide)
    replace B10 := B10.trans (n0.mono B10.size)
    clear n0
    refine (waw_same _ _ _ [7, 0, 0] [7, 0, 0] _ _ r10 q0 true (by decide)).mono ?_
    rintro e w0 ⟨rfl, rfl⟩
    clear r10 q0
    generalize ((w10).alloc (.cells #[.int .u8 7, .int .u8 0, .int .u8 0] 5)) = w11 at B10 ⊢
    rename Below w.heap.size w w11 => B11
    go_wp2_with fail
    have n0 : Below (w11).heap.size (w11) ((w11).alloc (.cells #[.int .u8 1, .int .u8 9] 5)) := (Below.refl _ _).alloc (Nat.le_refl _) _
    have q0 : Row ((w11).alloc (.cells #[.int .u8 1, .int .u8 9] 5)) (some ⟨(w11).heap.size, 0, none⟩) [1, 9] 2 := row_new (w11) _ _ _ [1, 9] rfl (by decide)
    replace B11 := B11.trans (n0.mono B11.size)
    have n1 : Below ((w11).alloc (.cells #[.int .u8 1, .int .u8 9] 5)).heap.size ((w11).alloc (.cells #[.int .u8 1, .int .u8 9] 5)) (((w11).alloc (.cells #[.int .u8 1, .int .u8 9] 5)).alloc (.cells #[.int .u8 2] 5)) := (Below.refl _ _).alloc (Nat.le_refl _) _
    replace q0 := q0.stay n1
    have q1 : Row (((w11).alloc (.cells #[.int .u8 1, .int .u8 9] 5)).alloc (.cells #[.int .u8 2] 5)) (some ⟨((w11).alloc (.cells #[.int .u8 1, .int .u8 9] 5)).heap.size, 0, none⟩) [2] 1 := row_new ((w11).alloc (.cells #[.int .u8 1, .int .u8 9] 5)) _ _ _ [2] rfl (by decide)
    replace B11 := B11.trans (n1.mono B11.size)
    clear n0 n1
    simp only [World.size_alloc] at q1
    refine (waw_ahead _ _ _ [1, 9] [2] _ _ q0 q1 true (by decide)).mono ?_
    rintro e w0 ⟨rfl, rfl⟩
    clear q0 q1
    generalize (((w11).alloc (.cells #[.int .u8 1, .int .u8 9] 5)).alloc (.cells #[.int .u8 2] 5)) = w12 at B11 ⊢
    rename Below w.heap.size w w12 => B12
    go_wp2_with fail
    have n0 : Below (w12).heap.size (w12) ((w12).alloc (.cells #[.int .u8 1] 5)) := (Below.refl _ _).alloc (Nat.le_refl _) _
    have q0 : Row ((w12).alloc (.cells #[.int .u8 1] 5)) (some ⟨(w12).heap.size, 0, none⟩) [1] 1 := row_new (w12) _ _ _ [1] rfl (by decide)
    replace B12 := B12.trans (n0.mono B12.size)
    have n1 : Below ((w12).alloc (.cells #[.int .u8 1] 5)).heap.size ((w12).alloc (.cells #[.int .u8 1] 5)) (((w12).alloc (.cells #[.int .u8 1] 5)).alloc (.cells #[.int .u8 1, .int .u8 0] 5)) := (Below.refl _ _).alloc (Nat.le_refl _) _
    replace q0 := q0.stay n1
    have q1 : Row (((w12).alloc (.cells #[.int .u8 1] 5)).alloc (.cells #[.int .u8 1, .int .u8 0] 5)) (some ⟨((w12).alloc (.cells #[.int .u8 1] 5)).heap.size, 0, none⟩) [1, 0] 2 := row_new ((w12).alloc (.cells #[.int .u8 1] 5)) _ _ _ [1, 0] rfl (by decide)
    replace B12 := B12.trans (n1.mono B12.size)
    clear n0 n1
    simp only [World.size_alloc] at q1
    refine (waw_ahead _ _ _ [1] [1, 0] _ _ q0 q1 true (by decide)).mono ?_
    rintro e w0 ⟨rfl, rfl⟩
    clear q0 q1
    generalize (((w12).alloc (.cells #[.int .u8 1] 5)).alloc (.cells #[.int .u8 1, .int .u8 0] 5)) = w13 at B12 ⊢
    rename Below w.heap.size w w13 => B13
    go_wp2_with fail
    have n0 : Below (w13).heap.size (w13) ((w13).alloc (.cells #[.int .u8 1, .int .u8 0] 5)) := (Below.refl _ _).alloc (Nat.le_refl _) _
    have q0 : Row ((w13).alloc (.cells #[.int .u8 1, .int .u8 0] 5)) (some ⟨(w13).heap.size, 0, none⟩) [1, 0] 2 := row_new (w13) _ _ _ [1, 0] rfl (by decide)
    replace B13 := B13.trans (n0.mono B13.size)
    have n1 : Below ((w13).alloc (.cells #[.int .u8 1, .int .u8 0] 5)).heap.size ((w13).alloc (.cells #[.int .u8 1, .int .u8 0] 5)) (((w13).alloc (.cells #[.int .u8 1, .int .u8 0] 5)).alloc (.cells #[.int .u8 1] 5)) := (Below.refl _ _).alloc (Nat.le_refl _) _
    replace q0 := q0.stay n1
    have q1 : Row (((w13).alloc (.cells #[.int .u8 1, .int .u8 0] 5)).alloc (.cells #[.int .u8 1] 5)) (some ⟨((w13).alloc (.cells #[.int .u8 1, .int .u8 0] 5)).heap.size, 0, none⟩) [1] 1 := row_new ((w13).alloc (.cells #[.int .u8 1, .int .u8 0] 5)) _ _ _ [1] rfl (by decide)
    replace B13 := B13.trans (n1.mono B13.size)
    clear n0 n1
    simp only [World.size_alloc] at q1
    refine (waw_ahead _ _ _ [1, 0] [1] _ _ q0 q1 false (by decide)).mono ?_
    rintro e w0 ⟨rfl, rfl⟩
    clear q0 q1
    generalize (((w13).alloc (.cells #[.int .u8 1, .int .u8 0] 5)).alloc (.cells #[.int .u8 1] 5)) = w14 at B13 ⊢
    rename Below w.heap.size w w14 => B14
    go_wp2_with fail
    go_ret
    exact ⟨rfl, B14⟩
end Go.Proofs.Ytbglmglgaobjmaa
