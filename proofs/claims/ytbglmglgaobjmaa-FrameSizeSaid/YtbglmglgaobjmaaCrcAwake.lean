/- The laws' own 'awake' of layer 2: it returns true. Walked. -/
import Derived.Test.YtbglmglgaobjmaaCrcPut
import Derived.Lib.SlBytesConst
import Derived.Test.YtbglmglgaobjmaaTy
namespace Go.Proofs.Ytbglmglgaobjmaa
open Go Go.RowKit Go.Cit

theorem awk_chk4 : okB [0, 0, 0, 0] = true := by decide +kernel
theorem awk_chk4b : chkB [0, 0, 0, 0] = [] := by decide +kernel
theorem awk_chk3 : okB [0, 0, 0] = false := by decide +kernel
theorem awk_sum0 : addP 0 [] = 0 := by decide +kernel
theorem awk_sum9 : addP 0 [49, 50, 51, 52, 53, 54, 55, 56, 57] = 0xcbf43926 := by decide +kernel
theorem awk_put0 : putB [] = [0, 0, 0, 0] := by decide +kernel

theorem awk_sum (W : World) :
    Calls Try.prog 19 #[.slice (some ⟨W.heap.size, 0, none⟩) 9 9] (W.alloc (.cells #[.int .u8 49, .int .u8 50, .int .u8 51, .int .u8 52, .int .u8 53, .int .u8 54, .int .u8 55, .int .u8 56, .int .u8 57] 5 (9, 10))) fun e w' => e = .returned (.int .u32 3421780262) ∧ Below W.heap.size W w' := by
  have h := sum_calls _ _ [49, 50, 51, 52, 53, 54, 55, 56, 57] _ (row_new W _ 5 (9, 10) [49, 50, 51, 52, 53, 54, 55, 56, 57] rfl (by decide))
  rw [awk_sum9] at h
  exact h.mono fun e w' ⟨he, hb⟩ => ⟨he, ((Below.refl _ _).alloc (Nat.le_refl _) _).trans (hb.mono (by simp))⟩
theorem awk_same (W' : World) (a : Option Addr) (X : List UInt8) (c : Nat) (g : Nat) (HX : Hid (X = putB [])) (h : Row W' a X c) (h2 : Row W' (some ⟨g, 0, none⟩) [0, 0, 0, 0] 4) :
    Calls Try.prog 35 #[.slice a X.length c, .slice (some ⟨g, 0, none⟩) 4 4] W' fun e w' => e = .returned (.bool true) ∧ W' = w' := by
  have s : (ordB X [0, 0, 0, 0] == 0) = true := by rw [HX.out, awk_put0]; rfl
  have hc := wsame_calls W' a (some ⟨g, 0, none⟩) X [0, 0, 0, 0] c 4 h h2
  rw [s] at hc
  exact hc.mono fun e w' ⟨he, hb⟩ => ⟨he, hb.symm⟩

theorem row_alloc {W : World} {a : Option Addr} {l : List UInt8} {c : Nat} (h : Row W a l c) (o : Obj) : Row (W.alloc o) a l c := h.stay ((Below.refl _ _).alloc (Nat.le_refl _) _)
theorem zeros4 (W : World) : Row (W.alloc (.cells #[.int .u8 0, .int .u8 0, .int .u8 0, .int .u8 0] 5)) (some ⟨W.heap.size, 0, none⟩) [0, 0, 0, 0] 4 := row_new W _ _ _ _ rfl (by decide)

/-- What is said of each slot of awake's last statement. -/
def awkT (B : Nat) : Nat → Ty
  | 15 => .val (.int .u32 0)
  | 18 => .lit B 5 [49, 50, 51, 52, 53, 54, 55, 56, 57]
  | 19 => .row [49, 50, 51, 52, 53, 54, 55, 56, 57]
  | 20 => .val (.int .u32 3421780262)
  | 24 => .row (putB [])
  | 25 => .row [0, 0, 0, 0]
  | 29 => .row []
  | 30 => .val (.int .i64 0)
  | 37 => .val (.bool false)
  | _ => .val (.bool true)

theorem awk_v0 : (Value.int .u32 ((addP 0 []).toNat : Int)) = .int .u32 0 := by rw [awk_sum0]; rfl
theorem awk_call20 {B : Nat} {wx : World} {o : Oper} {ρ : Operand → Value} (hB : B ≤ wx.heap.size) (h : o.op = .call { callee := .value (.func 19), args := #[.tmp 19], argTypes := #[23] })
    (hf : ρ (.func 19) = .func (.func 19) #[] #[]) {T : Ty} (hT : T = .val (.int .u32 3421780262)) (hs : (Ty.row [49, 50, 51, 52, 53, 54, 55, 56, 57]).ok (ρ (.tmp 19)) wx) : Gives Try.prog B wx T ((execOp ρ o).run Try.prog wx) := by
  obtain ⟨a, cp, hv, hr⟩ := hs
  subst hT
  refine g_call hB h hf #[.slice a 9 cp] (fun w => by kernel_rfl) (by simp [hv]) ((sum_calls wx a _ cp hr).mono fun e w3 ⟨he, hb⟩ => ⟨_, he, hb, ?_⟩)
  rw [awk_sum9]; rfl
theorem awk_call26 {B : Nat} {wx : World} {o : Oper} {ρ : Operand → Value} (hB : B ≤ wx.heap.size) (h : o.op = .call { callee := .value (.func 35), args := #[.tmp 24, .tmp 25], argTypes := #[23, 23] })
    (hf : ρ (.func 35) = .func (.func 35) #[] #[]) {T : Ty} (hT : T = .val (.bool true)) (hs : (Ty.row (putB [])).ok (ρ (.tmp 24)) wx) (hs2 : (Ty.row [0, 0, 0, 0]).ok (ρ (.tmp 25)) wx) : Gives Try.prog B wx T ((execOp ρ o).run Try.prog wx) := by
  obtain ⟨a, cp, hv, hr⟩ := hs
  obtain ⟨a2, cp2, hv2, hr2⟩ := hs2
  subst hT
  refine g_call hB h hf #[.slice a (putB []).length cp, .slice a2 4 cp2] (fun w => by kernel_rfl) (by simp [hv, hv2]) ((wsame_calls wx a a2 _ [0, 0, 0, 0] cp cp2 hr hr2).mono ?_)
  rintro e w3 ⟨he, rfl⟩
  exact ⟨_, he, Below.refl _ _, by rw [awk_put0]; rfl⟩
theorem awk_len {B : Nat} {wx : World} {o : Oper} {ρ : Operand → Value} (h : o.op = .call { callee := .builtin .len, args := #[.tmp 29], argTypes := #[23] }) {T : Ty} (hT : T = .val (.int .i64 0)) (hs : (Ty.row []).ok (ρ (.tmp 29)) wx) : Gives Try.prog B wx T ((execOp ρ o).run Try.prog wx) := by
  obtain ⟨a, cp, hv, hr⟩ := hs
  subst hT
  exact g_len h Try.underlying23 hv rfl

set_option maxHeartbeats 4000000 in
theorem crcAwake_calls (w : World) :
    Calls Try.prog 44 #[] w fun e w' => e = .returned (.bool true) ∧ Below w.heap.size w w' := by
  have hmk4 : ∀ w : World, (Instr.makeSlice 23 (.int .i64 4) (.int .i64 4)).run Try.prog w = .ok (.slice (some ⟨w.heap.size, 0, none⟩) 4 4) (w.alloc (.cells #[.int .u8 0, .int .u8 0, .int .u8 0, .int .u8 0] 5)) := fun _ => by kernel_rfl
  have hmk3 : ∀ w : World, (Instr.makeSlice 23 (.int .i64 3) (.int .i64 3)).run Try.prog w = .ok (.slice (some ⟨w.heap.size, 0, none⟩) 3 3) (w.alloc (.cells #[.int .u8 0, .int .u8 0, .int .u8 0] 5)) := fun _ => by kernel_rfl
  go_enter Try.func44, Try.ntmps44
  go_wp2_with fail
  have HA : Calls Try.prog 41 #[.slice (some ⟨w.heap.size, 0, none⟩) 4 4] (w.alloc (.cells #[.int .u8 0, .int .u8 0, .int .u8 0, .int .u8 0] 5)) _ := crccheck_calls _ _ [0, 0, 0, 0] 4 (row_new w _ _ _ _ rfl (by decide)) (by decide)
  rw [awk_chk4, awk_chk4b] at HA
  refine HA.mono ?_
  rintro e w1 ⟨a1, X, c1, HX, rfl, hm1, hb1⟩
  have hX : X = [] := HX.out
  subst hX
  have B1 : Below w.heap.size w w1 := ((Below.refl _ _).alloc (Nat.le_refl _) _).trans (hb1.mono (by simp))
  clear HA HX hb1
  go_wp2_with fail
  have HA : Calls Try.prog 41 #[.slice (some ⟨w1.heap.size, 0, none⟩) 3 3] (w1.alloc (.cells #[.int .u8 0, .int .u8 0, .int .u8 0] 5)) _ := crccheck_calls _ _ [0, 0, 0] 3 (row_new w1 _ _ _ _ rfl (by decide)) (by decide)
  rw [awk_chk3] at HA
  refine HA.mono ?_
  rintro e w2 ⟨a2, Y, c2, HY, rfl, hm2, hb2⟩
  have B2 : Below w.heap.size w w2 := B1.trans ((((Below.refl _ _).alloc (Nat.le_refl _) _).trans (hb2.mono (by simp))).mono B1.size)
  have r1 : Row w2 a1 [] c1 := hm1.row.stay (((Below.refl _ _).alloc (Nat.le_refl _) _).trans (hb2.mono (by simp)))
  clear HA HY hm1 hm2 hb2 B1
  go_wp2_with fail
  refine wp_region_ty (awkT w2.heap.size) (by kernel_rfl) (by kernel_rfl) ?_ ?_
  · refine opsAll_cons ?_ (opsAll_cons ?_ (opsAll_cons ?_ (opsAll_cons ?_ (opsAll_cons ?_ (opsAll_cons ?_ (opsAll_cons ?_ (opsAll_cons ?_ (opsAll_cons ?_ (opsAll_cons ?_ (opsAll_cons ?_ (opsAll_cons ?_ (opsAll_cons ?_ (opsAll_cons ?_ (opsAll_cons ?_ (opsAll_cons ?_ (opsAll_cons ?_ (opsAll_cons ?_ (opsAll_cons ?_ (opsAll_cons ?_ (opsAll_cons ?_ (opsAll_cons ?_ (opsAll_cons ?_ (opsAll_cons ?_ (opsAll_cons ?_ (opsAll_cons ?_ opsAll_nil)))))))))))))))))))))))))
    all_goals intro a wx hk
    · -- slot 15
      exact ⟨wanted_free rfl, g_call hk.below.size rfl (hk.fn _) #[.slice none 0 0] (fun w => by kernel_rfl) (by simp [hk.lit]) ((sum_calls wx none [] 0 (Row.nil_ _)).mono fun e w3 ⟨he, hb⟩ => ⟨_, he, hb, awk_v0⟩)⟩
    · -- slot 16
      exact ⟨wanted_free rfl, g_bin rfl (hk.slot 15 (by kernel_rfl)) (hk.lit _) (fun w => by kernel_rfl) rfl⟩
    · -- slot 17
      exact ⟨wanted_free rfl, g_move (.tmp 16) rfl (hk.slot 16 (by kernel_rfl))⟩
    · -- slot 18
      exact ⟨wanted_by 17 true (by kernel_rfl) (hk.slot 17 (by kernel_rfl)), g_lay hk.below.size (.slice (some ⟨wx.heap.size, 0, none⟩) 9 9) (wx.alloc (.cells #[.int .u8 49, .int .u8 50, .int .u8 51, .int .u8 52, .int .u8 53, .int .u8 54, .int .u8 55, .int .u8 56, .int .u8 57] 5)) (by kernel_rfl) ((Below.refl _ _).alloc (Nat.le_refl _) _) ⟨wx.heap.size, rfl, hk.below.size, shape_new wx _ _ _, row_new wx _ _ _ _ rfl (by decide)⟩⟩
    · -- slot 19
      exact ⟨wanted_by 17 true (by kernel_rfl) (hk.slot 17 (by kernel_rfl)), g_mark (l := [49, 50, 51, 52, 53, 54, 55, 56, 57]) rfl Try.underlying23 Try.underlying5 (hk.slot 18 (by kernel_rfl)) rfl⟩
    · -- slot 20
      exact ⟨wanted_by 17 true (by kernel_rfl) (hk.slot 17 (by kernel_rfl)), awk_call20 hk.below.size rfl (hk.fn _) rfl (hk.slot 19 (by kernel_rfl))⟩
    · -- slot 21
      exact ⟨wanted_by 17 true (by kernel_rfl) (hk.slot 17 (by kernel_rfl)), g_bin rfl (hk.slot 20 (by kernel_rfl)) (hk.lit _) (fun w => by kernel_rfl) rfl⟩
    · -- slot 22
      exact ⟨wanted_free rfl, g_pick rfl true (hk.slot 17 (by kernel_rfl)) (hk.slot 21 (by kernel_rfl))⟩
    · -- slot 23
      exact ⟨wanted_free rfl, g_move (.tmp 22) rfl (hk.slot 22 (by kernel_rfl))⟩
    · -- slot 24
      exact ⟨wanted_by 23 true (by kernel_rfl) (hk.slot 23 (by kernel_rfl)), g_call hk.below.size rfl (hk.fn _) #[.slice none 0 0] (fun w => by kernel_rfl) (by simp [hk.lit]) ((crcput_calls wx none [] 0 (Row.nil_ _) (by decide)).mono fun e w3 ⟨a, X, cp, HX, he, hm, hb⟩ => ⟨_, he, hb, by have h := HX.out; subst h; exact ⟨a, cp, rfl, hm.row⟩⟩)⟩
    · -- slot 25
      exact ⟨wanted_by 23 true (by kernel_rfl) (hk.slot 23 (by kernel_rfl)), g_lay hk.below.size (.slice (some ⟨wx.heap.size, 0, none⟩) 4 4) (wx.alloc (.cells #[.int .u8 0, .int .u8 0, .int .u8 0, .int .u8 0] 5)) (by kernel_rfl) ((Below.refl _ _).alloc (Nat.le_refl _) _) ⟨_, _, rfl, zeros4 wx⟩⟩
    · -- slot 26
      exact ⟨wanted_by 23 true (by kernel_rfl) (hk.slot 23 (by kernel_rfl)), awk_call26 hk.below.size rfl (hk.fn _) rfl (hk.slot 24 (by kernel_rfl)) (hk.slot 25 (by kernel_rfl))⟩
    · -- slot 27
      exact ⟨wanted_free rfl, g_pick rfl true (hk.slot 23 (by kernel_rfl)) (hk.slot 26 (by kernel_rfl))⟩
    · -- slot 28
      exact ⟨wanted_free rfl, g_move (.tmp 27) rfl (hk.slot 27 (by kernel_rfl))⟩
    · -- slot 29
      exact ⟨wanted_by 28 true (by kernel_rfl) (hk.slot 28 (by kernel_rfl)), g_move (.tmp 1) rfl ⟨a1, c1, hk.old 1 (by kernel_rfl), r1.stay hk.below⟩⟩
    · -- slot 30
      exact ⟨wanted_by 28 true (by kernel_rfl) (hk.slot 28 (by kernel_rfl)), awk_len rfl rfl (hk.slot 29 (by kernel_rfl))⟩
    · -- slot 31
      exact ⟨wanted_by 28 true (by kernel_rfl) (hk.slot 28 (by kernel_rfl)), g_bin rfl (hk.slot 30 (by kernel_rfl)) (hk.lit _) (fun w => by kernel_rfl) rfl⟩
    · -- slot 32
      exact ⟨wanted_free rfl, g_pick rfl true (hk.slot 28 (by kernel_rfl)) (hk.slot 31 (by kernel_rfl))⟩
    · -- slot 33
      exact ⟨wanted_free rfl, g_move (.tmp 32) rfl (hk.slot 32 (by kernel_rfl))⟩
    · -- slot 34
      exact ⟨wanted_by 33 true (by kernel_rfl) (hk.slot 33 (by kernel_rfl)), g_move (.tmp 2) rfl (hk.old 2 (by kernel_rfl))⟩
    · -- slot 35
      exact ⟨wanted_free rfl, g_pick rfl true (hk.slot 33 (by kernel_rfl)) (hk.slot 34 (by kernel_rfl))⟩
    · -- slot 36
      exact ⟨wanted_free rfl, g_move (.tmp 35) rfl (hk.slot 35 (by kernel_rfl))⟩
    · -- slot 37
      exact ⟨wanted_by 36 true (by kernel_rfl) (hk.slot 36 (by kernel_rfl)), g_move (.tmp 4) rfl (hk.old 4 (by kernel_rfl))⟩
    · -- slot 38
      exact ⟨wanted_by 36 true (by kernel_rfl) (hk.slot 36 (by kernel_rfl)), g_not rfl _ (hk.slot 37 (by kernel_rfl)) rfl⟩
    · -- slot 39
      exact ⟨wanted_free rfl, g_pick rfl true (hk.slot 36 (by kernel_rfl)) (hk.slot 38 (by kernel_rfl))⟩
    · -- slot 0
      exact ⟨wanted_free rfl, g_assign (.tmp 39) rfl (hk.slot 39 (by kernel_rfl))⟩
  · intro a wx hb hsame hall
    have h0 := hall 0 (by kernel_rfl)
    have hd := hsame.1
    rename_i hK
    refine hK a wx ?_
    apply wp_ret
    exact bodyPost_ret (results_tmp rfl _ _ _) hd ⟨congrArg Ending.returned h0, B2.trans (hb.mono B2.size)⟩
end Go.Proofs.Ytbglmglgaobjmaa
