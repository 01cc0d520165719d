/- CrcPieces: the sum of bytes in pieces is Add, piece by piece. The walk of the law. -/
import Derived.Test.YtbglmglgaobjmaaCrcAwake
import Derived.Test.YtbglmglgaobjmaaCrcMore
namespace Go.Proofs.Ytbglmglgaobjmaa
open Go Go.RowKit Go.Cit

theorem eq_same {x y : Operand} (s : UInt32) : ∀ w : World, (do eqGuard .eql 22 x y (vw s) (vw s); binOp .eql 22 (vw s) (vw s) : Sem Value).run Try.prog w = .ok (.bool true) w := by
  intro w
  go_simp

def pieT (a0 : Option Addr) (l : List UInt8) (c0 : Nat) (k : Nat) (x1 x2 : Value) : Nat → Ty
  | 35 | 39 | 43 | 48 => .val (.slice a0 l.length c0)
  | 36 | 40 => .val (.int .i64 k)
  | 37 => .val x1
  | 38 => .val (vw (addP 0 (l.take k)))
  | 41 => .val x2
  | 42 | 44 | 47 | 49 => .val (vw (addP 0 l))
  | _ => .val (.bool true)

set_option maxHeartbeats 4000000 in
theorem crcPieces_law (w : World) (a0 : Option Addr) (l : List UInt8) (c0 : Nat) (cut : Int) (h0 : Row w a0 l c0) (hcut : -9223372036854775808 ≤ cut ∧ cut ≤ 9223372036854775807) :
    Calls Try.prog 8 #[.slice a0 l.length c0, .int .i64 cut] w fun e w' => e = .returned (.bool true) ∧ Below w.heap.size w w' := by
  go_enter Try.func8, Try.ntmps8
  go_wp2_with fail
  refine (crcAwake_calls _).mono ?_
  rintro e w1 ⟨rfl, hb1⟩
  have r1 := h0.stay hb1
  clear h0
  by_cases hl : 2000 < l.length
  · go_wp2_with fail
    go_ret
    exact ⟨rfl, hb1⟩
  by_cases h1 : cut < 0
  · go_wp2_with fail
    go_ret
    exact ⟨rfl, hb1⟩
  by_cases h2 : (l.length : Int) < cut
  · go_wp2_with fail
    go_ret
    exact ⟨rfl, hb1⟩
  obtain ⟨k, rfl⟩ : ∃ k : Nat, cut = k := ⟨cut.toNat, by omega⟩
  have hk : k ≤ l.length := by omega
  go_wp2_with fail
  have HK := Lib.hid hk
  generalize decide (l.length < k) = b20
  clear hk hl h1 h2
  go_loopw [5, 6] (fun s i wr => ∃ (t : Nat) (x : List UInt8), Hid (x = l.take t) ∧ t ≤ l.length ∧ i = .int .i64 t ∧ s = vw (addP 0 x) ∧ Below w1.heap.size w1 wr) (fun _ i _ => l.length - (intOf i).toNat)
  case atStart => exact ⟨0, [], rfl, Nat.zero_le _, rfl, awk_v0.symm, Below.refl _ _⟩
  case round =>
    obtain ⟨t, x, HX, ht, rfl, rfl, B⟩ := hrel
    obtain ⟨wo, rfl⟩ : ∃ wo : World, wo = wr := ⟨_, rfl⟩
    have r0 := r1.stay B
    by_cases htl : t < l.length
    · obtain ⟨a1, m, c1, hm, hrun, rm⟩ := r0.part bt.slice bt.sz t (t + 1) (by omega) (by omega)
      have HM : Hid (m = (l.take (t + 1)).drop t) := hm
      rw [show ((t + 1 : Nat) : Int) = (t : Int) + 1 by omega] at hrun
      clear hm
      go_wp2_with fail
      refine (add_calls _ _ _ _ _ rm).mono ?_
      rintro e w2 ⟨rfl, hb2⟩
      go_wp2_with fail
      go_roundw
      case rel =>
        refine ⟨t + 1, x ++ m, ?_, by omega, by go_num, by rw [addP_append], B.trans (hb2.mono B.size)⟩
        rw [Hid, HX.out, HM.out]
        have h3 := List.take_append_drop t (l.take (t + 1))
        rw [List.take_take, Nat.min_eq_left (by omega)] at h3
        exact h3
      case measure => simp [intOf]; omega
    · have hx : x = l := by rw [HX.out, List.take_of_length_le (by omega)]
      subst hx
      obtain ⟨a1, m1, c1, hm1, hrun1, r1⟩ := r0.upto bt.slice bt.sz k HK.out
      obtain ⟨a2, m2, c2, hm2, hrun2, r2⟩ := r0.from_ bt.slice bt.sz k HK.out
      have HM1 := Lib.hid hm1
      have HM2 := Lib.hid hm2
      clear hm1 hm2 HX
      go_wp2_with fail
      refine wp_region_ty (pieT a0 x c0 k (.slice a1 m1.length c1) (.slice a2 m2.length c2)) (by kernel_rfl) (by kernel_rfl) ?_ ?_
      · refine opsAll_cons ?_ (opsAll_cons ?_ (opsAll_cons ?_ (opsAll_cons ?_ (opsAll_cons ?_ (opsAll_cons ?_ (opsAll_cons ?_ (opsAll_cons ?_ (opsAll_cons ?_ (opsAll_cons ?_ (opsAll_cons ?_ (opsAll_cons ?_ (opsAll_cons ?_ (opsAll_cons ?_ (opsAll_cons ?_ (opsAll_cons ?_ (opsAll_cons ?_ (opsAll_cons ?_ opsAll_nil)))))))))))))))))
        all_goals intro a wx hk
        · -- slot 35
          exact ⟨wanted_free rfl, g_move (.tmp 0) rfl (hk.old 0 (by kernel_rfl))⟩
        · -- slot 36
          exact ⟨wanted_free rfl, g_move (.tmp 1) rfl (hk.old 1 (by kernel_rfl))⟩
        · -- slot 37
          exact ⟨wanted_free rfl, g_slice (vl := none) (vm := none) rfl (hk.slot 35 (by kernel_rfl)) rfl (congrArg some (hk.slot 36 (by kernel_rfl))) rfl hrun1 rfl⟩
        · -- slot 38
          exact ⟨wanted_free rfl, g_call hk.below.size rfl (hk.fn _) #[.slice a1 m1.length c1] (fun w => by kernel_rfl) (by simp [show a.eval (.tmp 37) = _ from hk.slot 37 (by kernel_rfl)]) ((sum_calls wx _ _ _ (r1.stay hk.below)).mono fun e w3 ⟨he, hb⟩ => ⟨_, he, hb, by rw [HM1.out]; rfl⟩)⟩
        · -- slot 39
          exact ⟨wanted_free rfl, g_move (.tmp 0) rfl (hk.old 0 (by kernel_rfl))⟩
        · -- slot 40
          exact ⟨wanted_free rfl, g_move (.tmp 1) rfl (hk.old 1 (by kernel_rfl))⟩
        · -- slot 41
          exact ⟨wanted_free rfl, g_slice (vh := none) (vm := none) rfl (hk.slot 39 (by kernel_rfl)) (congrArg some (hk.slot 40 (by kernel_rfl))) rfl rfl hrun2 rfl⟩
        · -- slot 42
          exact ⟨wanted_free rfl, g_call hk.below.size rfl (hk.fn _) #[vw (addP 0 (x.take k)), .slice a2 m2.length c2] (fun w => by kernel_rfl) (by simp [show a.eval (.tmp 38) = _ from hk.slot 38 (by kernel_rfl), show a.eval (.tmp 41) = _ from hk.slot 41 (by kernel_rfl)]) ((add_calls wx _ _ _ _ (r2.stay hk.below)).mono fun e w3 ⟨he, hb⟩ => ⟨_, he, hb, by rw [HM2.out, ← addP_append, List.take_append_drop]; rfl⟩)⟩
        · -- slot 43
          exact ⟨wanted_free rfl, g_move (.tmp 0) rfl (hk.old 0 (by kernel_rfl))⟩
        · -- slot 44
          exact ⟨wanted_free rfl, g_call hk.below.size rfl (hk.fn _) #[.slice a0 x.length c0] (fun w => by kernel_rfl) (by simp [show a.eval (.tmp 43) = _ from hk.slot 43 (by kernel_rfl)]) ((sum_calls wx _ _ _ (r0.stay hk.below)).mono fun e w3 ⟨he, hb⟩ => ⟨_, he, hb, rfl⟩)⟩
        · -- slot 45
          exact ⟨wanted_free rfl, g_bin rfl (hk.slot 42 (by kernel_rfl)) (hk.slot 44 (by kernel_rfl)) (eq_same _) rfl⟩
        · -- slot 46
          exact ⟨wanted_free rfl, g_move (.tmp 45) rfl (hk.slot 45 (by kernel_rfl))⟩
        · -- slot 47
          exact ⟨wanted_by 46 true (by kernel_rfl) (hk.slot 46 (by kernel_rfl)), g_move (.tmp 5) rfl (hk.old 5 (by kernel_rfl))⟩
        · -- slot 48
          exact ⟨wanted_by 46 true (by kernel_rfl) (hk.slot 46 (by kernel_rfl)), g_move (.tmp 0) rfl (hk.old 0 (by kernel_rfl))⟩
        · -- slot 49
          exact ⟨wanted_by 46 true (by kernel_rfl) (hk.slot 46 (by kernel_rfl)), g_call hk.below.size rfl (hk.fn _) #[.slice a0 x.length c0] (fun w => by kernel_rfl) (by simp [show a.eval (.tmp 48) = _ from hk.slot 48 (by kernel_rfl)]) ((sum_calls wx _ _ _ (r0.stay hk.below)).mono fun e w3 ⟨he, hb⟩ => ⟨_, he, hb, rfl⟩)⟩
        · -- slot 50
          exact ⟨wanted_by 46 true (by kernel_rfl) (hk.slot 46 (by kernel_rfl)), g_bin rfl (hk.slot 47 (by kernel_rfl)) (hk.slot 49 (by kernel_rfl)) (eq_same _) rfl⟩
        · -- slot 51
          exact ⟨wanted_free rfl, g_pick rfl true (hk.slot 46 (by kernel_rfl)) (hk.slot 50 (by kernel_rfl))⟩
        · -- slot 4
          exact ⟨wanted_free rfl, g_assign (.tmp 51) rfl (hk.slot 51 (by kernel_rfl))⟩
      · intro a wx hb hsame hall
        have h0 := hall 4 (by kernel_rfl)
        have hd := hsame.1
        clear hall hsame
        rename_i hK
        refine hK a wx ?_
        apply wp_ret
        exact bodyPost_ret (results_tmp rfl _ _ _) hd ⟨congrArg Ending.returned h0, hb1.trans ((B.trans (hb.mono B.size)).mono hb1.size)⟩
end Go.Proofs.Ytbglmglgaobjmaa
