/- CrcThree: the exclusive or of three sums of lists as long is the sum of their exclusive or. The walk of the law. -/
import Derived.Test.YtbglmglgaobjmaaCrcAwake
import Derived.Test.YtbglmglgaobjmaaCrcMore
import Derived.Test.YtbglmglgaobjmaaCrcTurned
namespace Go.Proofs.Ytbglmglgaobjmaa
open Go Go.RowKit Go.Cit

theorem rnd_xor (s t : BitVec 32) (x y : UInt8) : rndB (s ^^^ t) (bXor x y) = rndB s x ^^^ rndB t y := by
  unfold rndB
  rw [← stepsB_xor]
  congr 1
  have e : (wOfB (bXor x y)).toBitVec = (wOfB x).toBitVec ^^^ (wOfB y).toBitVec := by
    apply BitVec.eq_of_toNat_eq
    rw [BitVec.toNat_xor]
    show (wOfB (bXor x y)).toNat = (wOfB x).toNat ^^^ (wOfB y).toNat
    simp [wOfB, bXor]
  rw [e, BitVec.xor_assoc, BitVec.xor_assoc]
  congr 1
  rw [← BitVec.xor_assoc, BitVec.xor_comm t, BitVec.xor_assoc]
theorem fold_xor : ∀ (l m : List UInt8) (s t : BitVec 32), l.length = m.length → (xorL l m).foldl rndB (s ^^^ t) = l.foldl rndB s ^^^ m.foldl rndB t
  | [], [], _, _, _ => rfl
  | x :: l, y :: m, s, t, h => by
    have h2 : l.length = m.length := by simpa using h
    show (xorL l m).foldl rndB (rndB (s ^^^ t) (bXor x y)) = _
    rw [rnd_xor, fold_xor l m _ _ h2]; rfl
theorem xorL_take (l m : List UInt8) (n : Nat) : (xorL l m).take n = xorL (l.take n) (m.take n) := by
  simp [xorL, List.take_zipWith]

theorem sum_three (l m r : List UInt8) (h : l.length = m.length) (h2 : m.length = r.length) : wXor (wXor (addP 0 l) (addP 0 m)) (addP 0 r) = addP 0 (xorL (xorL l m) r) := by
  apply UInt32.eq_of_toBitVec_eq
  show ((addP 0 l).toBitVec ^^^ (addP 0 m).toBitVec) ^^^ (addP 0 r).toBitVec = _
  rw [addP_bv, addP_bv, addP_bv, addP_bv]
  have h0 : ~~~ (0 : UInt32).toBitVec = (~~~ (0 : UInt32).toBitVec ^^^ ~~~ (0 : UInt32).toBitVec) ^^^ ~~~ (0 : UInt32).toBitVec := by decide +kernel
  have h3 : (xorL (xorL l m) r).foldl rndB (~~~ (0 : UInt32).toBitVec) = (l.foldl rndB (~~~ (0 : UInt32).toBitVec) ^^^ m.foldl rndB (~~~ (0 : UInt32).toBitVec)) ^^^ r.foldl rndB (~~~ (0 : UInt32).toBitVec) := by
    rw [← fold_xor l m _ _ h, ← fold_xor (xorL l m) r _ _ (by rw [xorL_length]; omega), ← h0]
  rw [h3]
  generalize l.foldl rndB (~~~ (0 : UInt32).toBitVec) = A
  generalize m.foldl rndB (~~~ (0 : UInt32).toBitVec) = B
  generalize r.foldl rndB (~~~ (0 : UInt32).toBitVec) = C
  rw [← BitVec.xor_allOnes, ← BitVec.xor_allOnes, ← BitVec.xor_allOnes, ← BitVec.xor_allOnes]
  apply BitVec.eq_of_getLsbD_eq
  intro i hi
  simp only [BitVec.getLsbD_xor, BitVec.getLsbD_allOnes, hi, decide_true]
  cases A.getLsbD i <;> cases B.getLsbD i <;> cases C.getLsbD i <;> rfl

theorem xor_run {x y : Operand} (s t : UInt32) : ∀ w : World, (do eqGuard .xor 22 x y (vw s) (vw t); binOp .xor 22 (vw s) (vw t) : Sem Value).run Try.prog w = .ok (vw (wXor s t)) w := by
  intro w
  go_simp
theorem eq_by {x y : Operand} (s t : UInt32) (h : s = t) : ∀ w : World, (do eqGuard .eql 22 x y (vw s) (vw t); binOp .eql 22 (vw s) (vw t) : Sem Value).run Try.prog w = .ok (.bool true) w := by
  subst h
  intro w
  go_simp

def threeT (v0 v1 v2 vx y1 y2 y3 : Value) (n : Nat) (l m r X : List UInt8) : Nat → Ty
  | 47 => .val v0
  | 51 => .val v1
  | 56 => .val v2
  | 61 => .val vx
  | 48 | 52 | 57 => .val (.int .i64 n)
  | 49 => .val y1
  | 53 => .val y2
  | 58 => .val y3
  | 50 => .val (vw (addP 0 l))
  | 54 => .val (vw (addP 0 m))
  | 59 => .val (vw (addP 0 r))
  | 55 => .val (vw (wXor (addP 0 l) (addP 0 m)))
  | 60 => .val (vw (wXor (wXor (addP 0 l) (addP 0 m)) (addP 0 r)))
  | 62 => .val (vw (addP 0 X))
  | _ => .val (.bool true)

set_option maxHeartbeats 4000000 in
theorem crcThree_law (w : World) (a0 : Option Addr) (l : List UInt8) (c0 : Nat) (a1 : Option Addr) (m : List UInt8) (c1 : Nat) (a2 : Option Addr) (r : List UInt8) (c2 : Nat) (h0 : Row w a0 l c0) (h1 : Row w a1 m c1) (h2 : Row w a2 r c2) :
    Calls Try.prog 10 #[.slice a0 l.length c0, .slice a1 m.length c1, .slice a2 r.length c2] w fun e w' => e = .returned (.bool true) ∧ Below w.heap.size w w' := by
  go_enter Try.func10, Try.ntmps10
  go_wp2_with fail
  refine (crcAwake_calls _).mono ?_
  rintro e w1 ⟨rfl, hb1⟩
  have r0 := h0.stay hb1
  have r1 := h1.stay hb1
  have r2 := h2.stay hb1
  clear h0 h1 h2
  by_cases g0 : 1000 < l.length
  · go_wp2_with fail
    go_ret
    exact ⟨rfl, hb1⟩
  by_cases g1 : 1000 < m.length
  · go_wp2_with fail
    go_ret
    exact ⟨rfl, hb1⟩
  by_cases g2 : 1000 < r.length
  · go_wp2_with fail
    go_ret
    exact ⟨rfl, hb1⟩
  go_wp2_with fail
  refine (turned_calls _ _ _ _ _ _ _ r0 r1 (by omega)).mono ?_
  rintro e w2 ⟨ay, Y, cy, HY, rfl, hmy, hb2⟩
  have hYl : Y.length ≤ l.length := by rw [HY.out, xorL_length]; omega
  have hYm : Y.length ≤ m.length := by rw [HY.out, xorL_length]; omega
  go_wp2_with fail
  refine (turned_calls _ _ _ _ _ _ _ hmy.row (r2.stay hb2) (by omega)).mono ?_
  rintro e w3 ⟨ax, X, cx, HX, rfl, hmx, hb3⟩
  have hXY : X.length ≤ Y.length := by rw [HX.out, xorL_length]; omega
  have hXr : X.length ≤ r.length := by rw [HX.out, xorL_length]; omega
  have hXl : X.length ≤ l.length := by omega
  have hXm : X.length ≤ m.length := by omega
  have B3 : Below w1.heap.size w1 w3 := hb2.trans (hb3.mono hb2.size)
  have rx := hmx.row
  obtain ⟨b1, m1, d1, hm1, run1, s1⟩ := (r0.stay B3).upto bt.slice bt.sz X.length hXl
  obtain ⟨b2, m2, d2, hm2, run2, s2⟩ := (r1.stay B3).upto bt.slice bt.sz X.length hXm
  obtain ⟨b3, m3, d3, hm3, run3, s3⟩ := (r2.stay B3).upto bt.slice bt.sz X.length hXr
  have HE : Hid (wXor (wXor (addP 0 m1) (addP 0 m2)) (addP 0 m3) = addP 0 X) := by
    have h3 : X = xorL (xorL m1 m2) m3 := by
      rw [hm1, hm2, hm3, ← xorL_take, ← xorL_take, ← HY.out, ← HX.out, List.take_length]
    rw [Hid, sum_three m1 m2 m3 (by rw [hm1, hm2, List.length_take, List.length_take]; omega) (by rw [hm2, hm3, List.length_take, List.length_take]; omega), ← h3]
  clear hm1 hm2 hm3 HX HY hmy hmx
  go_wp2_with fail
  refine wp_region_ty (threeT (.slice a0 l.length c0) (.slice a1 m.length c1) (.slice a2 r.length c2) (.slice ax X.length cx) (.slice b1 m1.length d1) (.slice b2 m2.length d2) (.slice b3 m3.length d3) X.length m1 m2 m3 X) (by kernel_rfl) (by kernel_rfl) ?_ ?_
  · refine opsAll_cons ?_ (opsAll_cons ?_ (opsAll_cons ?_ (opsAll_cons ?_ (opsAll_cons ?_ (opsAll_cons ?_ (opsAll_cons ?_ (opsAll_cons ?_ (opsAll_cons ?_ (opsAll_cons ?_ (opsAll_cons ?_ (opsAll_cons ?_ (opsAll_cons ?_ (opsAll_cons ?_ (opsAll_cons ?_ (opsAll_cons ?_ (opsAll_cons ?_ (opsAll_cons ?_ opsAll_nil)))))))))))))))))
    all_goals intro a wx hk
    · -- slot 47
      exact ⟨wanted_free rfl, g_move (.tmp 0) rfl (hk.old 0 (by kernel_rfl))⟩
    · -- slot 48
      exact ⟨wanted_free rfl, g_move (.tmp 8) rfl (hk.old 8 (by kernel_rfl))⟩
    · -- slot 49
      exact ⟨wanted_free rfl, g_slice (vl := none) (vm := none) rfl (hk.slot 47 (by kernel_rfl)) rfl (congrArg some (hk.slot 48 (by kernel_rfl))) rfl run1 rfl⟩
    · -- slot 50
      exact ⟨wanted_free rfl, g_call hk.below.size rfl (hk.fn _) #[.slice b1 m1.length d1] (fun w => by kernel_rfl) (by simp [show a.eval (.tmp 49) = _ from hk.slot 49 (by kernel_rfl)]) ((sum_calls wx _ _ _ (s1.stay hk.below)).mono fun e w3 ⟨he, hb⟩ => ⟨_, he, hb, rfl⟩)⟩
    · -- slot 51
      exact ⟨wanted_free rfl, g_move (.tmp 1) rfl (hk.old 1 (by kernel_rfl))⟩
    · -- slot 52
      exact ⟨wanted_free rfl, g_move (.tmp 8) rfl (hk.old 8 (by kernel_rfl))⟩
    · -- slot 53
      exact ⟨wanted_free rfl, g_slice (vl := none) (vm := none) rfl (hk.slot 51 (by kernel_rfl)) rfl (congrArg some (hk.slot 52 (by kernel_rfl))) rfl run2 rfl⟩
    · -- slot 54
      exact ⟨wanted_free rfl, g_call hk.below.size rfl (hk.fn _) #[.slice b2 m2.length d2] (fun w => by kernel_rfl) (by simp [show a.eval (.tmp 53) = _ from hk.slot 53 (by kernel_rfl)]) ((sum_calls wx _ _ _ (s2.stay hk.below)).mono fun e w3 ⟨he, hb⟩ => ⟨_, he, hb, rfl⟩)⟩
    · -- slot 55
      exact ⟨wanted_free rfl, g_bin rfl (hk.slot 50 (by kernel_rfl)) (hk.slot 54 (by kernel_rfl)) (xor_run _ _) rfl⟩
    · -- slot 56
      exact ⟨wanted_free rfl, g_move (.tmp 2) rfl (hk.old 2 (by kernel_rfl))⟩
    · -- slot 57
      exact ⟨wanted_free rfl, g_move (.tmp 8) rfl (hk.old 8 (by kernel_rfl))⟩
    · -- slot 58
      exact ⟨wanted_free rfl, g_slice (vl := none) (vm := none) rfl (hk.slot 56 (by kernel_rfl)) rfl (congrArg some (hk.slot 57 (by kernel_rfl))) rfl run3 rfl⟩
    · -- slot 59
      exact ⟨wanted_free rfl, g_call hk.below.size rfl (hk.fn _) #[.slice b3 m3.length d3] (fun w => by kernel_rfl) (by simp [show a.eval (.tmp 58) = _ from hk.slot 58 (by kernel_rfl)]) ((sum_calls wx _ _ _ (s3.stay hk.below)).mono fun e w3 ⟨he, hb⟩ => ⟨_, he, hb, rfl⟩)⟩
    · -- slot 60
      exact ⟨wanted_free rfl, g_bin rfl (hk.slot 55 (by kernel_rfl)) (hk.slot 59 (by kernel_rfl)) (xor_run _ _) rfl⟩
    · -- slot 61
      exact ⟨wanted_free rfl, g_move (.tmp 7) rfl (hk.old 7 (by kernel_rfl))⟩
    · -- slot 62
      exact ⟨wanted_free rfl, g_call hk.below.size rfl (hk.fn _) #[.slice ax X.length cx] (fun w => by kernel_rfl) (by simp [show a.eval (.tmp 61) = _ from hk.slot 61 (by kernel_rfl)]) ((sum_calls wx _ _ _ (rx.stay hk.below)).mono fun e w3 ⟨he, hb⟩ => ⟨_, he, hb, rfl⟩)⟩
    · -- slot 63
      exact ⟨wanted_free rfl, g_bin rfl (hk.slot 60 (by kernel_rfl)) (hk.slot 62 (by kernel_rfl)) (eq_by _ _ HE.out) rfl⟩
    · -- slot 6
      exact ⟨wanted_free rfl, g_assign (.tmp 63) rfl (hk.slot 63 (by kernel_rfl))⟩
  · intro a wx hb hsame hall
    have h0 := hall 6 (by kernel_rfl)
    have hd := hsame.1
    clear hall hsame
    rename_i hK
    refine hK a wx ?_
    apply wp_ret
    exact bodyPost_ret (results_tmp rfl _ _ _) hd ⟨congrArg Ending.returned h0, hb1.trans ((B3.trans (hb.mono B3.size)).mono hb1.size)⟩
end Go.Proofs.Ytbglmglgaobjmaa
