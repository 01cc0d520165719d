/- The reference's Eat: walked. -/
import Derived.Test.YtiemafgnpmoblaaRefShaN
namespace Go.Proofs.Ytiemafgnpmoblaa
open Go Go.RowKit Go.Cit

theorem turn_q (w : World) (x : UInt32) (m : Int) (n : Nat) (hm : m = (n : Int)) (h1 : 1 ≤ n) (h31 : n ≤ 31) :
    Calls Try.prog 57 #[vw x, .int .u64 m] w fun e w' => e = .returned (vw (rotN n x)) ∧ w' = w := by
  subst hm; exact (turn_calls w x n h1 h31).mono fun _ _ ⟨h, k⟩ => ⟨h, k.symm⟩
/-- A round, as the reference reckons it. -/
def rndR (s : S8) (k w : UInt32) : S8 :=
  let t := wAdd (wAdd (wAdd (wAdd s.h (wXor (wXor (rotN 6 s.e) (rotN 11 s.e)) (rotN 25 s.e))) (wOr (wAnd s.e s.f) (wAnd (wNot s.e) s.g))) k) w
  let u := wAdd (wXor (wXor (rotN 2 s.a) (rotN 13 s.a)) (rotN 22 s.a)) (wXor (wXor (wAnd s.a s.b) (wAnd s.a s.c)) (wAnd s.b s.c))
  ⟨wAdd t u, s.a, s.b, s.c, wAdd s.d t, s.e, s.f, s.g⟩
theorem rndR_eq (s : S8) (k w : UInt32) : rndR s k w = s.rnd k w := by
  unfold rndR S8.rnd turnedW threeW
  rw [choice_eq, most_eq]

set_option maxRecDepth 100000 in
set_option maxHeartbeats 4000000 in
theorem refeat_calls (w : World) (a0 : Option Addr) (s : S8) (c0 : Nat) (hs : Vec cw 1 w a0 s.l c0) (a : Option Addr) (b : List UInt8) (c : Nat) (hr : Row w a b c) (hb : b.length = 64) :
    Calls Try.prog 21 #[.slice a0 8 c0, .slice a 64 c] w fun e w' => ∃ a', e = .returned (.slice a' 8 8) ∧ VOwn cw 1 22 w.heap.size w' a' (s.eat kTab b).l 8 ∧ Below w.heap.size w w' := by
  have HBL := Lib.hid hb
  clear hb
  go_enter Try.func21, Try.ntmps21
  go_wp2_with fail
  refine (numbers_calls w a b c hr HBL.out).mono ?_
  rintro e w1 ⟨a1, c1, rfl, hN, hb1⟩
  go_wp2_with fail
  refine (reftable_calls w1).mono ?_
  rintro e w2 ⟨rfl, hK, hb2, hlt2⟩
  have hB2 : Below w.heap.size w w2 := hb1.trans (hb2.mono hb1.size)
  have hs2 := hs.stay cw_len hB2
  have HN2 := Lib.hid ((hN.stay hb2).vec cw_len)
  have HK2 := Lib.hid (hK.vec cw_len)
  have HS := Lib.hid hs2
  have i0 : ∀ w, (Instr.indexAt 33 (.slice a0 8 c0) (.int .i64 0)).run Try.prog w = .ok (.pointer (some (ad a0 0))) w := hs2.index1 wordsT 0 (by simp [S8.l])
  have i1 : ∀ w, (Instr.indexAt 33 (.slice a0 8 c0) (.int .i64 1)).run Try.prog w = .ok (.pointer (some (ad a0 1))) w := hs2.index1 wordsT 1 (by simp [S8.l])
  have i2 : ∀ w, (Instr.indexAt 33 (.slice a0 8 c0) (.int .i64 2)).run Try.prog w = .ok (.pointer (some (ad a0 2))) w := hs2.index1 wordsT 2 (by simp [S8.l])
  have i3 : ∀ w, (Instr.indexAt 33 (.slice a0 8 c0) (.int .i64 3)).run Try.prog w = .ok (.pointer (some (ad a0 3))) w := hs2.index1 wordsT 3 (by simp [S8.l])
  have i4 : ∀ w, (Instr.indexAt 33 (.slice a0 8 c0) (.int .i64 4)).run Try.prog w = .ok (.pointer (some (ad a0 4))) w := hs2.index1 wordsT 4 (by simp [S8.l])
  have i5 : ∀ w, (Instr.indexAt 33 (.slice a0 8 c0) (.int .i64 5)).run Try.prog w = .ok (.pointer (some (ad a0 5))) w := hs2.index1 wordsT 5 (by simp [S8.l])
  have i6 : ∀ w, (Instr.indexAt 33 (.slice a0 8 c0) (.int .i64 6)).run Try.prog w = .ok (.pointer (some (ad a0 6))) w := hs2.index1 wordsT 6 (by simp [S8.l])
  have i7 : ∀ w, (Instr.indexAt 33 (.slice a0 8 c0) (.int .i64 7)).run Try.prog w = .ok (.pointer (some (ad a0 7))) w := hs2.index1 wordsT 7 (by simp [S8.l])
  have HI := Lib.hid (And.intro i0 (And.intro i1 (And.intro i2 (And.intro i3 (And.intro i4 (And.intro i5 (And.intro i6 i7)))))))
  have e0 : ∀ n, ({ w2 with drawn := n } : World).cell? (ad a0 0) = some (vw s.a) := fun _ => hs2.cell1 0 (by simp [S8.l])
  have e1 : ∀ n, ({ w2 with drawn := n } : World).cell? (ad a0 1) = some (vw s.b) := fun _ => hs2.cell1 1 (by simp [S8.l])
  have e2 : ∀ n, ({ w2 with drawn := n } : World).cell? (ad a0 2) = some (vw s.c) := fun _ => hs2.cell1 2 (by simp [S8.l])
  have e3 : ∀ n, ({ w2 with drawn := n } : World).cell? (ad a0 3) = some (vw s.d) := fun _ => hs2.cell1 3 (by simp [S8.l])
  have e4 : ∀ n, ({ w2 with drawn := n } : World).cell? (ad a0 4) = some (vw s.e) := fun _ => hs2.cell1 4 (by simp [S8.l])
  have e5 : ∀ n, ({ w2 with drawn := n } : World).cell? (ad a0 5) = some (vw s.f) := fun _ => hs2.cell1 5 (by simp [S8.l])
  have e6 : ∀ n, ({ w2 with drawn := n } : World).cell? (ad a0 6) = some (vw s.g) := fun _ => hs2.cell1 6 (by simp [S8.l])
  have e7 : ∀ n, ({ w2 with drawn := n } : World).cell? (ad a0 7) = some (vw s.h) := fun _ => hs2.cell1 7 (by simp [S8.l])
  clear hs hN hK hb1 hb2 hlt2 hs2 hr
  go_wp2_with fail
  go_quiet (fail)
  clear i0 i1 i2 i3 i4 i5 i6 i7 e0 e1 e2 e3 e4 e5 e6 e7
  have HW : Below w2.heap.size w2 (w2.drewN nq) := below_drewN _ _ _
  go_wp2_with fail
  have HI1 : Hid (∀ k, k < 64 → ∀ w, (Instr.indexAt 33 (.slice a1 64 c1) (.int .i64 ((k : Nat) : Int))).run Try.prog w = .ok (.pointer (some (ad a1 k))) w) := fun k hk => by
    have := HN2.out.index1 wordsT k (by rw [sched_length]; exact hk)
    rwa [sched_length] at this
  have HI2 : Hid (∀ k, k < 64 → ∀ w, (Instr.indexAt 33 (.slice (some ⟨w1.heap.size, 0, none⟩) 64 64) (.int .i64 ((k : Nat) : Int))).run Try.prog w = .ok (.pointer (some (ad (some ⟨w1.heap.size, 0, none⟩) k))) w) := fun k hk => HK2.out.index1 wordsT k hk
  have B0 : Below w2.heap.size w2 (w2.drewN nq) := HW
  clear HW
  obtain ⟨X, hX⟩ : ∃ X, Hid (X = sched b 64) := ⟨_, rfl⟩
  obtain ⟨K, hK⟩ : ∃ K, Hid (K = kTab) := ⟨_, rfl⟩
  rw [← hX.out] at HN2
  rw [← hK.out] at HK2
  have HXL : Hid (X.length = 64) := by rw [Hid, hX.out, sched_length]
  have HKL : Hid (K.length = 64) := by rw [Hid, hK.out]; rfl
  go_loopw [7, 8, 9, 10, 11, 12, 13, 14, 15] (fun x0 x1 x2 x3 x4 x5 x6 x7 i wr => ∃ (k : Nat) (t : S8), k ≤ 64 ∧ i = .int .i64 k ∧ x0 = vw t.a ∧ x1 = vw t.b ∧ x2 = vw t.c ∧ x3 = vw t.d ∧ x4 = vw t.e ∧ x5 = vw t.f ∧ x6 = vw t.g ∧ x7 = vw t.h ∧ Hid (t = s.rounds K X k) ∧ Below w2.heap.size w2 wr) (fun _ _ _ _ _ _ _ _ i _ => 64 - (intOf i).toNat)
  case atStart => exact ⟨0, s, by omega, rfl, rfl, rfl, rfl, rfl, rfl, rfl, rfl, rfl, rfl, B0⟩
  case round =>
    clear B0
    obtain ⟨k, t, hk, rfl, rfl, rfl, rfl, rfl, rfl, rfl, rfl, rfl, HT, B⟩ := hrel
    by_cases hlt : k < 64
    · have d1 : decide ((k : Int) < 64) = true := by simp; omega
      have i1 := HI1.out k hlt
      have i2 := HI2.out k hlt
      have HNr := HN2.out.stay cw_len B
      have HKr := HK2.out.stay cw_len B
      have e1 : ∀ n, ({ wr with drawn := n } : World).cell? (ad a1 k) = some (vw (X.getD k 0)) := fun _ => by
        have h := HNr.cell1 k (by rw [HXL.out]; exact hlt)
        have h2 : X.getD k 0 = X[k]'(by rw [HXL.out]; exact hlt) := by simp [HXL.out, hlt]
        rw [h2]; exact h
      have e2 : ∀ n, ({ wr with drawn := n } : World).cell? (ad (some ⟨w1.heap.size, 0, none⟩) k) = some (vw (K.getD k 0)) := fun _ => by
        have h := HKr.cell1 k (by rw [HKL.out]; exact hlt)
        have h2 : K.getD k 0 = K[k]'(by rw [HKL.out]; exact hlt) := by simp [HKL.out, hlt]
        rw [h2]; exact h
      have HR : Hid (rndR t (K.getD k 0) (X.getD k 0) = s.rounds K X (k + 1)) := by rw [Hid, rndR_eq, HT.out]; rfl
      obtain ⟨y1, hy1⟩ : ∃ y, X.getD k 0 = y := ⟨_, rfl⟩
      obtain ⟨y2, hy2⟩ : ∃ y, K.getD k 0 = y := ⟨_, rfl⟩
      rw [hy1] at e1
      rw [hy2] at e2
      rw [hy1, hy2] at HR
      clear hy1 hy2 HNr HKr
      go_wp2_with fail
      have wa : ∀ x y : UInt32, IntKind.u32.wrap ((x.toNat : Int) + y.toNat) = ((wAdd x y).toNat : Int) := wrap_w_add
      go_still_tail 29, (by kernel_rfl)
      still_call (turn_q _ t.e 6 6 rfl (by decide) (by decide))
      repeat still_step
      still_call (turn_q _ t.e 11 11 rfl (by decide) (by decide))
      repeat still_step
      still_call (turn_q _ t.e 25 25 rfl (by decide) (by decide))
      repeat still_step
      refine wpStill_nil ?_
      change wpList _ _ _ _ _ wr.drew
      have Bd : Below w2.heap.size w2 wr.drew := B.trans (below_drewN _ _ 1)
      generalize wr.drew = W at Bd ⊢
      go_wp2_with fail
      refine (turn_q _ t.a 2 2 rfl (by decide) (by decide)).mono ?_
      rintro e w3 ⟨rfl, rfl⟩
      go_wp2_with fail
      refine (turn_q _ t.a 13 13 rfl (by decide) (by decide)).mono ?_
      rintro e w3 ⟨rfl, rfl⟩
      go_wp2_with fail
      refine (turn_q _ t.a 22 22 rfl (by decide) (by decide)).mono ?_
      rintro e w3 ⟨rfl, rfl⟩
      go_wp2_with fail
      go_roundw
      case rel => exact ⟨k + 1, rndR t y2 y1, by omega, by go_num, rfl, rfl, rfl, rfl, rfl, rfl, rfl, rfl, HR, Bd⟩
      case measure => simp [intOf]; omega
    · have hk2 : k = 64 := by omega
      have d1 : decide ((k : Int) < 64) = false := by simp; omega
      have hsr := HS.out.stay cw_len B
      obtain ⟨i0, i1, i2, i3, i4, i5, i6, i7⟩ := HI.out
      have e0 : ∀ n, ({ wr with drawn := n } : World).cell? (ad a0 0) = some (vw s.a) := fun _ => hsr.cell1 0 (by simp [S8.l])
      have e1 : ∀ n, ({ wr with drawn := n } : World).cell? (ad a0 1) = some (vw s.b) := fun _ => hsr.cell1 1 (by simp [S8.l])
      have e2 : ∀ n, ({ wr with drawn := n } : World).cell? (ad a0 2) = some (vw s.c) := fun _ => hsr.cell1 2 (by simp [S8.l])
      have e3 : ∀ n, ({ wr with drawn := n } : World).cell? (ad a0 3) = some (vw s.d) := fun _ => hsr.cell1 3 (by simp [S8.l])
      have e4 : ∀ n, ({ wr with drawn := n } : World).cell? (ad a0 4) = some (vw s.e) := fun _ => hsr.cell1 4 (by simp [S8.l])
      have e5 : ∀ n, ({ wr with drawn := n } : World).cell? (ad a0 5) = some (vw s.f) := fun _ => hsr.cell1 5 (by simp [S8.l])
      have e6 : ∀ n, ({ wr with drawn := n } : World).cell? (ad a0 6) = some (vw s.g) := fun _ => hsr.cell1 6 (by simp [S8.l])
      have e7 : ∀ n, ({ wr with drawn := n } : World).cell? (ad a0 7) = some (vw s.h) := fun _ => hsr.cell1 7 (by simp [S8.l])
      have wa : ∀ x y : UInt32, IntKind.u32.wrap ((x.toNat : Int) + y.toNat) = ((wAdd x y).toNat : Int) := wrap_w_add
      have HE : Hid ([wAdd s.a t.a, wAdd s.b t.b, wAdd s.c t.c, wAdd s.d t.d, wAdd s.e t.e, wAdd s.f t.f, wAdd s.g t.g, wAdd s.h t.h] = (s.eat kTab b).l) := by
        rw [Hid, S8.eat, ← hX.out, ← hK.out, ← hk2, ← HT.out]
        simp only [S8.plus, S8.l]
        unfold wAdd
        simp only [UInt32.add_comm]
      clear hk2 hsr
      go_wp2_with fail
      go_still_tail 40, (by kernel_rfl)
      change wpList _ _ _ _ _ wr.drew
      have Bd : Below w2.heap.size w2 wr.drew := B.trans (below_drewN _ _ 1)
      generalize wr.drew = W at Bd ⊢
      go_wp2_with fail
      go_ret
      have hBW : Below w.heap.size w W := hB2.trans (Bd.mono hB2.size)
      refine ⟨some ⟨W.heap.size, 0, none⟩, rfl, ?_, hBW.trans ((Below.refl _ _).alloc hBW.size _)⟩
      rw [← HE.out]
      exact (vown_lit W _ 22 1 _ cw_len (by rw [flat_cw]; rfl) (by simp)).low hBW.size
end Go.Proofs.Ytiemafgnpmoblaa
