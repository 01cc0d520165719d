/- Four bytes, one behind the other, otherwise: another sum. The plain law, no condition. -/
import Derived.Test.YtbglmglgaobjmaaCrcMore
namespace Go.Cit

theorem steps_zero : ∀ n, stepsB n 0#32 = 0#32
  | 0 => rfl
  | n + 1 => by rw [stepsB, show stepB 0#32 = 0#32 from by decide +kernel, steps_zero n]
theorem wOfB_bit (x : UInt8) (i : Nat) (h : 8 ≤ i) : (wOfB x).toBitVec.getLsbD i = false := by
  show ((wOfB x).toNat).testBit i = false
  apply Nat.testBit_lt_two_pow
  have h1 : (wOfB x).toNat < 256 := by simp [wOfB]; exact x.toNat_lt
  exact Nat.lt_of_lt_of_le h1 (Nat.pow_le_pow_right (by decide : 2 > 0) h)
/-- A byte shifted up is, n rounds on, the byte. -/
theorem steps_up (x : UInt8) (n : Nat) (h : n ≤ 24) : stepsB n ((wOfB x).toBitVec <<< n) = (wOfB x).toBitVec := by
  rw [stepsB_high n _ (fun i hi => by rw [BitVec.getLsbD_shiftLeft]; simp [hi])]
  apply BitVec.eq_of_getLsbD_eq
  intro i hi
  rw [BitVec.getLsbD_ushiftRight, BitVec.getLsbD_shiftLeft]
  by_cases h8 : i < 8
  · simp [show n + i < 32 by omega]
  · rw [wOfB_bit x i (by omega)]
    by_cases h32 : n + i < 32
    · simp [wOfB_bit x i (by omega)]
    · simp [h32]
/-- Four rounds are 32 steps of the word. -/
def wordB (x0 x1 x2 x3 : UInt8) : BitVec 32 := (wOfB x0).toBitVec ^^^ ((wOfB x1).toBitVec <<< 8) ^^^ ((wOfB x2).toBitVec <<< 16) ^^^ ((wOfB x3).toBitVec <<< 24)
theorem four_rounds (s : BitVec 32) (x0 x1 x2 x3 : UInt8) : [x0, x1, x2, x3].foldl rndB s = stepsB 32 (s ^^^ wordB x0 x1 x2 x3) := by
  show rndB (rndB (rndB (rndB s x0) x1) x2) x3 = _
  have h1 : rndB (rndB s x0) x1 = stepsB 16 (s ^^^ (wOfB x0).toBitVec ^^^ ((wOfB x1).toBitVec <<< 8)) := by
    rw [show (16 : Nat) = 8 + 8 from rfl, stepsB_add, stepsB_xor 8 (s ^^^ _), steps_up x1 8 (by decide)]; rfl
  have h2 : rndB (rndB (rndB s x0) x1) x2 = stepsB 24 (s ^^^ (wOfB x0).toBitVec ^^^ ((wOfB x1).toBitVec <<< 8) ^^^ ((wOfB x2).toBitVec <<< 16)) := by
    rw [h1, show (24 : Nat) = 16 + 8 from rfl, stepsB_add, stepsB_xor 16 (s ^^^ _ ^^^ _), steps_up x2 16 (by decide)]; rfl
  have e : s ^^^ wordB x0 x1 x2 x3 = (s ^^^ (wOfB x0).toBitVec ^^^ ((wOfB x1).toBitVec <<< 8) ^^^ ((wOfB x2).toBitVec <<< 16)) ^^^ ((wOfB x3).toBitVec <<< 24) := by
    unfold wordB; simp only [BitVec.xor_assoc]
  rw [e, h2, show stepsB 32 = stepsB (24 + 8) from rfl, stepsB_add, stepsB_xor 24 (s ^^^ _ ^^^ _ ^^^ _), steps_up x3 24 (by decide)]; rfl
theorem wordB_bit (x0 x1 x2 x3 : UInt8) (i : Nat) (hi : i < 8) : (wordB x0 x1 x2 x3).getLsbD i = (wOfB x0).toBitVec.getLsbD i ∧ (wordB x0 x1 x2 x3).getLsbD (8 + i) = (wOfB x1).toBitVec.getLsbD i ∧ (wordB x0 x1 x2 x3).getLsbD (16 + i) = (wOfB x2).toBitVec.getLsbD i ∧ (wordB x0 x1 x2 x3).getLsbD (24 + i) = (wOfB x3).toBitVec.getLsbD i := by
  unfold wordB
  have b0 := fun j (h : 8 ≤ j) => wOfB_bit x0 j h
  have b1 := fun j (h : 8 ≤ j) => wOfB_bit x1 j h
  have b2 := fun j (h : 8 ≤ j) => wOfB_bit x2 j h
  refine ⟨?_, ?_, ?_, ?_⟩
  · simp only [BitVec.getLsbD_xor, BitVec.getLsbD_shiftLeft, hi, show i < 16 by omega, show i < 24 by omega, decide_true, Bool.not_true, Bool.and_false, Bool.false_and, Bool.xor_false]
  · simp only [BitVec.getLsbD_xor, BitVec.getLsbD_shiftLeft, show 8 + i < 32 by omega, show ¬ 8 + i < 8 by omega, show 8 + i < 16 by omega, show 8 + i < 24 by omega, b0 (8 + i) (by omega), decide_true, decide_false, Bool.not_true, Bool.not_false, Bool.and_false, Bool.false_and, Bool.true_and, Bool.xor_false, Bool.false_xor, show 8 + i - 8 = i by omega]
  · simp only [BitVec.getLsbD_xor, BitVec.getLsbD_shiftLeft, show 16 + i < 32 by omega, show ¬ 16 + i < 8 by omega, show ¬ 16 + i < 16 by omega, show 16 + i < 24 by omega, b0 (16 + i) (by omega), b1 (16 + i - 8) (by omega), decide_true, decide_false, Bool.not_true, Bool.not_false, Bool.and_false, Bool.false_and, Bool.true_and, Bool.xor_false, Bool.false_xor, show 16 + i - 16 = i by omega]
  · simp only [BitVec.getLsbD_xor, BitVec.getLsbD_shiftLeft, show 24 + i < 32 by omega, show ¬ 24 + i < 8 by omega, show ¬ 24 + i < 16 by omega, show ¬ 24 + i < 24 by omega, b0 (24 + i) (by omega), b1 (24 + i - 8) (by omega), b2 (24 + i - 16) (by omega), decide_true, decide_false, Bool.not_true, Bool.not_false, Bool.and_false, Bool.false_and, Bool.true_and, Bool.xor_false, Bool.false_xor, show 24 + i - 24 = i by omega]
theorem byte_zero {x : UInt8} (h : ∀ i, i < 8 → (wOfB x).toBitVec.getLsbD i = false) : x = 0 := by
  apply wOfB_inj
  apply UInt32.eq_of_toBitVec_eq
  apply BitVec.eq_of_getLsbD_eq
  intro i hi
  have hz : (wOfB 0).toBitVec.getLsbD i = false := by rw [show (wOfB 0).toBitVec = 0#32 from by decide +kernel]; simp
  rw [hz]
  by_cases h8 : i < 8
  · exact h i h8
  · exact wOfB_bit x i (by omega)
theorem word_zero {x0 x1 x2 x3 : UInt8} (h : wordB x0 x1 x2 x3 = 0#32) : x0 = 0 ∧ x1 = 0 ∧ x2 = 0 ∧ x3 = 0 := by
  refine ⟨byte_zero fun i hi => ?_, byte_zero fun i hi => ?_, byte_zero fun i hi => ?_, byte_zero fun i hi => ?_⟩
  · rw [← (wordB_bit x0 x1 x2 x3 i hi).1, h]; simp
  · rw [← (wordB_bit x0 x1 x2 x3 i hi).2.1, h]; simp
  · rw [← (wordB_bit x0 x1 x2 x3 i hi).2.2.1, h]; simp
  · rw [← (wordB_bit x0 x1 x2 x3 i hi).2.2.2, h]; simp

/-- Two lists that differ within four bytes have one sum just if they don't differ. -/
theorem sum_four (p q : List UInt8) (y0 y1 y2 y3 x0 x1 x2 x3 : UInt8) :
    addP 0 (p ++ ([y0, y1, y2, y3] ++ q)) = addP 0 (p ++ ([bXor y0 x0, bXor y1 x1, bXor y2 x2, bXor y3 x3] ++ q)) → x0 = 0 ∧ x1 = 0 ∧ x2 = 0 ∧ x3 = 0 := by
  intro h
  have h1 := addP_state h
  rw [List.foldl_append, List.foldl_append, List.foldl_append, List.foldl_append] at h1
  have h2 := fold_inj q h1
  rw [four_rounds, four_rounds] at h2
  have h3 := stepsB_inj 32 h2
  generalize p.foldl rndB (~~~ (0 : UInt32).toBitVec) = s at h3
  have e : ∀ x y : UInt8, (wOfB (bXor x y)).toBitVec = (wOfB x).toBitVec ^^^ (wOfB y).toBitVec := by
    intro x y
    apply BitVec.eq_of_toNat_eq
    rw [BitVec.toNat_xor]
    show (wOfB (bXor x y)).toNat = (wOfB x).toNat ^^^ (wOfB y).toNat
    simp [wOfB, bXor]
  have e2 : wordB (bXor y0 x0) (bXor y1 x1) (bXor y2 x2) (bXor y3 x3) = wordB y0 y1 y2 y3 ^^^ wordB x0 x1 x2 x3 := by
    unfold wordB
    rw [e, e, e, e, BitVec.shiftLeft_xor_distrib, BitVec.shiftLeft_xor_distrib, BitVec.shiftLeft_xor_distrib]
    generalize (wOfB y0).toBitVec = A0
    generalize (wOfB y1).toBitVec <<< 8 = A1
    generalize (wOfB y2).toBitVec <<< 16 = A2
    generalize (wOfB y3).toBitVec <<< 24 = A3
    generalize (wOfB x0).toBitVec = B0
    generalize (wOfB x1).toBitVec <<< 8 = B1
    generalize (wOfB x2).toBitVec <<< 16 = B2
    generalize (wOfB x3).toBitVec <<< 24 = B3
    ac_rfl
  rw [e2, ← BitVec.xor_assoc] at h3
  generalize s ^^^ wordB y0 y1 y2 y3 = z at h3
  apply word_zero
  have h4 : z ^^^ z = z ^^^ (z ^^^ wordB x0 x1 x2 x3) := by rw [← h3]
  rw [BitVec.xor_self, ← BitVec.xor_assoc, BitVec.xor_self, BitVec.zero_xor] at h4
  exact h4.symm
end Go.Cit
