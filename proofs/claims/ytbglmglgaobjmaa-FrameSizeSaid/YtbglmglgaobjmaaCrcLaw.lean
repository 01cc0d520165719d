/- The two ways of summing are one: the plain law. No condition. -/
import Derived.Test.YtbglmglgaobjmaaCrcDef
namespace Go.Cit

abbrev polyB : BitVec 32 := 0xedb88320#32
def stepB (b : BitVec 32) : BitVec 32 := (b >>> 1) ^^^ (if b.getLsbD 0 then polyB else 0#32)
def stepsB : Nat → BitVec 32 → BitVec 32
  | 0, b => b
  | n + 1, b => stepsB n (stepB b)

theorem stepB_xor (x y : BitVec 32) : stepB (x ^^^ y) = stepB x ^^^ stepB y := by
  unfold stepB
  rw [BitVec.ushiftRight_xor_distrib, BitVec.getLsbD_xor]
  generalize x >>> 1 = a
  generalize y >>> 1 = b
  cases x.getLsbD 0 <;> cases y.getLsbD 0
  · show a ^^^ b ^^^ 0#32 = a ^^^ 0#32 ^^^ (b ^^^ 0#32); simp
  · show a ^^^ b ^^^ polyB = a ^^^ 0#32 ^^^ (b ^^^ polyB); simp [BitVec.xor_assoc]
  · show a ^^^ b ^^^ polyB = a ^^^ polyB ^^^ (b ^^^ 0#32); rw [BitVec.xor_zero, BitVec.xor_assoc, BitVec.xor_assoc, BitVec.xor_comm b]
  · show a ^^^ b ^^^ 0#32 = a ^^^ polyB ^^^ (b ^^^ polyB); rw [BitVec.xor_zero, BitVec.xor_assoc, BitVec.xor_comm b, ← BitVec.xor_assoc polyB, BitVec.xor_self, BitVec.zero_xor]
theorem stepsB_xor : ∀ (n : Nat) (x y : BitVec 32), stepsB n (x ^^^ y) = stepsB n x ^^^ stepsB n y
  | 0, _, _ => rfl
  | n + 1, x, y => by rw [stepsB, stepB_xor, stepsB_xor n]; rfl

theorem stepsB_high : ∀ (n : Nat) (x : BitVec 32), (∀ i, i < n → x.getLsbD i = false) → stepsB n x = x >>> n
  | 0, x, _ => by simp [stepsB]
  | n + 1, x, h => by
    have h0 : stepB x = x >>> 1 := by unfold stepB; rw [h 0 (by omega)]; simp
    rw [stepsB, h0, stepsB_high n (x >>> 1) (fun i hi => by rw [BitVec.getLsbD_ushiftRight]; exact h (1 + i) (by omega)), ← BitVec.shiftRight_add, Nat.add_comm]

theorem low_bits (c : BitVec 32) : (c >>> 4 <<< 4) ^^^ (c &&& 15#32) = c := by
  apply BitVec.eq_of_getLsbD_eq
  intro i hi
  have h15 : (15#32).getLsbD i = decide (i < 4) := by
    have : ∀ j : Fin 32, (15#32).getLsbD j.1 = decide (j.1 < 4) := by decide
    exact this ⟨i, hi⟩
  rw [BitVec.getLsbD_xor, BitVec.getLsbD_and, h15, BitVec.getLsbD_shiftLeft, BitVec.getLsbD_ushiftRight]
  by_cases h : i < 4
  · simp [h]
  · simp [h, hi, show 4 + (i - 4) = i from by omega]

theorem stepsB_half (c : BitVec 32) : stepsB 4 c = (c >>> 4) ^^^ stepsB 4 (c &&& 15#32) := by
  have e : stepsB 4 c = stepsB 4 ((c >>> 4 <<< 4) ^^^ (c &&& 15#32)) := by rw [low_bits c]
  rw [e, stepsB_xor, stepsB_high 4 (c >>> 4 <<< 4) (fun i hi => by rw [BitVec.getLsbD_shiftLeft]; simp [hi])]
  congr 1
  apply BitVec.eq_of_getLsbD_eq
  intro i hi
  rw [BitVec.getLsbD_ushiftRight, BitVec.getLsbD_shiftLeft, BitVec.getLsbD_ushiftRight, BitVec.getLsbD_ushiftRight]
  by_cases h : 4 + i < 32
  · simp [h]
  · simp [h]; rw [BitVec.getLsbD_of_ge _ _ (by omega)]

/-! The walk's words against these. -/
theorem wDiv2 (c : UInt32) : (wDiv c (wI 2)).toBitVec = c.toBitVec >>> 1 := by
  apply BitVec.eq_of_toNat_eq
  show (c / UInt32.ofNat 2).toNat = _
  rw [UInt32.toNat_div, BitVec.toNat_ushiftRight, Nat.shiftRight_eq_div_pow]; rfl
theorem wDiv16 (c : UInt32) : (wDiv c (wI 16)).toBitVec = c.toBitVec >>> 4 := by
  apply BitVec.eq_of_toNat_eq
  show (c / UInt32.ofNat 16).toNat = _
  rw [UInt32.toNat_div, BitVec.toNat_ushiftRight, Nat.shiftRight_eq_div_pow]; rfl
theorem wMod16_bv (c : UInt32) : (wMod c (wI 16)).toBitVec = c.toBitVec &&& 15#32 := by
  apply BitVec.eq_of_toNat_eq
  show (c % UInt32.ofNat 16).toNat = _
  rw [UInt32.toNat_mod, BitVec.toNat_and]
  exact (Nat.and_two_pow_sub_one_eq_mod c.toNat 4).symm
theorem wMod2_beq (c : UInt32) : (wMod c (wI 2) == wI 1) = c.toBitVec.getLsbD 0 := by
  have e : wMod c (wI 2) = UInt32.ofNat (c.toNat % 2) := by
    apply UInt32.toNat_inj.1
    show (c % UInt32.ofNat 2).toNat = _
    rw [UInt32.toNat_mod, UInt32.toNat_ofNat_of_lt' (show c.toNat % 2 < 4294967296 by omega)]; rfl
  have g : c.toBitVec.getLsbD 0 = decide (c.toNat % 2 = 1) := by
    show Nat.testBit c.toNat 0 = _
    rw [Nat.testBit_zero]
  rw [e, g]
  rcases Nat.mod_two_eq_zero_or_one c.toNat with h | h <;> rw [h] <;> decide
theorem wAnd1 (c : UInt32) : wAnd c (wI 1) = if c.toBitVec.getLsbD 0 then 1 else 0 := by
  have g : c.toBitVec.getLsbD 0 = decide (c.toNat % 2 = 1) := by
    show Nat.testBit c.toNat 0 = _
    rw [Nat.testBit_zero]
  apply UInt32.toNat_inj.1
  show (c &&& UInt32.ofNat 1).toNat = _
  rw [UInt32.toNat_and, g]
  show c.toNat &&& 1 = _
  rw [Nat.and_one_is_mod]
  rcases Nat.mod_two_eq_zero_or_one c.toNat with h | h <;> rw [h] <;> decide

theorem bitR_bv (c : UInt32) : (bitR c).toBitVec = stepB c.toBitVec := by
  unfold bitR stepB
  rw [wMod2_beq, ← wDiv2]
  cases c.toBitVec.getLsbD 0
  · simp
  · rfl
theorem bitP_bv (c : UInt32) : (bitP c).toBitVec = stepB c.toBitVec := by
  unfold bitP stepB
  rw [wAnd1, ← wDiv2]
  cases c.toBitVec.getLsbD 0
  · show (wDiv c (wI 2)).toBitVec ^^^ (wMul (wI 0xedb88320) 0).toBitVec = _
    congr 1
  · show (wDiv c (wI 2)).toBitVec ^^^ (wMul (wI 0xedb88320) 1).toBitVec = _
    congr 1
theorem bitsR_bv : ∀ (n : Nat) (c : UInt32), (bitsR n c).toBitVec = stepsB n c.toBitVec
  | 0, _ => rfl
  | n + 1, c => by rw [bitsR, bitsR_bv n, bitR_bv]; rfl
theorem bitsP_bv : ∀ (n : Nat) (c : UInt32), (bitsP n c).toBitVec = stepsB n c.toBitVec
  | 0, _ => rfl
  | n + 1, c => by rw [bitsP, bitsP_bv n, bitP_bv]; rfl
theorem stepsB_add : ∀ (m n : Nat) (b : BitVec 32), stepsB (m + n) b = stepsB n (stepsB m b)
  | 0, n, b => by simp [stepsB]
  | m + 1, n, b => by rw [Nat.add_right_comm, stepsB, stepsB_add m n]; rfl
theorem halfP_bv (c : UInt32) : (halfP c).toBitVec = stepsB 4 c.toBitVec := by
  rw [stepsB_half]
  show (wDiv c (wI 16)).toBitVec ^^^ (bitsP 4 (wMod c (wI 16))).toBitVec = _
  rw [wDiv16, bitsP_bv, wMod16_bv]
theorem byteP_bv (c : UInt32) (x : UInt8) : (byteP c x).toBitVec = stepsB 8 (wXor c (wOfB x)).toBitVec := by
  rw [byteP, halfP_bv, halfP_bv, ← stepsB_add]
theorem byteR_bv (c : UInt32) (x : UInt8) : (byteR c x).toBitVec = stepsB 8 (wXor c (wOfB x)).toBitVec := bitsR_bv 8 _
theorem byteP_eq (c : UInt32) (x : UInt8) : byteP c x = byteR c x := UInt32.eq_of_toBitVec_eq (by rw [byteP_bv, byteR_bv])
theorem wXor_ff (c : UInt32) : wXor c (wI 0xffffffff) = wNot c := by
  apply UInt32.eq_of_toBitVec_eq
  show c.toBitVec ^^^ 0xffffffff#32 = ~~~ c.toBitVec
  exact BitVec.xor_allOnes
theorem addP_eq (c : UInt32) (l : List UInt8) : addP c l = addR c l := by
  unfold addP addR
  rw [wXor_ff, wXor_ff, show byteP = byteR from funext fun c => funext fun x => byteP_eq c x]
end Go.Cit
