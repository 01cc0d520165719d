/- The sum of bytes: it goes on piece by piece; it is linear; unlike words give unlike sums. The plain law, no condition. -/
import Derived.Test.YtbglmglgaobjmaaCrcLaw
namespace Go.Cit

theorem wNot_wNot (c : UInt32) : wNot (wNot c) = c := by
  apply UInt32.eq_of_toBitVec_eq
  show ~~~ (~~~ c.toBitVec) = c.toBitVec
  simp
theorem wNot_inj {c d : UInt32} (h : wNot c = wNot d) : c = d := by rw [← wNot_wNot c, h, wNot_wNot]
theorem addP_append (c : UInt32) (l m : List UInt8) : addP c (l ++ m) = addP (addP c l) m := by
  unfold addP; rw [List.foldl_append, wNot_wNot]

theorem stepB_zero {z : BitVec 32} (h : stepB z = 0#32) : z = 0#32 := by
  have hb : ∀ i, i < 32 → (stepB z).getLsbD i = false := fun i _ => by rw [h]; simp
  unfold stepB at hb
  cases h0 : z.getLsbD 0
  · rw [h0] at hb
    apply BitVec.eq_of_getLsbD_eq
    intro i hi
    cases i with
    | zero => rw [h0]; simp
    | succ i =>
      have := hb i (by omega)
      rw [BitVec.getLsbD_xor, BitVec.getLsbD_ushiftRight] at this
      simp at this
      rw [Nat.add_comm i 1, this]; simp
  · rw [h0] at hb
    have := hb 31 (by decide)
    rw [BitVec.getLsbD_xor, BitVec.getLsbD_ushiftRight, BitVec.getLsbD_of_ge z (1 + 31) (by decide)] at this
    exact absurd this (by decide)
theorem stepB_inj {x y : BitVec 32} (h : stepB x = stepB y) : x = y := by
  have h1 : stepB (x ^^^ y) = 0#32 := by rw [stepB_xor, h, BitVec.xor_self]
  have h2 := stepB_zero h1
  have h3 : (x ^^^ y) ^^^ y = 0#32 ^^^ y := by rw [h2]
  rwa [BitVec.xor_assoc, BitVec.xor_self, BitVec.xor_zero, BitVec.zero_xor] at h3
theorem stepsB_inj : ∀ (n : Nat) {x y : BitVec 32}, stepsB n x = stepsB n y → x = y
  | 0, _, _, h => h
  | n + 1, _, _, h => stepB_inj (stepsB_inj n h)

/-- One byte's round, as bits. -/
def rndB (s : BitVec 32) (x : UInt8) : BitVec 32 := stepsB 8 (s ^^^ (wOfB x).toBitVec)
theorem byteP_rnd (c : UInt32) (x : UInt8) : (byteP c x).toBitVec = rndB c.toBitVec x := byteP_bv c x
theorem foldP_rnd : ∀ (l : List UInt8) (c : UInt32), (l.foldl byteP c).toBitVec = l.foldl rndB c.toBitVec
  | [], _ => rfl
  | x :: l, c => by rw [List.foldl_cons, foldP_rnd l, byteP_rnd]; rfl
theorem rnd_inj {s t : BitVec 32} {x : UInt8} (h : rndB s x = rndB t x) : s = t := by
  have := stepsB_inj 8 h
  have h3 : (s ^^^ (wOfB x).toBitVec) ^^^ (wOfB x).toBitVec = (t ^^^ (wOfB x).toBitVec) ^^^ (wOfB x).toBitVec := by rw [this]
  rwa [BitVec.xor_assoc, BitVec.xor_self, BitVec.xor_zero, BitVec.xor_assoc, BitVec.xor_self, BitVec.xor_zero] at h3
theorem fold_inj : ∀ (l : List UInt8) {s t : BitVec 32}, l.foldl rndB s = l.foldl rndB t → s = t
  | [], _, _, h => h
  | _ :: l, _, _, h => rnd_inj (fold_inj l h)

/-- From the sum to the state. -/
theorem addP_bv (c : UInt32) (l : List UInt8) : (addP c l).toBitVec = ~~~ (l.foldl rndB (~~~ c.toBitVec)) := by
  unfold addP
  show ~~~ (l.foldl byteP (wNot c)).toBitVec = _
  rw [foldP_rnd]; rfl
theorem addP_state {c d : UInt32} {l m : List UInt8} (h : addP c l = addP d m) : l.foldl rndB (~~~ c.toBitVec) = m.foldl rndB (~~~ d.toBitVec) := by
  have h1 : (addP c l).toBitVec = (addP d m).toBitVec := by rw [h]
  rw [addP_bv, addP_bv] at h1
  have h2 : ~~~ ~~~ (l.foldl rndB (~~~ c.toBitVec)) = ~~~ ~~~ (m.foldl rndB (~~~ d.toBitVec)) := by rw [h1]
  simpa using h2

theorem wOfB_inj {x y : UInt8} (h : wOfB x = wOfB y) : x = y := by
  apply UInt8.toNat_inj.1
  have : (wOfB x).toNat = (wOfB y).toNat := by rw [h]
  simpa [wOfB] using this
/-- One byte otherwise: another sum. -/
theorem sum_one (p q : List UInt8) (x y : UInt8) (h : x ≠ y) : addP 0 (p ++ x :: q) ≠ addP 0 (p ++ y :: q) := by
  intro he
  have h1 := addP_state he
  rw [List.foldl_append, List.foldl_append, List.foldl_cons, List.foldl_cons] at h1
  have h2 := fold_inj q h1
  have h3 := stepsB_inj 8 h2
  have h4 : ∀ s : BitVec 32, s ^^^ (wOfB x).toBitVec = s ^^^ (wOfB y).toBitVec → (wOfB x).toBitVec = (wOfB y).toBitVec := by
    intro s e
    have : s ^^^ (s ^^^ (wOfB x).toBitVec) = s ^^^ (s ^^^ (wOfB y).toBitVec) := by rw [e]
    rwa [← BitVec.xor_assoc, BitVec.xor_self, BitVec.zero_xor, ← BitVec.xor_assoc, BitVec.xor_self, BitVec.zero_xor] at this
  exact h (wOfB_inj (UInt32.eq_of_toBitVec_eq (h4 _ h3)))
end Go.Cit
