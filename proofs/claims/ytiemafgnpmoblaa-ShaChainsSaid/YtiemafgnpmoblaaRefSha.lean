/- The reference's table, state at first, turns: walked. -/
import Derived.Test.YtiemafgnpmoblaaVec
import Derived.Test.YtiemafgnpmoblaaShaDef
import Derived.Test.YtiemafgnpmoblaaRefOrder
import Derived.IntWalk
namespace Go.Proofs.Ytiemafgnpmoblaa
open Go Go.RowKit Go.Cit

theorem wordsT : ElemType Try.prog 33 22 1 4 (.int .u32 0) :=
  ⟨Try.underlying33, by kernel_rfl, by intro w; kernel_rfl, rfl, by decide, by decide⟩
@[reducible] def cw (x : UInt32) : List Value := [vw x]
theorem cw_len : ∀ x, (cw x).length = 1 := fun _ => rfl
theorem cw_one : ∀ x, ∀ u ∈ cw x, u.oneCell' = true := by intro x u hu; obtain rfl : u = vw x := by simpa using hu
                                                          rfl
theorem flat_cw (l : List UInt32) : l.flatMap cw = l.map vw := by
  induction l with
  | nil => rfl
  | cons x l ih => rw [List.flatMap_cons, ih]; rfl
/-- Words written out. -/
def litW (l : List UInt32) : List Operand := l.map fun x => .const (vw x)
theorem litW_parts (l : List UInt32) : ∀ i, (((litW l).zipIdx i).map fun x => (x.2, x.1)) = (l.zipIdx i).map fun x => (x.2, .const (vw x.1)) := by
  induction l with
  | nil => intro i; rfl
  | cons x l ih =>
    intro i
    have := ih (i + 1)
    simp only [litW, List.map_cons, List.zipIdx_cons] at this ⊢
    rw [this]
theorem build_words (l : List UInt32) (k : Nat) (hk : l.length = k) (h0 : 0 < k) (h9 : k ≤ 1000) {a : Act} {o : Oper} (ho : o.op = .buildSlice 33 k ((l.zipIdx 0).map fun x => (x.2, .const (vw x.1))).toArray) (w : World) :
    (execOp a.eval o).run Try.prog w = .ok (.value (.slice (some ⟨w.heap.size, 0, none⟩) k k)) (w.alloc (.cells (l.map vw).toArray 22)) := by
  have := run_vbuild wordsT (ρ := a.eval) (o := o) (litW l) (l.map vw) k (by rw [ho, litW_parts]) (by simp [litW]; intro x _; rfl) (by simpa using hk) h0 (by intro v hv; obtain ⟨x, _, rfl⟩ := List.mem_map.1 hv; rfl) (by omega) w
  rw [this]
  congr 3
  rw [List.flatMap_map]
  have e : l.flatMap (fun a => (vw a).cells.toList) = l.map vw := flat_cw l
  rw [e]

set_option maxRecDepth 100000 in
theorem reftable_calls (w : World) :
    Calls Try.prog 56 #[] w fun e w' => e = .returned (.slice (some ⟨w.heap.size, 0, none⟩) 64 64) ∧ VOwn cw 1 22 w.heap.size w' (some ⟨w.heap.size, 0, none⟩) kTab 64 ∧ Below w.heap.size w w' ∧ w.heap.size < w'.heap.size := by
  go_enter Try.func56, Try.ntmps56
  go_wp2_with ((with_reducible refine wpList_value (o := ⟨some 1, .buildSlice _ _ _, _, _, _, _⟩) (by with_unfolding_all rfl) (build_words kTab 64 rfl (by decide) (by decide) (by with_unfolding_all rfl) _) ?_))
  go_ret
  exact ⟨rfl, vown_lit w _ 22 1 kTab cw_len (by rw [flat_cw]; kernel_rfl) (by decide), (Below.refl _ _).alloc (Nat.le_refl _) _, by simp⟩
set_option maxRecDepth 100000 in
theorem reffirst_calls (w : World) :
    Calls Try.prog 17 #[] w fun e w' => e = .returned (.slice (some ⟨w.heap.size, 0, none⟩) 8 8) ∧ VOwn cw 1 22 w.heap.size w' (some ⟨w.heap.size, 0, none⟩) first8.l 8 ∧ Below w.heap.size w w' ∧ w.heap.size < w'.heap.size := by
  go_enter Try.func17, Try.ntmps17
  go_wp2_with ((with_reducible refine wpList_value (o := ⟨some 1, .buildSlice _ _ _, _, _, _, _⟩) (by with_unfolding_all rfl) (build_words first8.l 8 rfl (by decide) (by decide) (by with_unfolding_all rfl) _) ?_))
  go_ret
  exact ⟨rfl, vown_lit w _ 22 1 first8.l cw_len (by rw [flat_cw]; kernel_rfl) (by decide), (Below.refl _ _).alloc (Nat.le_refl _) _, by simp⟩

theorem turn_calls (w : World) (x : UInt32) (n : Nat) (h1 : 1 ≤ n) (h31 : n ≤ 31) :
    Calls Try.prog 57 #[vw x, .int .u64 n] w fun e w' => e = .returned (vw (rotN n x)) ∧ w = w' := by
  have p1 : (2 : Int) ^ n % 4294967296 = ((2 ^ n : Nat) : Int) := by
    have : 2 ^ n ≤ 2 ^ 31 := Nat.pow_le_pow_right (by decide) h31
    have e : ((2 ^ n : Nat) : Int) = (2 : Int) ^ n := by rw [Int.natCast_pow]; rfl
    rw [← e]; generalize (2 : Nat) ^ n = q at this ⊢; omega
  have p2 : (2 : Int) ^ (32 - n) % 4294967296 = ((2 ^ (32 - n) : Nat) : Int) := by
    have : 2 ^ (32 - n) ≤ 2 ^ 31 := Nat.pow_le_pow_right (by decide) (by omega)
    have e : ((2 ^ (32 - n) : Nat) : Int) = (2 : Int) ^ (32 - n) := by rw [Int.natCast_pow]; rfl
    rw [← e]; generalize (2 : Nat) ^ (32 - n) = q at this ⊢; omega
  have hp : 0 < 2 ^ n := Nat.pow_pos (by decide)
  have hne : ¬ ((2 : Int) ^ n % 4294967296 = 0) := by rw [p1]; generalize (2 : Nat) ^ n = q at hp ⊢; omega
  have HR : Hid (((x.toNat : Int) / (2 ^ n % 4294967296) % 4294967296 + (x.toNat : Int) * (2 ^ (32 - n) % 4294967296) % 4294967296) % 4294967296 = ((rotN n x).toNat : Int)) := by
    rw [Hid, p1, p2, ← rot_add n x h1 h31]
    have h3 : x.toNat / 2 ^ n < 4294967296 := Nat.lt_of_le_of_lt (Nat.div_le_self _ _) (w_lt x)
    have e1 : (x.toNat : Int) / ((2 ^ n : Nat) : Int) = ((x.toNat / 2 ^ n : Nat) : Int) := (Int.natCast_ediv _ _).symm
    have e2 : (x.toNat : Int) * ((2 ^ (32 - n) : Nat) : Int) = ((x.toNat * 2 ^ (32 - n) : Nat) : Int) := (Int.natCast_mul _ _).symm
    rw [e1, e2]
    generalize x.toNat / 2 ^ n = u at h3 ⊢
    generalize x.toNat * 2 ^ (32 - n) = v
    omega
  clear p1 p2 hp
  go_enter Try.func57, Try.ntmps57
  go_wp2
  go_ret
  exact ⟨ret_int HR.out, rfl⟩
end Go.Proofs.Ytiemafgnpmoblaa
