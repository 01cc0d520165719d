/- A region that draws its order, in which some operations, each behind the one before it, change the world (calls of methods of one thing); the others only read. No condition on the program. -/
import Derived.Test.YtofagofpeedfcaaGc
import Derived.Test.YtofagofpeedfcaaTwo
namespace Go.Cit
open Go Go.RowKit

section
variable {P : Program} {ops : Array Oper} {Q : Exit → Act → World → Prop}
/-- So many of the chain are done. -/
def chainC (idx : List Nat) (St : Nat → World → Prop) (δ : Nat → Bool) (wx : World) : Prop := ∃ k, k ≤ idx.length ∧ (∀ j i, idx[j]? = some i → (δ i = true ↔ j < k)) ∧ St k wx
def ChainOp (P : Program) (ops : Array Oper) (X : Nat → Value) (idx : List Nat) (St : Nat → World → Prop) (n : Nat) (o : Oper) (a : Act) : Prop :=
  Wanted ops o a ∧
  ((∃ j, idx[j]? = some n ∧ ∀ wx, St j wx → GivesP P (fun v w' => St (j + 1) w' ∧ tyX X o v) ((execOp a.eval o).run P wx)) ∨
   (n ∉ idx ∧ ∀ k wx, k ≤ idx.length → St k wx → GivesP P (fun v w' => w' = wx ∧ tyX X o v) ((execOp a.eval o).run P wx)))
def chainB (ops : Array Oper) (idx : List Nat) : Bool := (List.range idx.length).all fun j => decide (idx.getD j 0 < ops.size) && (decide (j = 0) || needsB ops ops.size (idx.getD j 0) (idx.getD (j - 1) 0))
theorem chain_spec {idx : List Nat} (h : chainB ops idx = true) {j i : Nat} (hj : idx[j]? = some i) : i < ops.size ∧ ∀ j' i', j = j' + 1 → idx[j']? = some i' → needsB ops ops.size i i' = true := by
  have hlt := (List.getElem?_eq_some_iff.1 hj).1
  have h1 := List.all_eq_true.1 h j (List.mem_range.2 hlt)
  rw [List.getD_eq_getElem?_getD, hj] at h1
  simp only [Option.getD_some, Bool.and_eq_true, Bool.or_eq_true, decide_eq_true_eq] at h1
  refine ⟨h1.1, fun j' i' e hi' => ?_⟩
  subst e
  rcases h1.2 with h2 | h2
  · omega
  · rw [List.getD_eq_getElem?_getD, show j' + 1 - 1 = j' from rfl, hi'] at h2
    exact h2
theorem chain_lt {idx : List Nat} {m : Nat} (hs : shapeB ops m = true) (h : chainB ops idx = true) : ∀ (d j i i' : Nat), idx[j]? = some i → idx[j + d + 1]? = some i' → i < i'
  | 0, j, i, i', hi, hi' => needs_lt hs _ _ _ ((chain_spec h hi').2 j i rfl hi)
  | d + 1, j, i, i', hi, hi' => by
    have hlt := (List.getElem?_eq_some_iff.1 hi').1
    have hm : idx[j + d + 1]? = some idx[j + d + 1] := List.getElem?_eq_getElem (by omega)
    have h1 := chain_lt hs h d j i _ hi hm
    have h2 := needs_lt hs _ _ _ ((chain_spec h hi').2 (j + d + 1) _ rfl hm)
    omega
theorem chain_inj {idx : List Nat} {m : Nat} (hs : shapeB ops m = true) (h : chainB ops idx = true) {j j' i : Nat} (hi : idx[j]? = some i) (hi' : idx[j']? = some i) : j = j' := by
  rcases Nat.lt_trichotomy j j' with hlt | he | hlt
  · have := chain_lt hs h (j' - j - 1) j i i hi (by rw [show j + (j' - j - 1) + 1 = j' by omega]; exact hi'); omega
  · exact he
  · have := chain_lt hs h (j - j' - 1) j' i i hi' (by rw [show j' + (j - j' - 1) + 1 = j by omega]; exact hi); omega
theorem wp_region_chain {id : Nat} {a0 : Act} {w : World} (X Y : Nat → Value) (olds : List Nat) (idx : List Nat) (St : Nat → World → Prop)
    (hm : P.follows .mixedOrders = true) (hs : shapeB ops a0.tmps.size = true) (hc : chainB ops idx = true) (hY : OldIs a0 Y olds)
    (h0 : ∀ w', Below w.heap.size w w' → w'.heap = w.heap → St 0 w')
    (hop : OpsAll (fun n o => ∀ a, KnowsT ops X Y olds o a → ChainOp P ops X idx St n o a) ops.toList 0)
    (hend : ∀ a wx, St idx.length wx → SameBut ops a0 a → (∀ d, outB ops d = false → a.eval (.tmp d) = X d) → Q .normal a wx) :
    (Code.region id ops true).wp P Q a0 w := by
  refine wp_region_ph (chainC idx St) (fun _ _ _ => True) (fun d v _ => v = X d) hm hs (fun w' hb hh => ⟨0, Nat.zero_le _, fun j i _ => ⟨fun h => absurd h (by simp), fun h => absurd h (Nat.not_lt_zero _)⟩, h0 w' hb hh⟩) ?_ ?_ ?_
  · intro δ i j o v w1 w2 _ _ _ _ _ _ _ h
    rcases hd : o.dst with _ | d
    · exact tyP_none hd _ _
    · rw [tyP_some hd] at h ⊢; exact h
  · refine OpsAll.imp2 (fun n o hall => ?_) ops.toList 0 hop
    intro δ a wx hk
    have hkt : KnowsT ops X Y olds o a := ⟨fun d hd => hk.slot d hd, fun d hd => by
      rw [Bool.and_eq_true] at hd
      exact (hk.old d hd.1).trans (hY.get d hd.2)⟩
    obtain ⟨hw, h⟩ := hall a hkt
    refine ⟨hw, ?_⟩
    obtain ⟨k, hk1, hk2, hk3⟩ := hk.inv
    rcases h with ⟨j, hj, h⟩ | ⟨hn, h⟩
    · have hkj : k = j := by
        have h1 : ¬ j < k := fun hlt => by
          have := (hk2 j n hj).2 hlt
          rw [hk.yet] at this; exact absurd this (by decide)
        have h2 : j ≤ k := by
          rcases j with _ | j'
          · exact Nat.zero_le _
          · have hlt := (List.getElem?_eq_some_iff.1 hj).1
            have hj' : idx[j']? = some idx[j'] := List.getElem?_eq_getElem (by omega)
            have hneed := (chain_spec hc hj).2 j' _ rfl hj'
            have hdone := hk.next.needs ops.size n _ hneed (upd_same _ _)
            have hne := needs_lt hs _ _ _ hneed
            rw [upd_other _ (by omega)] at hdone
            exact (hk2 j' _ hj').1 hdone
        omega
      subst hkj
      refine gives_two (fun v w' hv => ⟨trivial, ⟨k + 1, ?_, fun j2 i2 hj2 => ?_, hv.1⟩, tyP_X hv.2⟩) (h wx hk3)
      · exact (List.getElem?_eq_some_iff.1 hj).1
      · by_cases he : n = i2
        · subst he
          rw [upd_same]
          have := chain_inj hs hc hj hj2
          subst this
          exact ⟨fun _ => Nat.lt_succ_self _, fun _ => rfl⟩
        · rw [upd_other _ he, hk2 j2 i2 hj2]
          have : j2 ≠ k := fun e => he (by rw [e, hj] at hj2; exact Option.some.inj hj2)
          omega
    · refine gives_two (fun v w' hv => ?_) (h k wx hk1 hk3)
      obtain ⟨rfl, hv⟩ := hv
      exact ⟨trivial, ⟨k, hk1, fun j2 i2 hj2 => by
        rw [upd_other _ (show n ≠ i2 from fun e => hn (by rw [e]; exact List.mem_of_getElem? hj2))]; exact hk2 j2 i2 hj2, hk3⟩, tyP_X hv⟩
  · intro δ a wx hall hcc hsame hslots
    obtain ⟨k, hk1, hk2, hk3⟩ := hcc
    have hkl : k = idx.length := by
      rcases Nat.lt_or_ge k idx.length with hlt | hge
      · have hi : idx[k]? = some idx[k] := List.getElem?_eq_getElem hlt
        have := (hk2 k _ hi).1 (hall _ (chain_spec hc hi).1)
        omega
      · omega
    subst hkl
    exact hend a wx hk3 hsame fun d hd => hslots d hd
end
theorem Save.off {b : Nat} {a a1 : Option Addr} {w wx w' : World} (h1 : Save (fun k => k ≠ b ∧ some k ≠ blk a) w wx) (hn : Near w.heap.size a a1) (h2 : Save (fun k => k ≠ b ∧ some k ≠ blk a1) wx w') : Save (fun k => k ≠ b ∧ some k ≠ blk a) w w' :=
  ⟨h2.os.trans h1.os, h2.tape.trans h1.tape, h2.output.trans h1.output, Nat.le_trans h1.size h2.size, fun k hk hs => (h2.block k (Nat.lt_of_lt_of_le hk h1.size) ⟨hs.1, fun e => by
    rcases hn k e.symm with h | h
    · exact hs.2 h.symm
    · omega⟩).trans (h1.block k hk hs)⟩
end Go.Cit
