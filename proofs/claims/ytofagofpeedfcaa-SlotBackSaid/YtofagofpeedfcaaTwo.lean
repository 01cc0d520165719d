/- A region that draws its order, in which two operations change the world, one behind the other (an append, and the store of its result); every other one only reads; slots by their values. No condition on the program. -/
import Derived.Test.YtofagofpeedfcaaVals
import Derived.Test.YtofagofpeedfcaaGd
namespace Go.Cit
open Go Go.RowKit

/-- Nothing has been done to the heap. -/
def Alike (w w' : World) : Prop := Below w.heap.size w w' ∧ w'.heap = w.heap
structure KnowsT (ops : Array Oper) (X Y : Nat → Value) (olds : List Nat) (o : Oper) (a : Act) : Prop where
  slot : ∀ d, waitsB ops o d = true → a.eval (.tmp d) = X d
  old : ∀ d, (outB ops d && olds.contains d) = true → a.eval (.tmp d) = Y d
section
variable {P : Program} {ops : Array Oper} {Q : Exit → Act → World → Prop}
def twoC (w : World) (iA iS : Nat) (Mid Fin : World → Prop) (δ : Nat → Bool) (_ : Act) (wx : World) : Prop :=
  (δ iA = false → Alike w wx) ∧ (δ iA = true → δ iS = false → Mid wx) ∧ (δ iS = true → Fin wx)
def TwoOp (P : Program) (ops : Array Oper) (w : World) (X : Nat → Value) (iA iS : Nat) (Mid Fin : World → Prop) (n : Nat) (o : Oper) (a : Act) : Prop :=
  Wanted ops o a ∧
  ((n = iA ∧ ∀ wx, Alike w wx → GivesP P (fun v w' => Mid w' ∧ tyX X o v) ((execOp a.eval o).run P wx)) ∨
   (n = iS ∧ ∀ wx, Mid wx → GivesP P (fun v w' => Fin w' ∧ tyX X o v) ((execOp a.eval o).run P wx)) ∨
   (n ≠ iA ∧ n ≠ iS ∧ ∀ wx, (needsB ops ops.size iA n = true → Alike w wx) → (needsB ops ops.size iS n = true → Alike w wx ∨ Mid wx) → GivesP P (fun v w' => w' = wx ∧ tyX X o v) ((execOp a.eval o).run P wx)))
theorem OpsAll.imp2 {p q : Nat → Oper → Prop} (h : ∀ n o, p n o → q n o) : ∀ (os : List Oper) (n : Nat), OpsAll p os n → OpsAll q os n
  | [], _, _ => trivial
  | _ :: os, n, hs => ⟨h n _ hs.1, OpsAll.imp2 h os (n + 1) hs.2⟩
theorem gives_two {p q : Value → World → Prop} {r : Result Next} (h : ∀ v w, p v w → q v w) (hr : GivesP P p r) : GivesP P q r := by
  match r, hr with
  | .ok (.value v) w', hr => exact h _ _ hr
  | .ok .skip w', hr => exact h _ _ hr
  | .ok (.enter f args) w', hr => exact Calls.mono hr fun e w'' ⟨v, he, hp⟩ => ⟨v, he, h _ _ hp⟩
theorem tyP_X {X : Nat → Value} {o : Oper} {v : Value} {w : World} (h : tyX X o v) : tyP (fun d v _ => v = X d) o v w := by
  unfold tyX at h
  rcases hd : o.dst with _ | d
  · exact tyP_none hd _ _
  · rw [tyP_some hd]; rw [hd] at h; exact h
theorem wp_region_two {id : Nat} {a0 : Act} {w : World} (X Y : Nat → Value) (olds : List Nat) (iA iS : Nat) (Mid Fin : World → Prop)
    (hm : P.follows .mixedOrders = true) (hs : shapeB ops a0.tmps.size = true) (hAS : needsB ops ops.size iS iA = true) (hiS : iS < ops.size) (hY : OldIs a0 Y olds)
    (hop : OpsAll (fun n o => ∀ a, KnowsT ops X Y olds o a → TwoOp P ops w X iA iS Mid Fin n o a) ops.toList 0)
    (hend : ∀ a wx, Fin wx → SameBut ops a0 a → (∀ d, outB ops d = false → a.eval (.tmp d) = X d) → Q .normal a wx) :
    (Code.region id ops true).wp P Q a0 w := by
  have hlt := needs_lt hs _ _ _ hAS
  refine wp_region_st (twoC w iA iS Mid Fin) (fun _ _ _ => True) (fun d v _ => v = X d) hm hs (fun w' hb hh => ⟨fun _ => ⟨hb, hh⟩, fun h => absurd h (by simp), fun h => absurd h (by simp)⟩) ?_ ?_ ?_
  · intro δ i j o v a w1 w2 _ _ _ _ _ _ _ h
    rcases hd : o.dst with _ | d
    · exact tyP_none hd _ _
    · rw [tyP_some hd] at h ⊢; exact h
  · refine OpsAll.imp2 (fun n o hall => ?_) ops.toList 0 hop
    intro δ a wx hk
    have hkt : KnowsT ops X Y olds o a := ⟨fun d hd => hk.slot d hd, fun d hd => by
      rw [Bool.and_eq_true] at hd
      exact (hk.old d hd.1).trans (hY.get d hd.2)⟩
    obtain ⟨hw, h⟩ := hall a hkt
    refine ⟨hw, ?_⟩
    rcases h with ⟨rfl, h⟩ | ⟨rfl, h⟩ | ⟨h1, h2, h⟩
    · refine gives_two (fun v w' hv => ⟨trivial, ⟨fun h0 => absurd h0 (by rw [upd_same]; decide), fun _ _ => hv.1, fun h0 => ?_⟩, tyP_X hv.2⟩) (h wx (hk.inv.1 hk.yet))
      rw [upd_other _ (by omega)] at h0
      rw [hk.closed.yet _ _ _ hAS hk.yet] at h0
      exact absurd h0 (by decide)
    · have hA : δ iA = true := by
        have := hk.next.needs _ _ _ hAS (upd_same δ n)
        rwa [upd_other _ (by omega)] at this
      exact gives_two (fun v w' hv => ⟨trivial, ⟨fun h0 => by rw [upd_other _ (by omega), hA] at h0; exact absurd h0 (by decide), fun _ h0 => absurd h0 (by rw [upd_same]; decide), fun _ => hv.1⟩, tyP_X hv.2⟩) (h wx (hk.inv.2.1 hA hk.yet))
    · refine gives_two (fun v w' hv => ?_) (h wx (fun hn => hk.inv.1 (hk.closed.yet _ _ _ hn hk.yet)) (fun hn => ?_))
      rotate_left
      · have hS := hk.closed.yet _ _ _ hn hk.yet
        cases hA : δ iA
        · exact .inl (hk.inv.1 hA)
        · exact .inr (hk.inv.2.1 hA hS)
      obtain ⟨rfl, hv⟩ := hv
      refine ⟨trivial, ⟨fun h0 => hk.inv.1 (by rwa [upd_other _ h1] at h0), fun h0 h3 => hk.inv.2.1 (by rwa [upd_other _ h1] at h0) (by rwa [upd_other _ h2] at h3), fun h0 => hk.inv.2.2 (by rwa [upd_other _ h2] at h0)⟩, tyP_X hv⟩
  · intro δ a wx hall hc hsame hslots
    exact hend a wx (hc.2.2 (hall _ hiS)) hsame fun d hd => hslots d hd
end
end Go.Cit
