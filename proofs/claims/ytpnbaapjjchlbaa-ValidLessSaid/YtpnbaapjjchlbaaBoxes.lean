/- A region that draws its order, in which variables of their own are laid and stored into: told once, whatever the order. No condition on the program. -/
import Derived.Test.YtpnbaapjjchlbaaPhaseSt
import Derived.Test.YtpnbaapjjchlbaaBox
namespace Go.Cit
open Go Go.RowKit

/-- The variables that a region lays: by which operation, stored into by which, in which slot the address lies, the type, the cells at first. -/
structure Boxes where
  nb : Nat
  ia : Nat → Nat
  is_ : Nat → Nat
  d : Nat → Nat
  ty : Nat → TypeId
  z : Nat → Array Value
def Boxes.wf (b : Boxes) (ops : Array Oper) (n : Nat) : Bool := (List.range b.nb).all fun j => needsB ops ops.size (b.is_ j) (b.ia j) && decide (b.d j < n) &&
  ((List.range b.nb).all fun i => decide (b.ia j ≠ b.is_ i) && (decide (i = j) || (decide (b.d i ≠ b.d j) && decide (b.ia i ≠ b.ia j) && decide (b.is_ i ≠ b.is_ j))))
theorem Boxes.spec {b : Boxes} {ops : Array Oper} {n : Nat} (h : b.wf ops n = true) {j : Nat} (hj : j < b.nb) : needsB ops ops.size (b.is_ j) (b.ia j) = true ∧ b.d j < n ∧ (∀ i, i < b.nb → b.ia j ≠ b.is_ i ∧ (i ≠ j → b.d i ≠ b.d j ∧ b.ia i ≠ b.ia j ∧ b.is_ i ≠ b.is_ j)) := by
  have h1 := List.all_eq_true.1 h j (List.mem_range.2 hj)
  simp only [Bool.and_eq_true, decide_eq_true_eq] at h1
  refine ⟨h1.1.1, h1.1.2, fun i hi => ?_⟩
  have h2 := List.all_eq_true.1 h1.2 i (List.mem_range.2 hi)
  simp only [Bool.and_eq_true, Bool.or_eq_true, decide_eq_true_eq] at h2
  refine ⟨h2.1, fun hne => ?_⟩
  rcases h2.2 with e | e
  · exact absurd e hne
  · exact ⟨e.1.1, e.1.2, e.2⟩

/-- What one operation may do: lay new memory, or store into one of the variables. -/
def bxG (b : Boxes) (W w w' : World) : Prop := Below w.heap.size w w' ∨ ∃ g j C, j < b.nb ∧ W.heap.size ≤ g ∧ w.heap[g]? = some (.cells C (b.ty j) (0, 0)) ∧ Save (· ≠ g) w w'
def bxC (b : Boxes) (Bx : Nat → Array Value → World → Prop) (W : World) (δ : Nat → Bool) (a : Act) (wx : World) : Prop := Below W.heap.size W wx ∧ ∀ j, j < b.nb → δ (b.ia j) = true →
  ∃ g C, a.tmps.getD (b.d j) undef = .pointer (some ⟨g, 0, none⟩) ∧ W.heap.size ≤ g ∧ wx.heap[g]? = some (.cells C (b.ty j) (0, 0)) ∧ C.size = (b.z j).size ∧ (δ (b.is_ j) = true → Bx j C wx) ∧
    ∀ i, i < b.nb → i ≠ j → δ (b.ia i) = true → a.tmps.getD (b.d i) undef ≠ .pointer (some ⟨g, 0, none⟩)

section
variable {P : Program} {ops : Array Oper} {Q : Exit → Act → World → Prop}
/-- What is asked of an operation. -/
def BxOp (P : Program) (b : Boxes) (Bx : Nat → Array Value → World → Prop) (T : Nat → Value → World → Prop) (ops : Array Oper) (n : Nat) (o : Oper) (a : Act) (wx : World) : Prop :=
  (Wanted ops o a ∧ (∀ j, j < b.nb → n ≠ b.ia j ∧ n ≠ b.is_ j ∧ o.dst ≠ some (b.d j)) ∧ GivesP P (fun v w' => Below wx.heap.size wx w' ∧ tyP T o v w') ((execOp a.eval o).run P wx)) ∨
  (∃ j, j < b.nb ∧ n = b.ia j ∧ o.dst = some (b.d j) ∧ o.guard = none ∧ (execOp a.eval o).run P wx = .ok (.value (.pointer (some ⟨wx.heap.size, 0, none⟩))) (wx.alloc (.cells (b.z j) (b.ty j))) ∧ ∀ v w, T (b.d j) v w) ∨
  (∃ j C', j < b.nb ∧ n = b.is_ j ∧ o.dst = none ∧ o.guard = none ∧ Bx j C' wx ∧ C'.size = (b.z j).size ∧
    ∀ g C, a.eval (.tmp (b.d j)) = .pointer (some ⟨g, 0, none⟩) → wx.heap[g]? = some (.cells C (b.ty j) (0, 0)) → C.size = C'.size → ∃ w', (execOp a.eval o).run P wx = .ok .skip w' ∧ w'.heap[g]? = some (.cells C' (b.ty j) (0, 0)) ∧ Save (· ≠ g) wx w')

theorem OpsAll.imp {p q : Nat → Oper → Prop} (h : ∀ n o, True → p n o → q n o) : ∀ (os : List Oper) (n : Nat), OpsAll p os n → OpsAll q os n
  | [], _, _ => trivial
  | _ :: os, n, hs => ⟨h n _ trivial hs.1, OpsAll.imp h os (n + 1) hs.2⟩
theorem gives_imp {p q : Value → World → Prop} {r : Result Next} (h : ∀ v w, p v w → q v w) (hr : GivesP P p r) : GivesP P q r := by
  match r, hr with
  | .ok (.value v) w', hr => exact h _ _ hr
  | .ok .skip w', hr => exact h _ _ hr
  | .ok (.enter f args) w', hr => exact Calls.mono hr fun e w'' ⟨v, he, hp⟩ => ⟨v, he, h _ _ hp⟩
theorem bx_below {b : Boxes} {W w w' : World} (h : bxG b W w w') (hW : Below W.heap.size W w) : Below W.heap.size W w' := by
  rcases h with h | ⟨g, j, C, _, hg, hc, hs⟩
  · exact hW.trans (h.mono hW.size)
  · exact hW.trans (hs.below hW.size (fun k hk => by omega))

theorem wp_region_boxes {id : Nat} {a0 : Act} {w : World} (b : Boxes) (Bx : Nat → Array Value → World → Prop) (T : Nat → Value → World → Prop)
    (hm : P.follows .mixedOrders = true) (hs : shapeB ops a0.tmps.size = true) (hwf : b.wf ops a0.tmps.size = true)
    (hT : ∀ d v w1 w2, bxG b w w1 w2 → T d v w1 → T d v w2) (hX : ∀ j C w1 w2, bxG b w w1 w2 → Bx j C w1 → Bx j C w2)
    (hop : OpsAll (fun n o => ∀ δ a wx, KnownS ops (bxC b Bx w) T a0 n o δ a wx → BxOp P b Bx T ops n o a wx) ops.toList 0)
    (hend : ∀ a wx, Below w.heap.size w wx → SameBut ops a0 a → (∀ d, outB ops d = false → T d (a.eval (.tmp d)) wx) →
      (∀ j, j < b.nb → ∃ g C, a.eval (.tmp (b.d j)) = .pointer (some ⟨g, 0, none⟩) ∧ w.heap.size ≤ g ∧ wx.heap[g]? = some (.cells C (b.ty j) (0, 0)) ∧ Bx j C wx ∧ ∀ i, i < b.nb → i ≠ j → a.eval (.tmp (b.d i)) ≠ .pointer (some ⟨g, 0, none⟩)) → Q .normal a wx)
    (hin : ∀ j, j < b.nb → b.ia j < ops.size ∧ b.is_ j < ops.size) :
    (Code.region id ops true).wp P Q a0 w := by
  refine wp_region_st (bxC b Bx w) (fun _ w1 w2 => bxG b w w1 w2) T hm hs (fun w' hb hh => ⟨hb, fun j _ h => absurd h Bool.false_ne_true⟩) ?_ ?_ ?_
  · intro δ i j o v a w1 w2 _ _ _ _ _ _ hG h
    rcases hd : o.dst with _ | d
    · exact tyP_none hd _ _
    · rw [tyP_some hd] at h ⊢
      exact hT _ _ _ _ hG h
  · refine OpsAll.imp (fun n o ho hall => ?_) ops.toList 0 hop
    intro δ a wx hk
    obtain ⟨hW, hB⟩ := hk.inv
    have hsz : a.tmps.size = a0.tmps.size := hk.same.2.1
    rcases hall δ a wx hk with ⟨hw, hne, hg⟩ | ⟨j, hj, rfl, hd, hgd, hrun, hTd⟩ | ⟨j, C', hj, rfl, hd, hgd, hBx, hsz', hst⟩
    · refine ⟨hw, gives_imp (fun v w' hv => ⟨.inl hv.1, ⟨bx_below (b := b) (.inl hv.1) hW, fun i hi hδ => ?_⟩, hv.2⟩) hg⟩
      have hb := hv.1
      have hn := hne i hi
      rw [upd_other δ hn.1] at hδ
      obtain ⟨g, C, e1, e2, e3, e4, e5, e6⟩ := hB i hi hδ
      refine ⟨g, C, ?_, e2, (hb.block g (Array.getElem?_eq_some_iff.1 e3).1).trans e3, e4, fun h => ?_, fun k hk' hki hδk => ?_⟩
      · rw [put_getD_ne _ _ _ _ hn.2.2]; exact e1
      · rw [upd_other δ hn.2.1] at h
        exact hX _ _ _ _ (.inl hb) (e5 h)
      · have hnk := hne k hk'
        rw [upd_other δ hnk.1] at hδk
        rw [put_getD_ne _ _ _ _ hnk.2.2]
        exact e6 k hk' hki hδk
    · have hsp := Boxes.spec hwf hj
      have hb : Below wx.heap.size wx (wx.alloc (.cells (b.z j) (b.ty j))) := (Below.refl _ wx).alloc (Nat.le_refl _) _
      have hyet : δ (b.is_ j) = false := hk.closed.yet ops.size _ _ hsp.1 hk.yet
      refine ⟨wanted_free hgd, ?_⟩
      rw [hrun]
      refine ⟨.inl hb, ⟨bx_below (b := b) (.inl hb) hW, fun i hi hδ => ?_⟩, by rw [tyP_some hd]; exact hTd _ _⟩
      by_cases hij : i = j
      · subst hij
        refine ⟨wx.heap.size, b.z i, by rw [hd]; exact put_getD_same _ _ _ (by rw [hsz]; exact hsp.2.1), hW.size, heap_alloc_new _ _, rfl, fun h => ?_, fun k hk' hki hδk => ?_⟩
        · rw [upd_other δ (hsp.2.2 i hi).1, hyet] at h; exact absurd h (by decide)
        · have hq := (hsp.2.2 k hk').2 hki
          rw [upd_other δ (Ne.symm hq.2.1)] at hδk
          obtain ⟨g, C, e1, e2, e3, _⟩ := hB k hk' hδk
          rw [hd, put_getD_ne _ _ _ _ (fun e => hq.1 (Option.some.inj e).symm), e1]
          intro e
          simp only [Value.pointer.injEq, Option.some.injEq, Addr.mk.injEq, and_true] at e
          have := (Array.getElem?_eq_some_iff.1 e3).1
          omega
      · have hq := (hsp.2.2 i hi).2 hij
        rw [upd_other δ (Ne.symm hq.2.1)] at hδ
        obtain ⟨g, C, e1, e2, e3, e4, e5, e6⟩ := hB i hi hδ
        refine ⟨g, C, ?_, e2, (hb.block g (Array.getElem?_eq_some_iff.1 e3).1).trans e3, e4, fun h => ?_, fun k hk' hki hδk => ?_⟩
        · rw [hd, put_getD_ne _ _ _ _ (fun e => hq.1 (Option.some.inj e).symm)]; exact e1
        · rw [upd_other δ (hsp.2.2 i hi).1] at h
          exact hX _ _ _ _ (.inl hb) (e5 h)
        · by_cases hkj : k = j
          · subst hkj
            rw [hd, put_getD_same _ _ _ (by rw [hsz]; exact hsp.2.1)]
            intro e
            simp only [Value.pointer.injEq, Option.some.injEq, Addr.mk.injEq, and_true] at e
            have := (Array.getElem?_eq_some_iff.1 e3).1
            omega
          · have hq2 := (hsp.2.2 k hk').2 hkj
            rw [upd_other δ (Ne.symm hq2.2.1)] at hδk
            rw [hd, put_getD_ne _ _ _ _ (fun e => hq2.1 (Option.some.inj e).symm)]
            exact e6 k hk' hki hδk
    · have hsp := Boxes.spec hwf hj
      have hia : δ (b.ia j) = true := by
        have h1 := hk.next.needs ops.size _ _ hsp.1 (upd_same _ _)
        rwa [upd_other δ (Ne.symm (hsp.2.2 j hj).1)] at h1
      obtain ⟨g, C, e1, e2, e3, e4, e5, e6⟩ := hB j hj hia
      obtain ⟨w', hrun, hc', hsv⟩ := hst g C (by simpa [Act.eval] using e1) e3 (by rw [e4, hsz'])
      have hG : bxG b w wx w' := .inr ⟨g, j, C, hj, e2, e3, hsv⟩
      refine ⟨wanted_free hgd, ?_⟩
      rw [hrun]
      refine ⟨hG, ⟨bx_below hG hW, fun i hi hδ => ?_⟩, tyP_none hd _ _⟩
      have hne : b.is_ j ≠ b.ia i := Ne.symm ((Boxes.spec hwf hi).2.2 j hj).1
      rw [upd_other δ hne] at hδ
      by_cases hij : i = j
      · subst hij
        refine ⟨g, C', by rw [hd]; exact e1, e2, hc', hsz', fun _ => hX _ _ _ _ hG hBx, fun k hk' hki hδk => ?_⟩
        rw [upd_other δ (Ne.symm ((Boxes.spec hwf hk').2.2 i hj).1)] at hδk
        rw [hd]; exact e6 k hk' hki hδk
      · obtain ⟨g', D, f1, f2, f3, f4, f5, f6⟩ := hB i hi hδ
        have hgg : g' ≠ g := by
          intro e; subst e
          exact e6 i hi hij hδ f1
        refine ⟨g', D, by rw [hd]; exact f1, f2, (hsv.block g' (Array.getElem?_eq_some_iff.1 f3).1 hgg).trans f3, f4, fun h => ?_, fun k hk' hki hδk => ?_⟩
        · rw [upd_other δ (Ne.symm ((hsp.2.2 i hi).2 hij).2.2)] at h
          exact hX _ _ _ _ hG (f5 h)
        · rw [upd_other δ (Ne.symm ((Boxes.spec hwf hk').2.2 j hj).1)] at hδk
          rw [hd]; exact f6 k hk' hki hδk
  · intro δ a wx hall hC hsame hTall
    obtain ⟨hW, hB⟩ := hC
    refine hend a wx hW hsame hTall fun j hj => ?_
    obtain ⟨g, C, e1, e2, e3, e4, e5, e6⟩ := hB j hj (hall _ (hin j hj).1)
    exact ⟨g, C, by simpa [Act.eval] using e1, e2, e3, e5 (hall _ (hin j hj).2), fun i hi hij => by simpa [Act.eval] using e6 i hi hij (hall _ (hin i hi).1)⟩
end
end Go.Cit
