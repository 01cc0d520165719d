/- A region that draws its order in which one operation alone changes the world. No condition on the program. -/
import Derived.Test.YtpnbaapjjchlbaaGe
namespace Go.Cit
open Go Go.RowKit

/-- Of each slot that is not 'early', its operation is j or waits for it. -/
def lateB (ops : Array Oper) (j : Nat) (early : Nat → Bool) : Bool :=
  (List.range ops.size).all fun i => match ops[i]? with
    | some o => (match o.dst with | some d => early d || decide (i = j) || needsB ops (ops.size + 1) i j | none => true)
    | none => true

section
variable {P : Program} {ops : Array Oper} {Q : Exit → Act → World → Prop}

structure Known1 (ops : Array Oper) (T : Nat → Value → World → Prop) (a0 : Act) (o : Oper) (A B : World → Prop) (n j : Nat) (a : Act) (w : World) : Prop where
  slot : ∀ d, waitsB ops o d = true → T d (a.eval (.tmp d)) w
  old : ∀ d, outB ops d = true → a.eval (.tmp d) = a0.eval (.tmp d)
  lit : ∀ v, a.eval (.const v) = v
  fn : ∀ f, a.eval (.func f) = .func (.func f) #[] #[]
  ab : A w ∨ B w
  now : n = j → A w
  later : needsB ops (ops.size + 1) n j = true → B w

theorem wp_region_one {id : Nat} {a0 : Act} {w : World} (j : Nat) (A B : World → Prop) (T : Nat → Value → World → Prop) (early : Nat → Bool)
    (hm : P.follows .mixedOrders = true) (hs : shapeB ops a0.tmps.size = true) (hl : lateB ops j early = true) (hj : j < ops.size)
    (hA : ∀ w', Below w.heap.size w w' → w'.heap = w.heap → A w') (he : ∀ d v w w', early d = true → T d v w → T d v w')
    (hop : OpsAll (fun n o => ∀ a wx, Known1 ops T a0 o A B n j a wx → Wanted ops o a ∧ GivesP P (fun v w' => ((n = j → B w') ∧ (n ≠ j → w' = wx)) ∧ tyP T o v w') ((execOp a.eval o).run P wx)) ops.toList 0)
    (hend : ∀ a wx, B wx → SameBut ops a0 a → (∀ d, outB ops d = false → T d (a.eval (.tmp d)) wx) → Q .normal a wx) :
    (Code.region id ops true).wp P Q a0 w := by
  refine wp_region_ph (fun δ wx => (δ j = false → A wx) ∧ (δ j = true → B wx)) (fun i wx w' => i = j ∨ w' = wx) T hm hs ?_ ?_ ?_ ?_
  · intro w' hb hh
    exact ⟨fun _ => hA w' hb hh, fun h => absurd h Bool.false_ne_true⟩
  · intro δ i k o v wx w' ho hik hcl hk hi _ hG hT
    rcases hd : o.dst with _ | d
    · exact tyP_none hd _ _
    · rw [tyP_some hd] at hT ⊢
      rcases hG with rfl | rfl
      · have h1 := List.all_eq_true.1 hl k (List.mem_range.2 (Array.getElem?_eq_some_iff.1 ho).1)
        rw [ho] at h1
        simp only [hd, Bool.or_eq_true, decide_eq_true_eq] at h1
        rcases h1 with (h1 | h1) | h1
        · exact he d v wx w' h1 hT
        · exact absurd h1.symm hik
        · rw [hcl.needs _ k i h1 hk] at hi; exact absurd hi (by decide)
      · exact hT
  · have : ∀ (l : List Oper) (n : Nat), OpsAll (fun n o => ∀ a wx, Known1 ops T a0 o A B n j a wx → Wanted ops o a ∧ GivesP P (fun v w' => ((n = j → B w') ∧ (n ≠ j → w' = wx)) ∧ tyP T o v w') ((execOp a.eval o).run P wx)) l n →
        OpsAll (fun n o => ∀ δ a wx, KnownP ops (fun δ wx => (δ j = false → A wx) ∧ (δ j = true → B wx)) T a0 n o δ a wx → Wanted ops o a ∧ GivesP P (fun v w' => (n = j ∨ w' = wx) ∧ ((upd δ n j = false → A w') ∧ (upd δ n j = true → B w')) ∧ tyP T o v w') ((execOp a.eval o).run P wx)) l n := by
      intro l
      induction l with
      | nil => intro n _; trivial
      | cons o l ih =>
        intro n h
        refine ⟨fun δ a wx hk => ?_, ih _ h.2⟩
        have hk1 : Known1 ops T a0 o A B n j a wx := by
          refine ⟨hk.slot, hk.old, hk.lit, hk.fn, ?_, fun hn => ?_, fun hn => ?_⟩
          · cases hδ : δ j
            · exact .inl (hk.inv.1 hδ)
            · exact .inr (hk.inv.2 hδ)
          · exact hk.inv.1 (by rw [← hn]; exact hk.yet)
          · by_cases hnj : n = j
            · have h1 := hk.next.needs _ n j hn (upd_same _ _)
              exact hk.inv.2 (by
                cases hδ : δ j
                · subst hnj
                  exact absurd hn (by
                    intro hn'
                    have := needs_lt hs (ops.size + 1) n n hn'
                    omega)
                · rfl)
            · have h1 := hk.next.needs _ n j hn (upd_same _ _)
              rw [upd_other δ hnj] at h1
              exact hk.inv.2 h1
        obtain ⟨hw, hg⟩ := h.1 a wx hk1
        refine ⟨hw, ?_⟩
        have conv : ∀ v w', (((n = j → B w') ∧ (n ≠ j → w' = wx)) ∧ tyP T o v w') → ((n = j ∨ w' = wx) ∧ ((upd δ n j = false → A w') ∧ (upd δ n j = true → B w')) ∧ tyP T o v w') := by
          rintro v w' ⟨h1, h2⟩
          by_cases hnj : n = j
          · exact ⟨.inl hnj, ⟨fun hx => by rw [hnj, upd_same] at hx; exact absurd hx (by decide), fun _ => h1.1 hnj⟩, h2⟩
          · have h1 := h1.2 hnj
            subst h1
            exact ⟨.inr rfl, ⟨fun hx => hk.inv.1 (by rw [upd_other δ hnj] at hx; exact hx), fun hx => hk.inv.2 (by rw [upd_other δ hnj] at hx; exact hx)⟩, h2⟩
        generalize (execOp a.eval o).run P wx = r at hg
        match r, hg with
        | .ok (.value v) w', hg => exact conv v w' hg
        | .ok .skip w', hg => exact conv undef w' hg
        | .ok (.enter f args) w', hg =>
          refine Calls.mono hg ?_
          rintro e w'' ⟨v, he, hv⟩
          exact ⟨v, he, conv v w'' hv⟩
    exact this _ _ hop
  · intro δ a wx hall hc hsame hT
    exact hend a wx (hc.2 (hall j hj)) hsame hT
end
end Go.Cit
