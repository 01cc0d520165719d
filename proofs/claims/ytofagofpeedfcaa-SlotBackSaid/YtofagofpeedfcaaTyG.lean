/- A region that draws its order, told slot by slot (no frame is written out), guards that are false among its operations; what lay there stays. No condition on the program. -/
import Derived.Test.YtofagofpeedfcaaGc
namespace Go.Cit
open Go Go.RowKit

section
variable {P : Program} {ops : Array Oper} {Q : Exit → Act → World → Prop}
/-- What is known at one operation. -/
structure KnownG (ops : Array Oper) (T : Nat → Value → World → Prop) (a0 : Act) (w0 : World) (o : Oper) (a : Act) (w : World) : Prop where
  below : Below w0.heap.size w0 w
  slot : ∀ d, waitsB ops o d = true → T d (a.eval (.tmp d)) w
  old : ∀ d, outB ops d = true → a.eval (.tmp d) = a0.eval (.tmp d)
  lit : ∀ v, a.eval (.const v) = v
  fn : ∀ f, a.eval (.func f) = .func (.func f) #[] #[]
/-- The guard's operation left 'not'. -/
theorem unwanted_by {o : Oper} {a : Act} (d : Nat) (b : Bool) (h : guardB ops o d b = true) (hv : a.eval (.tmp d) = .bool !b) : Region.wanted o (yielded ops a.tmps) = false := by
  unfold Region.wanted
  unfold guardB at h
  split at h
  · exact absurd h (by decide)
  · rename_i j c hg
    rw [hg]
    simp only [Bool.and_eq_true, decide_eq_true_eq] at h
    obtain ⟨rfl, h⟩ := h
    split at h
    · rename_i p hp
      simp only [decide_eq_true_eq] at h
      have hd : d < a.tmps.size := by
        rcases Nat.lt_or_ge d a.tmps.size with h' | h'
        · exact h'
        · simp [Act.eval, Array.getD, Nat.not_lt.2 h', undef] at hv
      have e : a.tmps[d]? = some (.bool !c) := by
        rw [Array.getElem?_eq_getElem hd, ← hv]
        simp [Act.eval, Array.getD, hd]
      cases c <;> simp [yielded, hp, h, e]
    · exact absurd h (by decide)

theorem wp_region_tyg {id : Nat} {a0 : Act} {w : World} (T : Nat → Value → World → Prop)
    (hm : P.follows .mixedOrders = true) (hs : shapeB ops a0.tmps.size = true)
    (hT : ∀ d v w1 w2, Below w1.heap.size w1 w2 → T d v w1 → T d v w2)
    (hop : OpsAll (fun _ o => ∀ a wx, KnownG ops T a0 w o a wx → (Wanted ops o a ∧ GivesP P (fun v w' => Below wx.heap.size wx w' ∧ tyP T o v w') ((execOp a.eval o).run P wx)) ∨ (Region.wanted o (yielded ops a.tmps) = false ∧ tyP T o undef wx)) ops.toList 0)
    (hend : ∀ a wx, Below w.heap.size w wx → SameBut ops a0 a → (∀ d, outB ops d = false → T d (a.eval (.tmp d)) wx) → Q .normal a wx) :
    (Code.region id ops true).wp P Q a0 w := by
  refine wp_region_typed (fun wx => Below w.heap.size w wx) (fun w1 w2 => Below w1.heap.size w1 w2) (fun i v wx => ∀ o, ops[i]? = some o → tyP T o v wx) hm hs
    (fun w1 w2 h1 h2 => h1.trans (h2.mono h1.size)) (fun i v w1 w2 _ hb h o ho => ?_) ⟨rfl, rfl, rfl, Nat.le_refl _, fun _ _ => rfl⟩ ?_ ?_
  · have := h o ho
    rcases hd : o.dst with _ | d
    · exact tyP_none hd _ _
    · rw [tyP_some hd] at this ⊢
      exact hT _ _ _ _ hb this
  · intro i o a wx ho hc hsame hdep o' ho'
    obtain rfl : o = o' := by rw [ho] at ho'; exact Option.some.inj ho'
    have hk : KnownG ops T a0 w o a wx := by
      refine ⟨hc, fun d hd => ?_, fun d hd => ?_, fun _ => rfl, fun _ => rfl⟩
      · unfold waitsB at hd
        rw [Array.any_eq_true] at hd
        obtain ⟨k, hk, he⟩ := hd
        rw [Bool.and_eq_true] at he
        obtain ⟨hb, hp⟩ := he
        split at hp
        · rename_i p hpp
          simp only [decide_eq_true_eq] at hp
          have := hdep _ (Array.getElem_mem hk) hb p d hpp hp p hpp
          rwa [tyP_some hp] at this
        · exact absurd hp (by decide)
      · refine hsame.2.2 d fun j p hp hpd => ?_
        unfold outB at hd
        rw [Array.all_eq_true] at hd
        obtain ⟨hj, hjp⟩ := Array.getElem?_eq_some_iff.1 hp
        have := hd j hj
        rw [hjp] at this
        simp [hpd] at this
    have h := OpsAll.get _ _ hop i o (by simpa using ho) a wx hk
    unfold wpOp
    rw [ho]
    dsimp only
    have hgo : ∀ v w', Below wx.heap.size wx w' → tyP T o v w' → ∃ v', a.put o.dst v = a.put o.dst v' ∧ Below wx.heap.size wx w' ∧ ∀ o', ops[i]? = some o' → tyP T o' v' w' := by
      intro v w' hb hv
      refine ⟨v, rfl, hb, fun o' ho' => ?_⟩
      obtain rfl : o = o' := by rw [ho] at ho'; exact Option.some.inj ho'
      exact hv
    rcases h with ⟨hw, h2⟩ | ⟨hw, h2⟩
    · rw [if_pos (show Region.wanted o (yielded ops a.tmps) = true from hw)]
      refine Or.inl ?_
      unfold Oper.wp
      generalize (execOp a.eval o).run P wx = r at h2
      match r, h2 with
      | .ok (.value v) w', h2 => exact hgo v w' h2.1 h2.2
      | .ok .skip w', h2 => exact hgo undef w' h2.1 h2.2
      | .ok (.enter f args) w', h2 =>
        refine Calls.mono h2 ?_
        rintro e w'' ⟨v, rfl, hb, hv⟩
        exact hgo v w'' hb hv
    · rw [if_neg (by rw [hw]; decide)]
      exact hgo undef wx (Below.refl _ _) h2
  · intro a wx hc hsame hall
    refine hend a wx hc hsame fun d hd => ?_
    unfold outB at hd
    rw [Array.all_eq_false] at hd
    obtain ⟨j, hj, hp⟩ := hd
    have hpd : ops[j].dst = some d := by simpa using hp
    have := hall j ops[j] d (by simp [hj]) hpd ops[j] (by simp [hj])
    rwa [tyP_some hpd] at this
end
end Go.Cit
