/- A region that draws its order, where what is said of the world hangs on slots too. No condition on the program. -/
import Derived.Test.YtofagofpeedfcaaPhase
namespace Go.Cit
open Go Go.RowKit

section
variable {P : Program} {ops : Array Oper} {Q : Exit → Act → World → Prop}

theorem phase_st {C : (Nat → Bool) → Act → World → Prop} {G : Nat → World → World → Prop} {Γ : Nat → Value → World → Prop} {a0 : Act}
    (hs : shapeB ops a0.tmps.size = true)
    (hΓ : ∀ δ i j v a w w', i ≠ j → Closed ops δ → δ j = true → δ i = false → C δ a w → G i w w' → Γ j v w → Γ j v w')
    (hop : ∀ δ i o a w, ops[i]? = some o → δ i = false → Closed ops δ → Closed ops (upd δ i) → C δ a w → SameBut ops a0 a → (∀ e ∈ o.after, Region.binds .any e = true → ∀ p d, ops[e.on]? = some p → p.dst = some d → Γ e.on (a.tmps.getD d undef) w) →
      wpOp P ops Q i (fun a' w' => ∃ v, a' = a.put o.dst v ∧ G i w w' ∧ C (upd δ i) a' w' ∧ Γ i v w') a w)
    (hend : ∀ δ a w, (∀ i, i < ops.size → δ i = true) → C δ a w → SameBut ops a0 a → (∀ i o d, ops[i]? = some o → o.dst = some d → Γ i (a.tmps.getD d undef) w) → Q .normal a w) :
    ∀ (fuel : Nat) (listed : Array Bool) (δ : Nat → Bool) (a : Act) (w : World), toCome listed ops.size ≤ fuel → listed.size = ops.size → (∀ i, δ i = listed.getD i false) → Closed ops δ → C δ a w → SameBut ops a0 a →
      (∀ i o d, δ i = true → ops[i]? = some o → o.dst = some d → Γ i (a.tmps.getD d undef) w) → wpAny P .any ops Q fuel listed a w := by
  have hready : ∀ (listed : Array Bool), listed.size = ops.size → Region.ready .any ops listed = [] → ∀ i, i < ops.size → listed.getD i false = true := by
    intro listed hsz hr i
    induction i using Nat.strongRecOn with
    | ind i ih =>
      intro hi
      cases hl : listed.getD i true with
      | true =>
        have hi' : i < listed.size := by omega
        simpa [Array.getD, hi'] using hl
      | false =>
        exfalso
        have hm : i ∈ Region.ready .any ops listed := by
          rw [mem_ready]
          refine ⟨hl, ops[i], by simp [hi], fun e he hb => ?_⟩
          have := (shape_spec hs (i := i) (o := ops[i]) (by simp [hi])).1 e he hb
          exact ih e.on this (by omega)
        rw [hr] at hm
        simp at hm
  intro fuel
  induction fuel with
  | zero =>
    intro listed δ a w hf hsz hδ hcl hc hsame hg
    have hall := toCome_zero (Nat.le_zero.1 hf)
    have hr : Region.ready .any ops listed = [] := by
      apply List.eq_nil_iff_forall_not_mem.2
      intro i hi
      rw [mem_ready] at hi
      obtain ⟨h0, o, ho, _⟩ := hi
      rw [hall i (Array.getElem?_eq_some_iff.1 ho).1] at h0
      simp at h0
    exact ⟨hr, hend δ a w (fun i hi => by rw [hδ]; exact hready listed hsz hr i hi) hc hsame fun i o d ho hd => hg i o d (by rw [hδ]; exact hready listed hsz hr i (Array.getElem?_eq_some_iff.1 ho).1) ho hd⟩
  | succ fuel ih =>
    intro listed δ a w hf hsz hδ hcl hc hsame hg
    refine ⟨fun hr => hend δ a w (fun i hi => by rw [hδ]; exact hready listed hsz hr i hi) hc hsame fun i o d ho hd => hg i o d (by rw [hδ]; exact hready listed hsz hr i (Array.getElem?_eq_some_iff.1 ho).1) ho hd, fun i hi => ?_⟩
    obtain ⟨h0, o, ho, hdep⟩ := mem_ready.1 hi
    have hlt : i < ops.size := (Array.getElem?_eq_some_iff.1 ho).1
    have hδi : δ i = false := by
      rw [hδ]
      have hi' : i < listed.size := by omega
      simpa [Array.getD, hi'] using h0
    have hcl' : Closed ops (upd δ i) := by
      intro j p hp hj e he hb
      by_cases hij : i = j
      · subst hij
        obtain rfl : o = p := by rw [ho] at hp; exact Option.some.inj hp
        unfold upd
        split
        · rfl
        · rw [hδ]; exact hdep e he hb
      · rw [upd_other _ hij] at hj
        have := hcl j p hp hj e he hb
        unfold upd
        split
        · rfl
        · exact this
    have hgive := hop δ i o a w ho hδi hcl hcl' hc hsame (fun e he hb p d hp hd => hg e.on p d (by rw [hδ]; exact hdep e he hb) hp hd)
    refine wpOp_mono (fun a' w' hk => ?_) hgive
    obtain ⟨v, rfl, hG, hc', hv⟩ := hk
    refine ih _ (upd δ i) _ _ ?_ (by simpa using hsz) ?_ hcl' hc' ?_ ?_
    · have := toCome_set (n := ops.size) hlt (by omega) h0
      omega
    · intro j
      by_cases hij : i = j
      · subst hij
        rw [upd_same]
        have hi' : i < listed.size := by omega
        simp [hi']
      · rw [upd_other _ hij, getD_set_ne false hij]; exact hδ j
    · refine ⟨by rw [put_defers]; exact hsame.1, by rw [put_size]; exact hsame.2.1, fun d hd => ?_⟩
      rw [put_getD_ne _ _ _ _ (hd i o ho)]
      exact hsame.2.2 d hd
    · intro j p d hj hp hd
      by_cases hij : i = j
      · subst hij
        obtain rfl : o = p := by rw [ho] at hp; exact Option.some.inj hp
        rw [hd, put_getD_same _ _ _ (by rw [hsame.2.1]; exact (shape_spec hs ho).2.1 d hd)]
        exact hv
      · rw [upd_other _ hij] at hj
        have hne : o.dst ≠ some d := by
          rcases Nat.lt_or_gt_of_ne hij with h | h
          · intro e; exact (shape_spec hs hp).2.2 i o d ho h hd e
          · intro e; exact (shape_spec hs ho).2.2 j p d hp h e hd
        rw [put_getD_ne _ _ _ _ hne]
        exact hΓ δ i j _ _ w w' hij hcl hj hδi hc hG (hg j p d hj hp hd)

/-- What is known at one operation. -/
structure KnownS (ops : Array Oper) (C : (Nat → Bool) → Act → World → Prop) (T : Nat → Value → World → Prop) (a0 : Act) (i : Nat) (o : Oper) (δ : Nat → Bool) (a : Act) (w : World) : Prop where
  yet : δ i = false
  closed : Closed ops δ
  next : Closed ops (upd δ i)
  inv : C δ a w
  same : SameBut ops a0 a
  slot : ∀ d, waitsB ops o d = true → T d (a.eval (.tmp d)) w
  old : ∀ d, outB ops d = true → a.eval (.tmp d) = a0.eval (.tmp d)
  lit : ∀ v, a.eval (.const v) = v
  fn : ∀ f, a.eval (.func f) = .func (.func f) #[] #[]

theorem ph_st {a0 : Act} {w : World} (C : (Nat → Bool) → Act → World → Prop) (G : Nat → World → World → Prop) (T : Nat → Value → World → Prop)
    (hs : shapeB ops a0.tmps.size = true)
    (h0 : ∀ w', Below w.heap.size w w' → w'.heap = w.heap → C (fun _ => false) a0 w')
    (hΓ : ∀ δ i j o v a w w', ops[j]? = some o → i ≠ j → Closed ops δ → δ j = true → δ i = false → C δ a w → G i w w' → tyP T o v w → tyP T o v w')
    (hop : OpsAll (fun n o => ∀ δ a wx, KnownS ops C T a0 n o δ a wx → Wanted ops o a ∧ GivesP P (fun v w' => G n wx w' ∧ C (upd δ n) (a.put o.dst v) w' ∧ tyP T o v w') ((execOp a.eval o).run P wx)) ops.toList 0)
    (hend : ∀ δ a wx, (∀ i, i < ops.size → δ i = true) → C δ a wx → SameBut ops a0 a → (∀ d, outB ops d = false → T d (a.eval (.tmp d)) wx) → Q .normal a wx) :
    wpAny P .any ops Q ops.size (Array.replicate ops.size false) a0 { w with drawn := w.drawn + 1 } := by
  refine phase_st (C := C) (G := G) (Γ := fun i v wx => ∀ o, ops[i]? = some o → tyP T o v wx) hs ?_ ?_ ?_ _ _ (fun _ => false) _ _ ?_ (by simp) ?_ ?_ (h0 _ ⟨rfl, rfl, rfl, Nat.le_refl _, fun _ _ => rfl⟩ rfl) ⟨rfl, rfl, fun _ _ => rfl⟩ ?_
  · intro δ i j v a w w' hij hcl hj hi hc hG h o ho
    exact hΓ δ i j o v a w w' ho hij hcl hj hi hc hG (h o ho)
  · intro δ i o a wx ho hi hcl hcl' hc hsame hdep
    have hk : KnownS ops C T a0 i o δ a wx := by
      refine ⟨hi, hcl, hcl', hc, hsame, fun d hd => ?_, fun d hd => ?_, fun _ => rfl, fun _ => rfl⟩
      · unfold waitsB at hd
        rw [Array.any_eq_true] at hd
        obtain ⟨k, hk, he⟩ := hd
        rw [Bool.and_eq_true] at he
        obtain ⟨hb, hp⟩ := he
        split at hp
        · rename_i p hpp
          simp only [decide_eq_true_eq] at hp
          have := hdep _ (Array.getElem_mem hk) hb p d hpp hp p hpp
          unfold tyP at this
          rw [hp] at this
          exact this
        · exact absurd hp (by decide)
      · refine hsame.2.2 d fun j p hp hpd => ?_
        unfold outB at hd
        rw [Array.all_eq_true] at hd
        obtain ⟨hj, hjp⟩ := Array.getElem?_eq_some_iff.1 hp
        have := hd j hj
        rw [hjp] at this
        simp [hpd] at this
    have h := OpsAll.get _ _ hop i o (by simpa using ho) δ a wx (by rw [Nat.zero_add]; exact hk)
    unfold wpOp
    rw [ho]
    dsimp only
    rw [if_pos (show Region.wanted o (yielded ops a.tmps) = true from h.1)]
    refine Or.inl ?_
    unfold Oper.wp
    have h2 := h.2
    rw [Nat.zero_add] at h2
    generalize (execOp a.eval o).run P wx = r at h2
    have hgo : ∀ v w', (G i wx w' ∧ C (upd δ i) (a.put o.dst v) w' ∧ tyP T o v w') → ∃ v', a.put o.dst v = a.put o.dst v' ∧ G i wx w' ∧ C (upd δ i) (a.put o.dst v) w' ∧ ∀ o', some o = some o' → tyP T o' v' w' := by
      rintro v w' ⟨h1, h2, h3⟩
      refine ⟨v, rfl, h1, h2, fun o' ho' => ?_⟩
      obtain rfl : o = o' := Option.some.inj ho'
      exact h3
    match r, h2 with
    | .ok (.value v) w', h2 => exact hgo v w' h2
    | .ok .skip w', h2 => exact hgo undef w' h2
    | .ok (.enter f args) w', h2 =>
      refine Calls.mono h2 ?_
      rintro e w'' ⟨v, rfl, hv⟩
      exact hgo v w'' hv
  · intro δ a wx hall hc hsame hΓ
    refine hend δ a wx hall hc hsame fun d hd => ?_
    unfold outB at hd
    rw [Array.all_eq_false] at hd
    obtain ⟨j, hj, hp⟩ := hd
    have hpd : ops[j].dst = some d := by simpa using hp
    have := hΓ j ops[j] d (by simp [hj]) hpd ops[j] (by simp [hj])
    unfold tyP at this
    rw [hpd] at this
    exact this
  · exact Nat.le_trans (List.length_filter_le _ _) (by simp)
  · intro i; simp [Array.getD]
  · intro i o ho hi; exact absurd hi Bool.false_ne_true
  · intro i o d hl; exact absurd hl Bool.false_ne_true
theorem wp_region_st {id : Nat} {a0 : Act} {w : World} (C : (Nat → Bool) → Act → World → Prop) (G : Nat → World → World → Prop) (T : Nat → Value → World → Prop)
    (hm : P.follows .mixedOrders = true) (hs : shapeB ops a0.tmps.size = true)
    (h0 : ∀ w', Below w.heap.size w w' → w'.heap = w.heap → C (fun _ => false) a0 w')
    (hΓ : ∀ δ i j o v a w w', ops[j]? = some o → i ≠ j → Closed ops δ → δ j = true → δ i = false → C δ a w → G i w w' → tyP T o v w → tyP T o v w')
    (hop : OpsAll (fun n o => ∀ δ a wx, KnownS ops C T a0 n o δ a wx → Wanted ops o a ∧ GivesP P (fun v w' => G n wx w' ∧ C (upd δ n) (a.put o.dst v) w' ∧ tyP T o v w') ((execOp a.eval o).run P wx)) ops.toList 0)
    (hend : ∀ δ a wx, (∀ i, i < ops.size → δ i = true) → C δ a wx → SameBut ops a0 a → (∀ d, outB ops d = false → T d (a.eval (.tmp d)) wx) → Q .normal a wx) :
    (Code.region id ops true).wp P Q a0 w := wp_region_any hm (ph_st C G T hs h0 hΓ hop hend)

end
end Go.Cit
