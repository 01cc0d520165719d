/- A region that draws its order, told once: each operation is shown to give what is said of its slot, in whatever world has grown out of the first one, from what is said of the slots that it waits for; then so it is whatever order is drawn. No condition on the program. -/
import Derived.Test.YtofagofpeedfcaaRow
import Derived.Orders
namespace Go.Cit
open Go Go.RowKit

section
variable {P : Program} {ops : Array Oper} {Q : Exit → Act → World → Prop}

/-- The slots that the region does not write are as they were. -/
def SameBut (ops : Array Oper) (a0 a : Act) : Prop :=
  a.defers = a0.defers ∧ a.tmps.size = a0.tmps.size ∧ ∀ d, (∀ (i : Nat) (o : Oper), ops[i]? = some o → o.dst ≠ some d) → a.tmps.getD d undef = a0.tmps.getD d undef

/-- Every edge that binds leads back; no two operations write one slot; all slots lie in the frame. -/
def shapeB (ops : Array Oper) (n : Nat) : Bool :=
  (List.range ops.size).all fun i => match ops[i]? with
    | none => true
    | some o => (o.after.all fun e => !Region.binds .any e || decide (e.on < i)) && (match o.dst with | some d => decide (d < n) | none => true) &&
        (List.range i).all fun j => match ops[j]? with
          | none => true
          | some p => match o.dst, p.dst with | some d, some d' => decide (d ≠ d') | _, _ => true

theorem shape_spec {n : Nat} (h : shapeB ops n = true) {i : Nat} {o : Oper} (ho : ops[i]? = some o) :
    (∀ e ∈ o.after, Region.binds .any e = true → e.on < i) ∧ (∀ d, o.dst = some d → d < n) ∧ (∀ j p d, ops[j]? = some p → j < i → o.dst = some d → p.dst ≠ some d) := by
  have hi : i < ops.size := (Array.getElem?_eq_some_iff.1 ho).1
  have h1 := List.all_eq_true.1 h i (List.mem_range.2 hi)
  rw [ho] at h1
  simp only [Bool.and_eq_true] at h1
  obtain ⟨⟨ha, hd⟩, hu⟩ := h1
  refine ⟨fun e he hb => ?_, fun d hdd => ?_, fun j p d hp hji hdd hpd => ?_⟩
  · have := (Array.all_eq_true_iff_forall_mem.1 ha) e he
    simp [hb] at this
    exact this
  · rw [hdd] at hd; simpa using hd
  · have := List.all_eq_true.1 hu j (List.mem_range.2 hji)
    rw [hp] at this
    simp [hdd, hpd] at this

theorem put_getD_same (a : Act) (d : Tmp) (v : Value) (h : d < a.tmps.size) : (a.put (some d) v).tmps.getD d undef = v := by
  simp [Act.put, Array.getD, h]
theorem put_getD_ne (a : Act) (o : Option Tmp) (d : Tmp) (v : Value) (h : o ≠ some d) : (a.put o v).tmps.getD d undef = a.tmps.getD d undef := by
  cases o with
  | none => rfl
  | some e =>
    have hne : e ≠ d := fun h' => h (by rw [h'])
    simp [Act.put, Array.getElem?_setIfInBounds_ne hne]
theorem put_size (a : Act) (o : Option Tmp) (v : Value) : (a.put o v).tmps.size = a.tmps.size := by cases o <;> simp [Act.put]
theorem put_defers (a : Act) (o : Option Tmp) (v : Value) : (a.put o v).defers = a.defers := by cases o <;> rfl

/-- How many are still to come. -/
def toCome (listed : Array Bool) (n : Nat) : Nat := ((List.range n).filter fun i => !listed.getD i true).length
theorem toCome_zero {listed : Array Bool} {n : Nat} (h : toCome listed n = 0) : ∀ i, i < n → listed.getD i true = true := by
  intro i hi
  have := List.eq_nil_of_length_eq_zero h
  have h2 := List.filter_eq_nil_iff.1 this i (List.mem_range.2 hi)
  simpa using h2
theorem filter_le {α : Type} (p q : α → Bool) (hpq : ∀ x, q x = true → p x = true) : ∀ l : List α, (l.filter q).length ≤ (l.filter p).length
  | [] => Nat.le_refl _
  | z :: l => by
    have ih := filter_le p q hpq l
    by_cases hz : q z = true
    · rw [List.filter_cons_of_pos hz, List.filter_cons_of_pos (hpq z hz)]; exact Nat.succ_le_succ ih
    · rw [List.filter_cons_of_neg hz]
      by_cases hz' : p z = true
      · rw [List.filter_cons_of_pos hz']; exact Nat.le_succ_of_le ih
      · rw [List.filter_cons_of_neg hz']; exact ih
theorem filter_lt {α : Type} (p q : α → Bool) (hpq : ∀ x, q x = true → p x = true) : ∀ (l : List α) (x : α), x ∈ l → p x = true → q x = false → (l.filter q).length < (l.filter p).length
  | [], x, hx, _, _ => by simp at hx
  | y :: l, x, hx, hp, hq => by
    rcases List.mem_cons.1 hx with rfl | hx
    · rw [List.filter_cons_of_pos hp, List.filter_cons_of_neg (by rw [hq]; decide)]
      exact Nat.lt_succ_of_le (filter_le p q hpq l)
    · have ih := filter_lt p q hpq l x hx hp hq
      by_cases hy : q y = true
      · rw [List.filter_cons_of_pos hy, List.filter_cons_of_pos (hpq y hy)]; exact Nat.succ_lt_succ ih
      · rw [List.filter_cons_of_neg hy]
        by_cases hy' : p y = true
        · rw [List.filter_cons_of_pos hy']; exact Nat.lt_succ_of_lt ih
        · rw [List.filter_cons_of_neg hy']; exact ih
theorem toCome_set {listed : Array Bool} {n i : Nat} (hi : i < n) (hs : i < listed.size) (h : listed.getD i true = false) : toCome (listed.setIfInBounds i true) n < toCome listed n := by
  refine filter_lt _ _ ?_ _ i (List.mem_range.2 hi) (by simp [h]) ?_
  · intro x hx
    by_cases hxi : i = x
    · subst hxi; simp [h]
    · rw [getD_set_ne true hxi] at hx; exact hx
  · simp [hs]

/-- What one operation has to give. -/
def OpGives (P : Program) (ops : Array Oper) (Q : Exit → Act → World → Prop) (G : World → World → Prop) (Γ : Nat → Value → World → Prop) (i : Nat) (a : Act) (w : World) : Prop :=
  ∀ o, ops[i]? = some o → wpOp P ops Q i (fun a' w' => ∃ v, a' = a.put o.dst v ∧ G w w' ∧ Γ i v w') a w

theorem typed_any {C : World → Prop} {G : World → World → Prop} {Γ : Nat → Value → World → Prop} {a0 : Act}
    (hs : shapeB ops a0.tmps.size = true)
    (hC : ∀ w w', C w → G w w' → C w') (hΓ : ∀ i v w w', C w → G w w' → Γ i v w → Γ i v w')
    (hop : ∀ i o a w, ops[i]? = some o → C w → SameBut ops a0 a → (∀ e ∈ o.after, Region.binds .any e = true → ∀ p d, ops[e.on]? = some p → p.dst = some d → Γ e.on (a.tmps.getD d undef) w) → OpGives P ops Q G Γ i a w)
    (hend : ∀ a w, C w → SameBut ops a0 a → (∀ i o d, ops[i]? = some o → o.dst = some d → Γ i (a.tmps.getD d undef) w) → Q .normal a w) :
    ∀ (fuel : Nat) (listed : Array Bool) (a : Act) (w : World), toCome listed ops.size ≤ fuel → listed.size = ops.size → C w → SameBut ops a0 a →
      (∀ i o d, listed.getD i false = true → ops[i]? = some o → o.dst = some d → Γ i (a.tmps.getD d undef) w) → wpAny P .any ops Q fuel listed a w := by
  have hready : ∀ (listed : Array Bool), listed.size = ops.size → Region.ready .any ops listed = [] → ∀ i, i < ops.size → listed.getD i false = true := by
    intro listed hsz hr i
    induction i using Nat.strongRecOn with
    | ind i ih =>
      intro hi
      cases hl : listed.getD i true with
      | true =>
        have hi' : i < listed.size := by omega
        simpa [Array.getD, hi'] using hl
      | false =>
        exfalso
        have hm : i ∈ Region.ready .any ops listed := by
          rw [mem_ready]
          refine ⟨hl, ops[i], by simp [hi], fun e he hb => ?_⟩
          have := (shape_spec hs (i := i) (o := ops[i]) (by simp [hi])).1 e he hb
          exact ih e.on this (by omega)
        rw [hr] at hm
        simp at hm
  intro fuel
  induction fuel with
  | zero =>
    intro listed a w hf hsz hc hsame hg
    have hall := toCome_zero (Nat.le_zero.1 hf)
    have hr : Region.ready .any ops listed = [] := by
      apply List.eq_nil_iff_forall_not_mem.2
      intro i hi
      rw [mem_ready] at hi
      obtain ⟨h0, o, ho, _⟩ := hi
      rw [hall i (Array.getElem?_eq_some_iff.1 ho).1] at h0
      simp at h0
    exact ⟨hr, hend a w hc hsame fun i o d ho hd => hg i o d (hready listed hsz hr i (Array.getElem?_eq_some_iff.1 ho).1) ho hd⟩
  | succ fuel ih =>
    intro listed a w hf hsz hc hsame hg
    refine ⟨fun hr => hend a w hc hsame fun i o d ho hd => hg i o d (hready listed hsz hr i (Array.getElem?_eq_some_iff.1 ho).1) ho hd, fun i hi => ?_⟩
    obtain ⟨h0, o, ho, hdep⟩ := mem_ready.1 hi
    have hlt : i < ops.size := (Array.getElem?_eq_some_iff.1 ho).1
    have hgive := hop i o a w ho hc hsame (fun e he hb p d hp hd => hg e.on p d (hdep e he hb) hp hd) o ho
    refine wpOp_mono (fun a' w' hk => ?_) hgive
    obtain ⟨v, rfl, hG, hv⟩ := hk
    refine ih _ _ _ ?_ (by simpa using hsz) (hC w w' hc hG) ?_ ?_
    · have := toCome_set (n := ops.size) hlt (by omega) h0
      omega
    · refine ⟨by rw [put_defers]; exact hsame.1, by rw [put_size]; exact hsame.2.1, fun d hd => ?_⟩
      rw [put_getD_ne _ _ _ _ (hd i o ho)]
      exact hsame.2.2 d hd
    · intro j p d hj hp hd
      by_cases hij : i = j
      · subst hij
        obtain rfl : o = p := by rw [ho] at hp; exact Option.some.inj hp
        rw [hd, put_getD_same _ _ _ (by rw [hsame.2.1]; exact (shape_spec hs ho).2.1 d hd)]
        exact hv
      · rw [getD_set_ne false hij] at hj
        have hne : o.dst ≠ some d := by
          rcases Nat.lt_or_gt_of_ne hij with h | h
          · intro e; exact (shape_spec hs hp).2.2 i o d ho h hd e
          · intro e; exact (shape_spec hs ho).2.2 j p d hp h e hd
        rw [put_getD_ne _ _ _ _ hne]
        exact hΓ j _ w w' hc hG (hg j p d hj hp hd)

theorem wp_region_typed {id : Nat} {a0 : Act} {w : World} (C : World → Prop) (G : World → World → Prop) (Γ : Nat → Value → World → Prop)
    (hm : P.follows .mixedOrders = true) (hs : shapeB ops a0.tmps.size = true)
    (hC : ∀ w w', C w → G w w' → C w') (hΓ : ∀ i v w w', C w → G w w' → Γ i v w → Γ i v w') (h0 : C { w with drawn := w.drawn + 1 })
    (hop : ∀ i o a w, ops[i]? = some o → C w → SameBut ops a0 a → (∀ e ∈ o.after, Region.binds .any e = true → ∀ p d, ops[e.on]? = some p → p.dst = some d → Γ e.on (a.tmps.getD d undef) w) → OpGives P ops Q G Γ i a w)
    (hend : ∀ a w, C w → SameBut ops a0 a → (∀ i o d, ops[i]? = some o → o.dst = some d → Γ i (a.tmps.getD d undef) w) → Q .normal a w) :
    (Code.region id ops true).wp P Q a0 w := by
  refine wp_region_any hm (typed_any hs hC hΓ hop hend _ _ _ _ ?_ (by simp) h0 ⟨rfl, rfl, fun _ _ => rfl⟩ ?_)
  · exact Nat.le_trans (List.length_filter_le _ _) (by simp)
  · intro i o d hl
    simp [Array.getD] at hl
end
end Go.Cit
