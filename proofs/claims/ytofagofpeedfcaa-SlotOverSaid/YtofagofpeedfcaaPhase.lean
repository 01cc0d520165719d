/- A region that draws its order, told once, where what is said of the world hangs on which operations are done (a store, an append among them). No condition on the program. -/
import Derived.Test.YtofagofpeedfcaaTy
import Derived.Test.YtofagofpeedfcaaSave
namespace Go.Cit
open Go Go.RowKit

def upd (δ : Nat → Bool) (i : Nat) : Nat → Bool := fun j => if i = j then true else δ j
theorem upd_same (δ : Nat → Bool) (i : Nat) : upd δ i i = true := by simp [upd]
theorem upd_other (δ : Nat → Bool) {i j : Nat} (h : i ≠ j) : upd δ i j = δ j := by simp [upd, h]

/-- What is done has all done that it waits for. -/
def Closed (ops : Array Oper) (δ : Nat → Bool) : Prop :=
  ∀ (i : Nat) (o : Oper), ops[i]? = some o → δ i = true → ∀ e ∈ o.after, Region.binds .any e = true → δ e.on = true

/-- Operation i waits for j, be it through others. -/
def needsB (ops : Array Oper) : Nat → Nat → Nat → Bool
  | 0, _, _ => false
  | f + 1, i, j => match ops[i]? with
    | none => false
    | some o => o.after.any fun e => Region.binds .any e && (decide (e.on = j) || needsB ops f e.on j)

theorem Closed.needs {ops : Array Oper} {δ : Nat → Bool} (h : Closed ops δ) : ∀ (f i j : Nat), needsB ops f i j = true → δ i = true → δ j = true
  | 0, _, _, hn, _ => absurd hn (by simp [needsB])
  | f + 1, i, j, hn, hi => by
    unfold needsB at hn
    split at hn
    · exact absurd hn (by decide)
    · rename_i o ho
      rw [Array.any_eq_true] at hn
      obtain ⟨k, hk, he⟩ := hn
      rw [Bool.and_eq_true, Bool.or_eq_true, decide_eq_true_eq] at he
      have h1 := h i o ho hi _ (Array.getElem_mem hk) he.1
      rcases he.2 with h2 | h2
      · rw [← h2]; exact h1
      · exact Closed.needs h f _ _ h2 h1
/-- What waits for an operation that is not done is not done. -/
theorem Closed.yet {ops : Array Oper} {δ : Nat → Bool} (h : Closed ops δ) (f i j : Nat) (hn : needsB ops f i j = true) (hj : δ j = false) : δ i = false := by
  cases hi : δ i
  · rfl
  · rw [h.needs f i j hn hi] at hj; exact absurd hj (by decide)

theorem needs_lt {ops : Array Oper} {m : Nat} (hs : shapeB ops m = true) : ∀ (f i j : Nat), needsB ops f i j = true → j < i
  | 0, _, _, hn => absurd hn (by simp [needsB])
  | f + 1, i, j, hn => by
    unfold needsB at hn
    split at hn
    · exact absurd hn (by decide)
    · rename_i o ho
      rw [Array.any_eq_true] at hn
      obtain ⟨k, hk, he⟩ := hn
      rw [Bool.and_eq_true, Bool.or_eq_true, decide_eq_true_eq] at he
      have h1 := (shape_spec hs ho).1 _ (Array.getElem_mem hk) he.1
      rcases he.2 with h2 | h2
      · omega
      · have := needs_lt hs f _ _ h2; omega

section
variable {P : Program} {ops : Array Oper} {Q : Exit → Act → World → Prop}

theorem phase_any {C : (Nat → Bool) → World → Prop} {G : Nat → World → World → Prop} {Γ : Nat → Value → World → Prop} {a0 : Act}
    (hs : shapeB ops a0.tmps.size = true)
    (hΓ : ∀ δ i j v w w', i ≠ j → Closed ops δ → δ j = true → δ i = false → C δ w → G i w w' → Γ j v w → Γ j v w')
    (hop : ∀ δ i o a w, ops[i]? = some o → δ i = false → Closed ops δ → Closed ops (upd δ i) → C δ w → SameBut ops a0 a → (∀ e ∈ o.after, Region.binds .any e = true → ∀ p d, ops[e.on]? = some p → p.dst = some d → Γ e.on (a.tmps.getD d undef) w) →
      wpOp P ops Q i (fun a' w' => ∃ v, a' = a.put o.dst v ∧ G i w w' ∧ C (upd δ i) w' ∧ Γ i v w') a w)
    (hend : ∀ δ a w, (∀ i, i < ops.size → δ i = true) → C δ w → SameBut ops a0 a → (∀ i o d, ops[i]? = some o → o.dst = some d → Γ i (a.tmps.getD d undef) w) → Q .normal a w) :
    ∀ (fuel : Nat) (listed : Array Bool) (δ : Nat → Bool) (a : Act) (w : World), toCome listed ops.size ≤ fuel → listed.size = ops.size → (∀ i, δ i = listed.getD i false) → Closed ops δ → C δ w → SameBut ops a0 a →
      (∀ i o d, δ i = true → ops[i]? = some o → o.dst = some d → Γ i (a.tmps.getD d undef) w) → wpAny P .any ops Q fuel listed a w := by
  have hready : ∀ (listed : Array Bool), listed.size = ops.size → Region.ready .any ops listed = [] → ∀ i, i < ops.size → listed.getD i false = true := by
    intro listed hsz hr i
    induction i using Nat.strongRecOn with
    | ind i ih =>
      intro hi
      cases hl : listed.getD i true with
      | true =>
        have hi' : i < listed.size := by omega
        simpa [Array.getD, hi'] using hl
      | false =>
        exfalso
        have hm : i ∈ Region.ready .any ops listed := by
          rw [mem_ready]
          refine ⟨hl, ops[i], by simp [hi], fun e he hb => ?_⟩
          have := (shape_spec hs (i := i) (o := ops[i]) (by simp [hi])).1 e he hb
          exact ih e.on this (by omega)
        rw [hr] at hm
        simp at hm
  intro fuel
  induction fuel with
  | zero =>
    intro listed δ a w hf hsz hδ hcl hc hsame hg
    have hall := toCome_zero (Nat.le_zero.1 hf)
    have hr : Region.ready .any ops listed = [] := by
      apply List.eq_nil_iff_forall_not_mem.2
      intro i hi
      rw [mem_ready] at hi
      obtain ⟨h0, o, ho, _⟩ := hi
      rw [hall i (Array.getElem?_eq_some_iff.1 ho).1] at h0
      simp at h0
    exact ⟨hr, hend δ a w (fun i hi => by rw [hδ]; exact hready listed hsz hr i hi) hc hsame fun i o d ho hd => hg i o d (by rw [hδ]; exact hready listed hsz hr i (Array.getElem?_eq_some_iff.1 ho).1) ho hd⟩
  | succ fuel ih =>
    intro listed δ a w hf hsz hδ hcl hc hsame hg
    refine ⟨fun hr => hend δ a w (fun i hi => by rw [hδ]; exact hready listed hsz hr i hi) hc hsame fun i o d ho hd => hg i o d (by rw [hδ]; exact hready listed hsz hr i (Array.getElem?_eq_some_iff.1 ho).1) ho hd, fun i hi => ?_⟩
    obtain ⟨h0, o, ho, hdep⟩ := mem_ready.1 hi
    have hlt : i < ops.size := (Array.getElem?_eq_some_iff.1 ho).1
    have hδi : δ i = false := by
      rw [hδ]
      have hi' : i < listed.size := by omega
      simpa [Array.getD, hi'] using h0
    have hcl' : Closed ops (upd δ i) := by
      intro j p hp hj e he hb
      by_cases hij : i = j
      · subst hij
        obtain rfl : o = p := by rw [ho] at hp; exact Option.some.inj hp
        unfold upd
        split
        · rfl
        · rw [hδ]; exact hdep e he hb
      · rw [upd_other _ hij] at hj
        have := hcl j p hp hj e he hb
        unfold upd
        split
        · rfl
        · exact this
    have hgive := hop δ i o a w ho hδi hcl hcl' hc hsame (fun e he hb p d hp hd => hg e.on p d (by rw [hδ]; exact hdep e he hb) hp hd)
    refine wpOp_mono (fun a' w' hk => ?_) hgive
    obtain ⟨v, rfl, hG, hc', hv⟩ := hk
    refine ih _ (upd δ i) _ _ ?_ (by simpa using hsz) ?_ hcl' hc' ?_ ?_
    · have := toCome_set (n := ops.size) hlt (by omega) h0
      omega
    · intro j
      by_cases hij : i = j
      · subst hij
        rw [upd_same]
        have hi' : i < listed.size := by omega
        simp [hi']
      · rw [upd_other _ hij, getD_set_ne false hij]; exact hδ j
    · refine ⟨by rw [put_defers]; exact hsame.1, by rw [put_size]; exact hsame.2.1, fun d hd => ?_⟩
      rw [put_getD_ne _ _ _ _ (hd i o ho)]
      exact hsame.2.2 d hd
    · intro j p d hj hp hd
      by_cases hij : i = j
      · subst hij
        obtain rfl : o = p := by rw [ho] at hp; exact Option.some.inj hp
        rw [hd, put_getD_same _ _ _ (by rw [hsame.2.1]; exact (shape_spec hs ho).2.1 d hd)]
        exact hv
      · rw [upd_other _ hij] at hj
        have hne : o.dst ≠ some d := by
          rcases Nat.lt_or_gt_of_ne hij with h | h
          · intro e; exact (shape_spec hs hp).2.2 i o d ho h hd e
          · intro e; exact (shape_spec hs ho).2.2 j p d hp h e hd
        rw [put_getD_ne _ _ _ _ hne]
        exact hΓ δ i j _ w w' hij hcl hj hδi hc hG (hg j p d hj hp hd)

/-- One operation alone leaves slot d. -/
def onlyB (ops : Array Oper) (d j : Nat) : Bool := (List.range ops.size).all fun i => match ops[i]? with | some o => decide (o.dst ≠ some d) || decide (i = j) | none => true
theorem only_spec {ops : Array Oper} {d j : Nat} (h : onlyB ops d j = true) {i : Nat} {o : Oper} (ho : ops[i]? = some o) (hd : o.dst = some d) : i = j := by
  have := List.all_eq_true.1 h i (List.mem_range.2 (Array.getElem?_eq_some_iff.1 ho).1)
  rw [ho] at this
  simpa [hd] using this

/-- The frame behind a region: the one ahead of it, but for the region's slots. -/
theorem foldl_put (a : Act) : ∀ (ds : List Nat) (x : Act), (ds.foldl (fun x d => x.put (some d) (a.eval (.tmp d))) x).tmps.size = x.tmps.size ∧ (ds.foldl (fun x d => x.put (some d) (a.eval (.tmp d))) x).defers = x.defers ∧
    ∀ d, d < x.tmps.size → (ds.foldl (fun x d => x.put (some d) (a.eval (.tmp d))) x).tmps.getD d undef = if ds.contains d then a.tmps.getD d undef else x.tmps.getD d undef
  | [], x => ⟨rfl, rfl, fun d _ => by simp⟩
  | e :: ds, x => by
    obtain ⟨h1, h2, h3⟩ := foldl_put a ds (x.put (some e) (a.eval (.tmp e)))
    refine ⟨h1.trans (put_size _ _ _), h2.trans (put_defers _ _ _), fun d hd => ?_⟩
    rw [List.foldl_cons, h3 d (by rw [put_size]; exact hd)]
    by_cases he : e = d
    · subst he
      rw [put_getD_same _ _ _ hd]
      simp [Act.eval]
    · rw [put_getD_ne _ _ _ _ (fun h => he (Option.some.inj h))]
      have hne : d ≠ e := fun h => he h.symm
      simp [hne]
theorem act_same {ops : Array Oper} {a0 a : Act} (h : SameBut ops a0 a) (ds : List Nat) (hds : ((List.range a0.tmps.size).all fun d => ds.contains d || outB ops d) = true) : a = ds.foldl (fun x d => x.put (some d) (a.eval (.tmp d))) a0 := by
  obtain ⟨h1, h2, h3⟩ := foldl_put a ds a0
  obtain ⟨g1, g2, g3⟩ := h
  have ht : a.tmps = (ds.foldl (fun x d => x.put (some d) (a.eval (.tmp d))) a0).tmps := by
    apply Array.ext
    · rw [h1]; exact g2
    · intro d hd1 hd2
      have hd0 : d < a0.tmps.size := by omega
      have e := h3 d hd0
      have e1 : a.tmps.getD d undef = a.tmps[d] := by simp [Array.getD, hd1]
      have e2 : (ds.foldl (fun x d => x.put (some d) (a.eval (.tmp d))) a0).tmps.getD d undef = (ds.foldl (fun x d => x.put (some d) (a.eval (.tmp d))) a0).tmps[d] := by simp [Array.getD, hd2]
      rw [← e1, ← e2, e]
      by_cases hc : ds.contains d = true
      · rw [if_pos hc]
      · rw [if_neg hc]
        have := List.all_eq_true.1 hds d (List.mem_range.2 hd0)
        rw [Bool.or_eq_true] at this
        rcases this with h | h
        · exact absurd h hc
        · refine g3 d fun i o ho hdo => ?_
          unfold outB at h
          rw [Array.all_eq_true] at h
          obtain ⟨hi, hio⟩ := Array.getElem?_eq_some_iff.1 ho
          have := h i hi
          rw [hio] at this
          simp [hdo] at this
  have hdf : a.defers = (ds.foldl (fun x d => x.put (some d) (a.eval (.tmp d))) a0).defers := by rw [h2]; exact g1
  generalize (ds.foldl (fun x d => x.put (some d) (a.eval (.tmp d))) a0) = z at ht hdf
  cases a; cases z
  simp only at ht hdf
  rw [ht, hdf]

/-- What an operation's result has to be. -/
def GivesP (P : Program) (post : Value → World → Prop) : Result Next → Prop
  | .ok (.value v) w' => post v w'
  | .ok .skip w' => post undef w'
  | .ok (.enter f args) w' => Calls P f args w' fun e w'' => ∃ v, e = .returned v ∧ post v w''
  | _ => False

/-- What is known at one operation. -/
structure KnownP (ops : Array Oper) (C : (Nat → Bool) → World → Prop) (T : Nat → Value → World → Prop) (a0 : Act) (i : Nat) (o : Oper) (δ : Nat → Bool) (a : Act) (w : World) : Prop where
  yet : δ i = false
  closed : Closed ops δ
  next : Closed ops (upd δ i)
  inv : C δ w
  slot : ∀ d, waitsB ops o d = true → T d (a.eval (.tmp d)) w
  old : ∀ d, outB ops d = true → a.eval (.tmp d) = a0.eval (.tmp d)
  lit : ∀ v, a.eval (.const v) = v
  fn : ∀ f, a.eval (.func f) = .func (.func f) #[] #[]

def tyP (T : Nat → Value → World → Prop) (o : Oper) : Value → World → Prop := match o.dst with | some d => T d | none => fun _ _ => True

theorem tyP_some {T : Nat → Value → World → Prop} {o : Oper} {d : Nat} (h : o.dst = some d) (v : Value) (w : World) : tyP T o v w = T d v w := by unfold tyP; rw [h]
theorem tyP_none {T : Nat → Value → World → Prop} {o : Oper} (h : o.dst = none) (v : Value) (w : World) : tyP T o v w := by unfold tyP; rw [h]; trivial

theorem ph_any {a0 : Act} {w : World} (C : (Nat → Bool) → World → Prop) (G : Nat → World → World → Prop) (T : Nat → Value → World → Prop)
    (hs : shapeB ops a0.tmps.size = true)
    (h0 : ∀ w', Below w.heap.size w w' → w'.heap = w.heap → C (fun _ => false) w')
    (hΓ : ∀ δ i j o v w w', ops[j]? = some o → i ≠ j → Closed ops δ → δ j = true → δ i = false → C δ w → G i w w' → tyP T o v w → tyP T o v w')
    (hop : OpsAll (fun n o => ∀ δ a wx, KnownP ops C T a0 n o δ a wx → Wanted ops o a ∧ GivesP P (fun v w' => G n wx w' ∧ C (upd δ n) w' ∧ tyP T o v w') ((execOp a.eval o).run P wx)) ops.toList 0)
    (hend : ∀ δ a wx, (∀ i, i < ops.size → δ i = true) → C δ wx → SameBut ops a0 a → (∀ d, outB ops d = false → T d (a.eval (.tmp d)) wx) → Q .normal a wx) :
    wpAny P .any ops Q ops.size (Array.replicate ops.size false) a0 { w with drawn := w.drawn + 1 } := by
  refine phase_any (C := C) (G := G) (Γ := fun i v wx => ∀ o, ops[i]? = some o → tyP T o v wx) hs ?_ ?_ ?_ _ _ (fun _ => false) _ _ ?_ (by simp) ?_ ?_ (h0 _ ⟨rfl, rfl, rfl, Nat.le_refl _, fun _ _ => rfl⟩ rfl) ⟨rfl, rfl, fun _ _ => rfl⟩ ?_
  · intro δ i j v w w' hij hcl hj hi hc hG h o ho
    exact hΓ δ i j o v w w' ho hij hcl hj hi hc hG (h o ho)
  · intro δ i o a wx ho hi hcl hcl' hc hsame hdep
    have hk : KnownP ops C T a0 i o δ a wx := by
      refine ⟨hi, hcl, hcl', hc, fun d hd => ?_, fun d hd => ?_, fun _ => rfl, fun _ => rfl⟩
      · unfold waitsB at hd
        rw [Array.any_eq_true] at hd
        obtain ⟨k, hk, he⟩ := hd
        rw [Bool.and_eq_true] at he
        obtain ⟨hb, hp⟩ := he
        split at hp
        · rename_i p hpp
          simp only [decide_eq_true_eq] at hp
          have := hdep _ (Array.getElem_mem hk) hb p d hpp hp p hpp
          unfold tyP at this
          rw [hp] at this
          exact this
        · exact absurd hp (by decide)
      · refine hsame.2.2 d fun j p hp hpd => ?_
        unfold outB at hd
        rw [Array.all_eq_true] at hd
        obtain ⟨hj, hjp⟩ := Array.getElem?_eq_some_iff.1 hp
        have := hd j hj
        rw [hjp] at this
        simp [hpd] at this
    have h := OpsAll.get _ _ hop i o (by simpa using ho) δ a wx (by rw [Nat.zero_add]; exact hk)
    unfold wpOp
    rw [ho]
    dsimp only
    rw [if_pos (show Region.wanted o (yielded ops a.tmps) = true from h.1)]
    refine Or.inl ?_
    unfold Oper.wp
    have h2 := h.2
    rw [Nat.zero_add] at h2
    generalize (execOp a.eval o).run P wx = r at h2
    have hgo : ∀ v w', (G i wx w' ∧ C (upd δ i) w' ∧ tyP T o v w') → ∃ v', a.put o.dst v = a.put o.dst v' ∧ G i wx w' ∧ C (upd δ i) w' ∧ ∀ o', some o = some o' → tyP T o' v' w' := by
      rintro v w' ⟨h1, h2, h3⟩
      refine ⟨v, rfl, h1, h2, fun o' ho' => ?_⟩
      obtain rfl : o = o' := Option.some.inj ho'
      exact h3
    match r, h2 with
    | .ok (.value v) w', h2 => exact hgo v w' h2
    | .ok .skip w', h2 => exact hgo undef w' h2
    | .ok (.enter f args) w', h2 =>
      refine Calls.mono h2 ?_
      rintro e w'' ⟨v, rfl, hv⟩
      exact hgo v w'' hv
  · intro δ a wx hall hc hsame hΓ
    refine hend δ a wx hall hc hsame fun d hd => ?_
    unfold outB at hd
    rw [Array.all_eq_false] at hd
    obtain ⟨j, hj, hp⟩ := hd
    have hpd : ops[j].dst = some d := by simpa using hp
    have := hΓ j ops[j] d (by simp [hj]) hpd ops[j] (by simp [hj])
    unfold tyP at this
    rw [hpd] at this
    exact this
  · exact Nat.le_trans (List.length_filter_le _ _) (by simp)
  · intro i; simp [Array.getD]
  · intro i o ho hi; exact absurd hi Bool.false_ne_true
  · intro i o d hl; exact absurd hl Bool.false_ne_true
theorem wp_region_ph {id : Nat} {a0 : Act} {w : World} (C : (Nat → Bool) → World → Prop) (G : Nat → World → World → Prop) (T : Nat → Value → World → Prop)
    (hm : P.follows .mixedOrders = true) (hs : shapeB ops a0.tmps.size = true)
    (h0 : ∀ w', Below w.heap.size w w' → w'.heap = w.heap → C (fun _ => false) w')
    (hΓ : ∀ δ i j o v w w', ops[j]? = some o → i ≠ j → Closed ops δ → δ j = true → δ i = false → C δ w → G i w w' → tyP T o v w → tyP T o v w')
    (hop : OpsAll (fun n o => ∀ δ a wx, KnownP ops C T a0 n o δ a wx → Wanted ops o a ∧ GivesP P (fun v w' => G n wx w' ∧ C (upd δ n) w' ∧ tyP T o v w') ((execOp a.eval o).run P wx)) ops.toList 0)
    (hend : ∀ δ a wx, (∀ i, i < ops.size → δ i = true) → C δ wx → SameBut ops a0 a → (∀ d, outB ops d = false → T d (a.eval (.tmp d)) wx) → Q .normal a wx) :
    (Code.region id ops true).wp P Q a0 w := wp_region_any hm (ph_any C G T hs h0 hΓ hop hend)

section
variable {P : Program} {w : World} {o : Oper} {ρ : Operand → Value} {post : Value → World → Prop}
theorem gp_run {v : Value} {w' : World} (hr : (execOp ρ o).run P w = .ok (.value v) w') (hp : post v w') : GivesP P post ((execOp ρ o).run P w) := by
  rw [hr]; exact hp
theorem gp_skip {w' : World} (hr : (execOp ρ o).run P w = .ok .skip w') (hp : post undef w') : GivesP P post ((execOp ρ o).run P w) := by
  rw [hr]; exact hp
theorem gp_move (x : Operand) (h : o.op = .move x) (hp : post (ρ x) w) : GivesP P post ((execOp ρ o).run P w) := by
  unfold execOp; rw [h]; exact hp
theorem gp_assign (x : Operand) (h : o.op = .assign x) (hp : post (ρ x) w) : GivesP P post ((execOp ρ o).run P w) := by
  unfold execOp; rw [h]; exact hp
theorem gp_call {f : FuncId} {xs : Array Operand} {ts : Array TypeId} (h : o.op = .call { callee := .value (.func f), args := xs, argTypes := ts }) (hf : ρ (.func f) = .func (.func f) #[] #[])
    (args : Array Value) (hcf : ∀ w, (callFunc f args).run P w = .ok (.enter f args) w) (ha : xs.map ρ = args) (hc : Calls P f args w fun e w'' => ∃ v, e = .returned v ∧ post v w'') : GivesP P post ((execOp ρ o).run P w) := by
  unfold execOp; rw [h]; dsimp only; unfold resolve; dsimp only; rw [hf, ha]
  have e : args ++ #[] = args := by simp
  have e2 : (invoke (.fn (.func f) #[]) args : Sem Next).run P w = .ok (.enter f args) w := by
    unfold invoke; dsimp only; rw [e]; exact hcf w
  simp only [Deferred.ofValue, Sem.run_bind, Sem.run_pure, Result.andThen, Array.empty_append, e2]
  exact hc
theorem gp_nil (x : Operand) (h : o.op = .nilCheck x) {a : Addr} (hx : ρ x = .pointer (some a)) (hp : post (.pointer (some a)) w) : GivesP P post ((execOp ρ o).run P w) := by
  refine gp_run (v := .pointer (some a)) (w' := w) ?_ hp
  unfold execOp; rw [h]; dsimp only; rw [hx]; simp [go_sem]
theorem gp_field {T : TypeId} {k : Nat} (x : Operand) (h : o.op = .fieldAddr T x k) {p v : Value} (hx : ρ x = p) (hr : ∀ w, (Instr.fieldAt T p k).run P w = .ok v w) (hp : post v w) : GivesP P post ((execOp ρ o).run P w) := by
  refine gp_run (v := v) (w' := w) ?_ hp
  unfold execOp; rw [h]; dsimp only; rw [hx, Sem.run_bind, hr]; rfl
theorem gp_load {T : TypeId} (x : Operand) (h : o.op = .load T x) {p v : Value} (hx : ρ x = p) (hr : (Instr.loadAt T p).run P w = .ok v w) (hp : post v w) : GivesP P post ((execOp ρ o).run P w) := by
  refine gp_run (v := v) (w' := w) ?_ hp
  unfold execOp; rw [h]; dsimp only; rw [hx, Sem.run_bind, hr]; rfl
theorem gp_index {T : TypeId} (x y : Operand) (h : o.op = .indexAddr T x y) {p q v : Value} (hx : ρ x = p) (hy : ρ y = q) (hr : (Instr.indexAt T p q).run P w = .ok v w) (hp : post v w) : GivesP P post ((execOp ρ o).run P w) := by
  refine gp_run (v := v) (w' := w) ?_ hp
  unfold execOp; rw [h]; dsimp only; rw [hx, hy, Sem.run_bind, hr]; rfl
theorem gp_store {T : TypeId} (x y : Operand) (h : o.op = .store T x y) {p v : Value} {w' : World} (hx : ρ x = p) (hy : ρ y = v) (hr : (Instr.storeAt T p v).run P w = .ok () w') (hp : post undef w') : GivesP P post ((execOp ρ o).run P w) := by
  refine gp_skip (w' := w') ?_ hp
  unfold execOp; rw [h]; dsimp only; rw [hx, hy, Sem.run_bind, hr]; rfl
theorem gp_bin {op : BinOp} {ty u : TypeId} {x y : Operand} (h : o.op = .binOp op ty x y u) {v1 v2 v : Value} (hx : ρ x = v1) (hy : ρ y = v2)
    (hr : ∀ w, (do eqGuard op ty x y v1 v2; binOp op ty v1 v2 : Sem Value).run P w = .ok v w) (hp : post v w) : GivesP P post ((execOp ρ o).run P w) := by
  refine gp_run (v := v) (w' := w) ?_ hp
  unfold execOp; rw [h]; dsimp only; rw [hx, hy]
  have := hr w
  generalize (do eqGuard op ty x y v1 v2; binOp op ty v1 v2 : Sem Value) = s at this
  rw [Sem.run_bind, this]; rfl
theorem gp_append {T E : TypeId} (hBT : ByteTypes P T E) (s x : Operand) (ho : o.op = .call { callee := .builtin .append, args := #[s, x], argTypes := #[T, T] }) {base : Nat}
    {a b : Option Addr} {l m : List UInt8} {cap c : Nat} (hown : Own E base w a l cap) (hm : Row w b m c) (hne : m ≠ []) (hlen : l.length + m.length ≤ 1000000000) (hbase : base ≤ w.heap.size)
    (hs : ρ s = .slice a l.length cap) (hx : ρ x = .slice b m.length c)
    (h : ∀ a' cap' w', Own E base w' a' (l ++ m) cap' → w.grownBy w' (blk a) → Near w.heap.size a a' → post (.slice a' (l ++ m).length cap') w') : GivesP P post ((execOp ρ o).run P w) := by
  obtain ⟨i, hi, hz0, hz1, hz2⟩ := info_parts hBT.info
  obtain ⟨g, off, rfl⟩ := hm.spot hne
  obtain ⟨g', cap', w', hr, hown', hgr, hat, hlt⟩ := run_append_lies (P := P) w T o.type base E i (.int .u8 0) 1 1 hBT.slice hi hz0 hz1 hz2 rfl (by decide) _ l.length (l.map vb) hown.row ⟨g, off, none⟩ m.length c (m.map vb) (by simp) (news_row hm) one_vb (List.length_pos_iff.2 hne) (by unfold maxLen; omega) (by omega) hbase w.heap.size rfl
  rw [ownBlock_slice] at hgr hat
  rw [← List.length_append, ← List.map_append] at hown'
  rw [← List.length_append] at hr
  refine gp_run (v := .slice (some ⟨g', 0, none⟩) (l ++ m).length cap') (w' := w') ?_ (h (some ⟨g', 0, none⟩) cap' w' ⟨hown'⟩ hgr (fun k hk => ?_))
  · unfold execOp
    simp only [ho, resolve, invoke, builtin, Sem.run_bind, Sem.run_pure, Result.andThen_ok, List.map_toArray, List.map_cons, List.map_nil, hs, hx, hr]
  · simp only [blk, Option.map_some, Option.some.injEq] at hk
    subst hk
    rcases hat with h1 | h1
    · exact .inl h1
    · exact .inr (by omega)
end
end
end Go.Cit
