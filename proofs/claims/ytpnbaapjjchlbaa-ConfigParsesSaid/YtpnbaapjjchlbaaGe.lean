/- Texts of the proof, one behind the other: Phase, PhaseSt, Boxes, Vec0. No condition but those that each names. -/
import Derived.Test.YtpnbaapjjchlbaaGb
import Derived.Test.YtpnbaapjjchlbaaGc
import Derived.Deep.AppendSrc
/- A region that draws its order, told once, where what is said of the world hangs on which operations are done (a store, an append among them). No condition on the program. -/
namespace Go.Cit
open Go Go.RowKit

def upd (δ : Nat → Bool) (i : Nat) : Nat → Bool := fun j => if i = j then true else δ j
theorem upd_same (δ : Nat → Bool) (i : Nat) : upd δ i i = true := by simp [upd]
theorem upd_other (δ : Nat → Bool) {i j : Nat} (h : i ≠ j) : upd δ i j = δ j := by simp [upd, h]

/-- What is done has all done that it waits for. -/
def Closed (ops : Array Oper) (δ : Nat → Bool) : Prop :=
  ∀ (i : Nat) (o : Oper), ops[i]? = some o → δ i = true → ∀ e ∈ o.after, Region.binds .any e = true → δ e.on = true

/-- Operation i waits for j, be it through others. -/
def needsB (ops : Array Oper) : Nat → Nat → Nat → Bool
  | 0, _, _ => false
  | f + 1, i, j => match ops[i]? with
    | none => false
    | some o => o.after.any fun e => Region.binds .any e && (decide (e.on = j) || needsB ops f e.on j)

theorem Closed.needs {ops : Array Oper} {δ : Nat → Bool} (h : Closed ops δ) : ∀ (f i j : Nat), needsB ops f i j = true → δ i = true → δ j = true
  | 0, _, _, hn, _ => absurd hn (by simp [needsB])
  | f + 1, i, j, hn, hi => by
    unfold needsB at hn
    split at hn
    · exact absurd hn (by decide)
    · rename_i o ho
      rw [Array.any_eq_true] at hn
      obtain ⟨k, hk, he⟩ := hn
      rw [Bool.and_eq_true, Bool.or_eq_true, decide_eq_true_eq] at he
      have h1 := h i o ho hi _ (Array.getElem_mem hk) he.1
      rcases he.2 with h2 | h2
      · rw [← h2]; exact h1
      · exact Closed.needs h f _ _ h2 h1
/-- What waits for an operation that is not done is not done. -/
theorem Closed.yet {ops : Array Oper} {δ : Nat → Bool} (h : Closed ops δ) (f i j : Nat) (hn : needsB ops f i j = true) (hj : δ j = false) : δ i = false := by
  cases hi : δ i
  · rfl
  · rw [h.needs f i j hn hi] at hj; exact absurd hj (by decide)

theorem needs_lt {ops : Array Oper} {m : Nat} (hs : shapeB ops m = true) : ∀ (f i j : Nat), needsB ops f i j = true → j < i
  | 0, _, _, hn => absurd hn (by simp [needsB])
  | f + 1, i, j, hn => by
    unfold needsB at hn
    split at hn
    · exact absurd hn (by decide)
    · rename_i o ho
      rw [Array.any_eq_true] at hn
      obtain ⟨k, hk, he⟩ := hn
      rw [Bool.and_eq_true, Bool.or_eq_true, decide_eq_true_eq] at he
      have h1 := (shape_spec hs ho).1 _ (Array.getElem_mem hk) he.1
      rcases he.2 with h2 | h2
      · omega
      · have := needs_lt hs f _ _ h2; omega

section
variable {P : Program} {ops : Array Oper} {Q : Exit → Act → World → Prop}

theorem phase_any {C : (Nat → Bool) → World → Prop} {G : Nat → World → World → Prop} {Γ : Nat → Value → World → Prop} {a0 : Act}
    (hs : shapeB ops a0.tmps.size = true)
    (hΓ : ∀ δ i j v w w', i ≠ j → Closed ops δ → δ j = true → δ i = false → C δ w → G i w w' → Γ j v w → Γ j v w')
    (hop : ∀ δ i o a w, ops[i]? = some o → δ i = false → Closed ops δ → Closed ops (upd δ i) → C δ w → SameBut ops a0 a → (∀ e ∈ o.after, Region.binds .any e = true → ∀ p d, ops[e.on]? = some p → p.dst = some d → Γ e.on (a.tmps.getD d undef) w) →
      wpOp P ops Q i (fun a' w' => ∃ v, a' = a.put o.dst v ∧ G i w w' ∧ C (upd δ i) w' ∧ Γ i v w') a w)
    (hend : ∀ δ a w, (∀ i, i < ops.size → δ i = true) → C δ w → SameBut ops a0 a → (∀ i o d, ops[i]? = some o → o.dst = some d → Γ i (a.tmps.getD d undef) w) → Q .normal a w) :
    ∀ (fuel : Nat) (listed : Array Bool) (δ : Nat → Bool) (a : Act) (w : World), toCome listed ops.size ≤ fuel → listed.size = ops.size → (∀ i, δ i = listed.getD i false) → Closed ops δ → C δ w → SameBut ops a0 a →
      (∀ i o d, δ i = true → ops[i]? = some o → o.dst = some d → Γ i (a.tmps.getD d undef) w) → wpAny P .any ops Q fuel listed a w := by
  have hready : ∀ (listed : Array Bool), listed.size = ops.size → Region.ready .any ops listed = [] → ∀ i, i < ops.size → listed.getD i false = true := by
    intro listed hsz hr i
    induction i using Nat.strongRecOn with
    | ind i ih =>
      intro hi
      cases hl : listed.getD i true with
      | true =>
        have hi' : i < listed.size := by omega
        simpa [Array.getD, hi'] using hl
      | false =>
        exfalso
        have hm : i ∈ Region.ready .any ops listed := by
          rw [mem_ready]
          refine ⟨hl, ops[i], by simp [hi], fun e he hb => ?_⟩
          have := (shape_spec hs (i := i) (o := ops[i]) (by simp [hi])).1 e he hb
          exact ih e.on this (by omega)
        rw [hr] at hm
        simp at hm
  intro fuel
  induction fuel with
  | zero =>
    intro listed δ a w hf hsz hδ hcl hc hsame hg
    have hall := toCome_zero (Nat.le_zero.1 hf)
    have hr : Region.ready .any ops listed = [] := by
      apply List.eq_nil_iff_forall_not_mem.2
      intro i hi
      rw [mem_ready] at hi
      obtain ⟨h0, o, ho, _⟩ := hi
      rw [hall i (Array.getElem?_eq_some_iff.1 ho).1] at h0
      simp at h0
    exact ⟨hr, hend δ a w (fun i hi => by rw [hδ]; exact hready listed hsz hr i hi) hc hsame fun i o d ho hd => hg i o d (by rw [hδ]; exact hready listed hsz hr i (Array.getElem?_eq_some_iff.1 ho).1) ho hd⟩
  | succ fuel ih =>
    intro listed δ a w hf hsz hδ hcl hc hsame hg
    refine ⟨fun hr => hend δ a w (fun i hi => by rw [hδ]; exact hready listed hsz hr i hi) hc hsame fun i o d ho hd => hg i o d (by rw [hδ]; exact hready listed hsz hr i (Array.getElem?_eq_some_iff.1 ho).1) ho hd, fun i hi => ?_⟩
    obtain ⟨h0, o, ho, hdep⟩ := mem_ready.1 hi
    have hlt : i < ops.size := (Array.getElem?_eq_some_iff.1 ho).1
    have hδi : δ i = false := by
      rw [hδ]
      have hi' : i < listed.size := by omega
      simpa [Array.getD, hi'] using h0
    have hcl' : Closed ops (upd δ i) := by
      intro j p hp hj e he hb
      by_cases hij : i = j
      · subst hij
        obtain rfl : o = p := by rw [ho] at hp; exact Option.some.inj hp
        unfold upd
        split
        · rfl
        · rw [hδ]; exact hdep e he hb
      · rw [upd_other _ hij] at hj
        have := hcl j p hp hj e he hb
        unfold upd
        split
        · rfl
        · exact this
    have hgive := hop δ i o a w ho hδi hcl hcl' hc hsame (fun e he hb p d hp hd => hg e.on p d (by rw [hδ]; exact hdep e he hb) hp hd)
    refine wpOp_mono (fun a' w' hk => ?_) hgive
    obtain ⟨v, rfl, hG, hc', hv⟩ := hk
    refine ih _ (upd δ i) _ _ ?_ (by simpa using hsz) ?_ hcl' hc' ?_ ?_
    · have := toCome_set (n := ops.size) hlt (by omega) h0
      omega
    · intro j
      by_cases hij : i = j
      · subst hij
        rw [upd_same]
        have hi' : i < listed.size := by omega
        simp [hi']
      · rw [upd_other _ hij, getD_set_ne false hij]; exact hδ j
    · refine ⟨by rw [put_defers]; exact hsame.1, by rw [put_size]; exact hsame.2.1, fun d hd => ?_⟩
      rw [put_getD_ne _ _ _ _ (hd i o ho)]
      exact hsame.2.2 d hd
    · intro j p d hj hp hd
      by_cases hij : i = j
      · subst hij
        obtain rfl : o = p := by rw [ho] at hp; exact Option.some.inj hp
        rw [hd, put_getD_same _ _ _ (by rw [hsame.2.1]; exact (shape_spec hs ho).2.1 d hd)]
        exact hv
      · rw [upd_other _ hij] at hj
        have hne : o.dst ≠ some d := by
          rcases Nat.lt_or_gt_of_ne hij with h | h
          · intro e; exact (shape_spec hs hp).2.2 i o d ho h hd e
          · intro e; exact (shape_spec hs ho).2.2 j p d hp h e hd
        rw [put_getD_ne _ _ _ _ hne]
        exact hΓ δ i j _ w w' hij hcl hj hδi hc hG (hg j p d hj hp hd)

/-- One operation alone leaves slot d. -/
def onlyB (ops : Array Oper) (d j : Nat) : Bool := (List.range ops.size).all fun i => match ops[i]? with | some o => decide (o.dst ≠ some d) || decide (i = j) | none => true
theorem only_spec {ops : Array Oper} {d j : Nat} (h : onlyB ops d j = true) {i : Nat} {o : Oper} (ho : ops[i]? = some o) (hd : o.dst = some d) : i = j := by
  have := List.all_eq_true.1 h i (List.mem_range.2 (Array.getElem?_eq_some_iff.1 ho).1)
  rw [ho] at this
  simpa [hd] using this

/-- The frame behind a region: the one ahead of it, but for the region's slots. -/
theorem foldl_put (a : Act) : ∀ (ds : List Nat) (x : Act), (ds.foldl (fun x d => x.put (some d) (a.eval (.tmp d))) x).tmps.size = x.tmps.size ∧ (ds.foldl (fun x d => x.put (some d) (a.eval (.tmp d))) x).defers = x.defers ∧
    ∀ d, d < x.tmps.size → (ds.foldl (fun x d => x.put (some d) (a.eval (.tmp d))) x).tmps.getD d undef = if ds.contains d then a.tmps.getD d undef else x.tmps.getD d undef
  | [], x => ⟨rfl, rfl, fun d _ => by simp⟩
  | e :: ds, x => by
    obtain ⟨h1, h2, h3⟩ := foldl_put a ds (x.put (some e) (a.eval (.tmp e)))
    refine ⟨h1.trans (put_size _ _ _), h2.trans (put_defers _ _ _), fun d hd => ?_⟩
    rw [List.foldl_cons, h3 d (by rw [put_size]; exact hd)]
    by_cases he : e = d
    · subst he
      rw [put_getD_same _ _ _ hd]
      simp [Act.eval]
    · rw [put_getD_ne _ _ _ _ (fun h => he (Option.some.inj h))]
      have hne : d ≠ e := fun h => he h.symm
      simp [hne]
theorem act_same {ops : Array Oper} {a0 a : Act} (h : SameBut ops a0 a) (ds : List Nat) (hds : ((List.range a0.tmps.size).all fun d => ds.contains d || outB ops d) = true) : a = ds.foldl (fun x d => x.put (some d) (a.eval (.tmp d))) a0 := by
  obtain ⟨h1, h2, h3⟩ := foldl_put a ds a0
  obtain ⟨g1, g2, g3⟩ := h
  have ht : a.tmps = (ds.foldl (fun x d => x.put (some d) (a.eval (.tmp d))) a0).tmps := by
    apply Array.ext
    · rw [h1]; exact g2
    · intro d hd1 hd2
      have hd0 : d < a0.tmps.size := by omega
      have e := h3 d hd0
      have e1 : a.tmps.getD d undef = a.tmps[d] := by simp [Array.getD, hd1]
      have e2 : (ds.foldl (fun x d => x.put (some d) (a.eval (.tmp d))) a0).tmps.getD d undef = (ds.foldl (fun x d => x.put (some d) (a.eval (.tmp d))) a0).tmps[d] := by simp [Array.getD, hd2]
      rw [← e1, ← e2, e]
      by_cases hc : ds.contains d = true
      · rw [if_pos hc]
      · rw [if_neg hc]
        have := List.all_eq_true.1 hds d (List.mem_range.2 hd0)
        rw [Bool.or_eq_true] at this
        rcases this with h | h
        · exact absurd h hc
        · refine g3 d fun i o ho hdo => ?_
          unfold outB at h
          rw [Array.all_eq_true] at h
          obtain ⟨hi, hio⟩ := Array.getElem?_eq_some_iff.1 ho
          have := h i hi
          rw [hio] at this
          simp [hdo] at this
  have hdf : a.defers = (ds.foldl (fun x d => x.put (some d) (a.eval (.tmp d))) a0).defers := by rw [h2]; exact g1
  generalize (ds.foldl (fun x d => x.put (some d) (a.eval (.tmp d))) a0) = z at ht hdf
  cases a; cases z
  simp only at ht hdf
  rw [ht, hdf]

/-- What an operation's result has to be. -/
def GivesP (P : Program) (post : Value → World → Prop) : Result Next → Prop
  | .ok (.value v) w' => post v w'
  | .ok .skip w' => post undef w'
  | .ok (.enter f args) w' => Calls P f args w' fun e w'' => ∃ v, e = .returned v ∧ post v w''
  | _ => False

/-- What is known at one operation. -/
structure KnownP (ops : Array Oper) (C : (Nat → Bool) → World → Prop) (T : Nat → Value → World → Prop) (a0 : Act) (i : Nat) (o : Oper) (δ : Nat → Bool) (a : Act) (w : World) : Prop where
  yet : δ i = false
  closed : Closed ops δ
  next : Closed ops (upd δ i)
  inv : C δ w
  slot : ∀ d, waitsB ops o d = true → T d (a.eval (.tmp d)) w
  old : ∀ d, outB ops d = true → a.eval (.tmp d) = a0.eval (.tmp d)
  lit : ∀ v, a.eval (.const v) = v
  fn : ∀ f, a.eval (.func f) = .func (.func f) #[] #[]

def tyP (T : Nat → Value → World → Prop) (o : Oper) : Value → World → Prop := match o.dst with | some d => T d | none => fun _ _ => True

theorem tyP_some {T : Nat → Value → World → Prop} {o : Oper} {d : Nat} (h : o.dst = some d) (v : Value) (w : World) : tyP T o v w = T d v w := by unfold tyP; rw [h]
theorem tyP_none {T : Nat → Value → World → Prop} {o : Oper} (h : o.dst = none) (v : Value) (w : World) : tyP T o v w := by unfold tyP; rw [h]; trivial

theorem ph_any {a0 : Act} {w : World} (C : (Nat → Bool) → World → Prop) (G : Nat → World → World → Prop) (T : Nat → Value → World → Prop)
    (hs : shapeB ops a0.tmps.size = true)
    (h0 : ∀ w', Below w.heap.size w w' → w'.heap = w.heap → C (fun _ => false) w')
    (hΓ : ∀ δ i j o v w w', ops[j]? = some o → i ≠ j → Closed ops δ → δ j = true → δ i = false → C δ w → G i w w' → tyP T o v w → tyP T o v w')
    (hop : OpsAll (fun n o => ∀ δ a wx, KnownP ops C T a0 n o δ a wx → Wanted ops o a ∧ GivesP P (fun v w' => G n wx w' ∧ C (upd δ n) w' ∧ tyP T o v w') ((execOp a.eval o).run P wx)) ops.toList 0)
    (hend : ∀ δ a wx, (∀ i, i < ops.size → δ i = true) → C δ wx → SameBut ops a0 a → (∀ d, outB ops d = false → T d (a.eval (.tmp d)) wx) → Q .normal a wx) :
    wpAny P .any ops Q ops.size (Array.replicate ops.size false) a0 { w with drawn := w.drawn + 1 } := by
  refine phase_any (C := C) (G := G) (Γ := fun i v wx => ∀ o, ops[i]? = some o → tyP T o v wx) hs ?_ ?_ ?_ _ _ (fun _ => false) _ _ ?_ (by simp) ?_ ?_ (h0 _ ⟨rfl, rfl, rfl, Nat.le_refl _, fun _ _ => rfl⟩ rfl) ⟨rfl, rfl, fun _ _ => rfl⟩ ?_
  · intro δ i j v w w' hij hcl hj hi hc hG h o ho
    exact hΓ δ i j o v w w' ho hij hcl hj hi hc hG (h o ho)
  · intro δ i o a wx ho hi hcl hcl' hc hsame hdep
    have hk : KnownP ops C T a0 i o δ a wx := by
      refine ⟨hi, hcl, hcl', hc, fun d hd => ?_, fun d hd => ?_, fun _ => rfl, fun _ => rfl⟩
      · unfold waitsB at hd
        rw [Array.any_eq_true] at hd
        obtain ⟨k, hk, he⟩ := hd
        rw [Bool.and_eq_true] at he
        obtain ⟨hb, hp⟩ := he
        split at hp
        · rename_i p hpp
          simp only [decide_eq_true_eq] at hp
          have := hdep _ (Array.getElem_mem hk) hb p d hpp hp p hpp
          unfold tyP at this
          rw [hp] at this
          exact this
        · exact absurd hp (by decide)
      · refine hsame.2.2 d fun j p hp hpd => ?_
        unfold outB at hd
        rw [Array.all_eq_true] at hd
        obtain ⟨hj, hjp⟩ := Array.getElem?_eq_some_iff.1 hp
        have := hd j hj
        rw [hjp] at this
        simp [hpd] at this
    have h := OpsAll.get _ _ hop i o (by simpa using ho) δ a wx (by rw [Nat.zero_add]; exact hk)
    unfold wpOp
    rw [ho]
    dsimp only
    rw [if_pos (show Region.wanted o (yielded ops a.tmps) = true from h.1)]
    refine Or.inl ?_
    unfold Oper.wp
    have h2 := h.2
    rw [Nat.zero_add] at h2
    generalize (execOp a.eval o).run P wx = r at h2
    have hgo : ∀ v w', (G i wx w' ∧ C (upd δ i) w' ∧ tyP T o v w') → ∃ v', a.put o.dst v = a.put o.dst v' ∧ G i wx w' ∧ C (upd δ i) w' ∧ ∀ o', some o = some o' → tyP T o' v' w' := by
      rintro v w' ⟨h1, h2, h3⟩
      refine ⟨v, rfl, h1, h2, fun o' ho' => ?_⟩
      obtain rfl : o = o' := Option.some.inj ho'
      exact h3
    match r, h2 with
    | .ok (.value v) w', h2 => exact hgo v w' h2
    | .ok .skip w', h2 => exact hgo undef w' h2
    | .ok (.enter f args) w', h2 =>
      refine Calls.mono h2 ?_
      rintro e w'' ⟨v, rfl, hv⟩
      exact hgo v w'' hv
  · intro δ a wx hall hc hsame hΓ
    refine hend δ a wx hall hc hsame fun d hd => ?_
    unfold outB at hd
    rw [Array.all_eq_false] at hd
    obtain ⟨j, hj, hp⟩ := hd
    have hpd : ops[j].dst = some d := by simpa using hp
    have := hΓ j ops[j] d (by simp [hj]) hpd ops[j] (by simp [hj])
    unfold tyP at this
    rw [hpd] at this
    exact this
  · exact Nat.le_trans (List.length_filter_le _ _) (by simp)
  · intro i; simp [Array.getD]
  · intro i o ho hi; exact absurd hi Bool.false_ne_true
  · intro i o d hl; exact absurd hl Bool.false_ne_true
theorem wp_region_ph {id : Nat} {a0 : Act} {w : World} (C : (Nat → Bool) → World → Prop) (G : Nat → World → World → Prop) (T : Nat → Value → World → Prop)
    (hm : P.follows .mixedOrders = true) (hs : shapeB ops a0.tmps.size = true)
    (h0 : ∀ w', Below w.heap.size w w' → w'.heap = w.heap → C (fun _ => false) w')
    (hΓ : ∀ δ i j o v w w', ops[j]? = some o → i ≠ j → Closed ops δ → δ j = true → δ i = false → C δ w → G i w w' → tyP T o v w → tyP T o v w')
    (hop : OpsAll (fun n o => ∀ δ a wx, KnownP ops C T a0 n o δ a wx → Wanted ops o a ∧ GivesP P (fun v w' => G n wx w' ∧ C (upd δ n) w' ∧ tyP T o v w') ((execOp a.eval o).run P wx)) ops.toList 0)
    (hend : ∀ δ a wx, (∀ i, i < ops.size → δ i = true) → C δ wx → SameBut ops a0 a → (∀ d, outB ops d = false → T d (a.eval (.tmp d)) wx) → Q .normal a wx) :
    (Code.region id ops true).wp P Q a0 w := wp_region_any hm (ph_any C G T hs h0 hΓ hop hend)

section
variable {P : Program} {w : World} {o : Oper} {ρ : Operand → Value} {post : Value → World → Prop}
theorem gp_run {v : Value} {w' : World} (hr : (execOp ρ o).run P w = .ok (.value v) w') (hp : post v w') : GivesP P post ((execOp ρ o).run P w) := by
  rw [hr]; exact hp
theorem gp_skip {w' : World} (hr : (execOp ρ o).run P w = .ok .skip w') (hp : post undef w') : GivesP P post ((execOp ρ o).run P w) := by
  rw [hr]; exact hp
theorem gp_move (x : Operand) (h : o.op = .move x) (hp : post (ρ x) w) : GivesP P post ((execOp ρ o).run P w) := by
  unfold execOp; rw [h]; exact hp
theorem gp_assign (x : Operand) (h : o.op = .assign x) (hp : post (ρ x) w) : GivesP P post ((execOp ρ o).run P w) := by
  unfold execOp; rw [h]; exact hp
theorem gp_call {f : FuncId} {xs : Array Operand} {ts : Array TypeId} (h : o.op = .call { callee := .value (.func f), args := xs, argTypes := ts }) (hf : ρ (.func f) = .func (.func f) #[] #[])
    (args : Array Value) (hcf : ∀ w, (callFunc f args).run P w = .ok (.enter f args) w) (ha : xs.map ρ = args) (hc : Calls P f args w fun e w'' => ∃ v, e = .returned v ∧ post v w'') : GivesP P post ((execOp ρ o).run P w) := by
  unfold execOp; rw [h]; dsimp only; unfold resolve; dsimp only; rw [hf, ha]
  have e : args ++ #[] = args := by simp
  have e2 : (invoke (.fn (.func f) #[]) args : Sem Next).run P w = .ok (.enter f args) w := by
    unfold invoke; dsimp only; rw [e]; exact hcf w
  simp only [Deferred.ofValue, Sem.run_bind, Sem.run_pure, Result.andThen, Array.empty_append, e2]
  exact hc
theorem gp_nil (x : Operand) (h : o.op = .nilCheck x) {a : Addr} (hx : ρ x = .pointer (some a)) (hp : post (.pointer (some a)) w) : GivesP P post ((execOp ρ o).run P w) := by
  refine gp_run (v := .pointer (some a)) (w' := w) ?_ hp
  unfold execOp; rw [h]; dsimp only; rw [hx]; simp [go_sem]
theorem gp_field {T : TypeId} {k : Nat} (x : Operand) (h : o.op = .fieldAddr T x k) {p v : Value} (hx : ρ x = p) (hr : ∀ w, (Instr.fieldAt T p k).run P w = .ok v w) (hp : post v w) : GivesP P post ((execOp ρ o).run P w) := by
  refine gp_run (v := v) (w' := w) ?_ hp
  unfold execOp; rw [h]; dsimp only; rw [hx, Sem.run_bind, hr]; rfl
theorem gp_load {T : TypeId} (x : Operand) (h : o.op = .load T x) {p v : Value} (hx : ρ x = p) (hr : (Instr.loadAt T p).run P w = .ok v w) (hp : post v w) : GivesP P post ((execOp ρ o).run P w) := by
  refine gp_run (v := v) (w' := w) ?_ hp
  unfold execOp; rw [h]; dsimp only; rw [hx, Sem.run_bind, hr]; rfl
theorem gp_index {T : TypeId} (x y : Operand) (h : o.op = .indexAddr T x y) {p q v : Value} (hx : ρ x = p) (hy : ρ y = q) (hr : (Instr.indexAt T p q).run P w = .ok v w) (hp : post v w) : GivesP P post ((execOp ρ o).run P w) := by
  refine gp_run (v := v) (w' := w) ?_ hp
  unfold execOp; rw [h]; dsimp only; rw [hx, hy, Sem.run_bind, hr]; rfl
theorem gp_store {T : TypeId} (x y : Operand) (h : o.op = .store T x y) {p v : Value} {w' : World} (hx : ρ x = p) (hy : ρ y = v) (hr : (Instr.storeAt T p v).run P w = .ok () w') (hp : post undef w') : GivesP P post ((execOp ρ o).run P w) := by
  refine gp_skip (w' := w') ?_ hp
  unfold execOp; rw [h]; dsimp only; rw [hx, hy, Sem.run_bind, hr]; rfl
theorem gp_bin {op : BinOp} {ty u : TypeId} {x y : Operand} (h : o.op = .binOp op ty x y u) {v1 v2 v : Value} (hx : ρ x = v1) (hy : ρ y = v2)
    (hr : ∀ w, (do eqGuard op ty x y v1 v2; binOp op ty v1 v2 : Sem Value).run P w = .ok v w) (hp : post v w) : GivesP P post ((execOp ρ o).run P w) := by
  refine gp_run (v := v) (w' := w) ?_ hp
  unfold execOp; rw [h]; dsimp only; rw [hx, hy]
  have := hr w
  generalize (do eqGuard op ty x y v1 v2; binOp op ty v1 v2 : Sem Value) = s at this
  rw [Sem.run_bind, this]; rfl
theorem gp_append {T E : TypeId} (hBT : ByteTypes P T E) (s x : Operand) (ho : o.op = .call { callee := .builtin .append, args := #[s, x], argTypes := #[T, T] }) {base : Nat}
    {a b : Option Addr} {l m : List UInt8} {cap c : Nat} (hown : Own E base w a l cap) (hm : Row w b m c) (hne : m ≠ []) (hlen : l.length + m.length ≤ 1000000000) (hbase : base ≤ w.heap.size)
    (hs : ρ s = .slice a l.length cap) (hx : ρ x = .slice b m.length c)
    (h : ∀ a' cap' w', Own E base w' a' (l ++ m) cap' → w.grownBy w' (blk a) → Near w.heap.size a a' → post (.slice a' (l ++ m).length cap') w') : GivesP P post ((execOp ρ o).run P w) := by
  obtain ⟨i, hi, hz0, hz1, hz2⟩ := info_parts hBT.info
  obtain ⟨g, off, rfl⟩ := hm.spot hne
  obtain ⟨g', cap', w', hr, hown', hgr, hat, hlt⟩ := run_append_lies (P := P) w T o.type base E i (.int .u8 0) 1 1 hBT.slice hi hz0 hz1 hz2 rfl (by decide) _ l.length (l.map vb) hown.row ⟨g, off, none⟩ m.length c (m.map vb) (by simp) (news_row hm) one_vb (List.length_pos_iff.2 hne) (by unfold maxLen; omega) (by omega) hbase w.heap.size rfl
  rw [ownBlock_slice] at hgr hat
  rw [← List.length_append, ← List.map_append] at hown'
  rw [← List.length_append] at hr
  refine gp_run (v := .slice (some ⟨g', 0, none⟩) (l ++ m).length cap') (w' := w') ?_ (h (some ⟨g', 0, none⟩) cap' w' ⟨hown'⟩ hgr (fun k hk => ?_))
  · unfold execOp
    simp only [ho, resolve, invoke, builtin, Sem.run_bind, Sem.run_pure, Result.andThen_ok, List.map_toArray, List.map_cons, List.map_nil, hs, hx, hr]
  · simp only [blk, Option.map_some, Option.some.injEq] at hk
    subst hk
    rcases hat with h1 | h1
    · exact .inl h1
    · exact .inr (by omega)
end
end
end Go.Cit

/- A region that draws its order, where what is said of the world hangs on slots too. No condition on the program. -/
namespace Go.Cit
open Go Go.RowKit

section
variable {P : Program} {ops : Array Oper} {Q : Exit → Act → World → Prop}

theorem phase_st {C : (Nat → Bool) → Act → World → Prop} {G : Nat → World → World → Prop} {Γ : Nat → Value → World → Prop} {a0 : Act}
    (hs : shapeB ops a0.tmps.size = true)
    (hΓ : ∀ δ i j v a w w', i ≠ j → Closed ops δ → δ j = true → δ i = false → C δ a w → G i w w' → Γ j v w → Γ j v w')
    (hop : ∀ δ i o a w, ops[i]? = some o → δ i = false → Closed ops δ → Closed ops (upd δ i) → C δ a w → SameBut ops a0 a → (∀ e ∈ o.after, Region.binds .any e = true → ∀ p d, ops[e.on]? = some p → p.dst = some d → Γ e.on (a.tmps.getD d undef) w) →
      wpOp P ops Q i (fun a' w' => ∃ v, a' = a.put o.dst v ∧ G i w w' ∧ C (upd δ i) a' w' ∧ Γ i v w') a w)
    (hend : ∀ δ a w, (∀ i, i < ops.size → δ i = true) → C δ a w → SameBut ops a0 a → (∀ i o d, ops[i]? = some o → o.dst = some d → Γ i (a.tmps.getD d undef) w) → Q .normal a w) :
    ∀ (fuel : Nat) (listed : Array Bool) (δ : Nat → Bool) (a : Act) (w : World), toCome listed ops.size ≤ fuel → listed.size = ops.size → (∀ i, δ i = listed.getD i false) → Closed ops δ → C δ a w → SameBut ops a0 a →
      (∀ i o d, δ i = true → ops[i]? = some o → o.dst = some d → Γ i (a.tmps.getD d undef) w) → wpAny P .any ops Q fuel listed a w := by
  have hready : ∀ (listed : Array Bool), listed.size = ops.size → Region.ready .any ops listed = [] → ∀ i, i < ops.size → listed.getD i false = true := by
    intro listed hsz hr i
    induction i using Nat.strongRecOn with
    | ind i ih =>
      intro hi
      cases hl : listed.getD i true with
      | true =>
        have hi' : i < listed.size := by omega
        simpa [Array.getD, hi'] using hl
      | false =>
        exfalso
        have hm : i ∈ Region.ready .any ops listed := by
          rw [mem_ready]
          refine ⟨hl, ops[i], by simp [hi], fun e he hb => ?_⟩
          have := (shape_spec hs (i := i) (o := ops[i]) (by simp [hi])).1 e he hb
          exact ih e.on this (by omega)
        rw [hr] at hm
        simp at hm
  intro fuel
  induction fuel with
  | zero =>
    intro listed δ a w hf hsz hδ hcl hc hsame hg
    have hall := toCome_zero (Nat.le_zero.1 hf)
    have hr : Region.ready .any ops listed = [] := by
      apply List.eq_nil_iff_forall_not_mem.2
      intro i hi
      rw [mem_ready] at hi
      obtain ⟨h0, o, ho, _⟩ := hi
      rw [hall i (Array.getElem?_eq_some_iff.1 ho).1] at h0
      simp at h0
    exact ⟨hr, hend δ a w (fun i hi => by rw [hδ]; exact hready listed hsz hr i hi) hc hsame fun i o d ho hd => hg i o d (by rw [hδ]; exact hready listed hsz hr i (Array.getElem?_eq_some_iff.1 ho).1) ho hd⟩
  | succ fuel ih =>
    intro listed δ a w hf hsz hδ hcl hc hsame hg
    refine ⟨fun hr => hend δ a w (fun i hi => by rw [hδ]; exact hready listed hsz hr i hi) hc hsame fun i o d ho hd => hg i o d (by rw [hδ]; exact hready listed hsz hr i (Array.getElem?_eq_some_iff.1 ho).1) ho hd, fun i hi => ?_⟩
    obtain ⟨h0, o, ho, hdep⟩ := mem_ready.1 hi
    have hlt : i < ops.size := (Array.getElem?_eq_some_iff.1 ho).1
    have hδi : δ i = false := by
      rw [hδ]
      have hi' : i < listed.size := by omega
      simpa [Array.getD, hi'] using h0
    have hcl' : Closed ops (upd δ i) := by
      intro j p hp hj e he hb
      by_cases hij : i = j
      · subst hij
        obtain rfl : o = p := by rw [ho] at hp; exact Option.some.inj hp
        unfold upd
        split
        · rfl
        · rw [hδ]; exact hdep e he hb
      · rw [upd_other _ hij] at hj
        have := hcl j p hp hj e he hb
        unfold upd
        split
        · rfl
        · exact this
    have hgive := hop δ i o a w ho hδi hcl hcl' hc hsame (fun e he hb p d hp hd => hg e.on p d (by rw [hδ]; exact hdep e he hb) hp hd)
    refine wpOp_mono (fun a' w' hk => ?_) hgive
    obtain ⟨v, rfl, hG, hc', hv⟩ := hk
    refine ih _ (upd δ i) _ _ ?_ (by simpa using hsz) ?_ hcl' hc' ?_ ?_
    · have := toCome_set (n := ops.size) hlt (by omega) h0
      omega
    · intro j
      by_cases hij : i = j
      · subst hij
        rw [upd_same]
        have hi' : i < listed.size := by omega
        simp [hi']
      · rw [upd_other _ hij, getD_set_ne false hij]; exact hδ j
    · refine ⟨by rw [put_defers]; exact hsame.1, by rw [put_size]; exact hsame.2.1, fun d hd => ?_⟩
      rw [put_getD_ne _ _ _ _ (hd i o ho)]
      exact hsame.2.2 d hd
    · intro j p d hj hp hd
      by_cases hij : i = j
      · subst hij
        obtain rfl : o = p := by rw [ho] at hp; exact Option.some.inj hp
        rw [hd, put_getD_same _ _ _ (by rw [hsame.2.1]; exact (shape_spec hs ho).2.1 d hd)]
        exact hv
      · rw [upd_other _ hij] at hj
        have hne : o.dst ≠ some d := by
          rcases Nat.lt_or_gt_of_ne hij with h | h
          · intro e; exact (shape_spec hs hp).2.2 i o d ho h hd e
          · intro e; exact (shape_spec hs ho).2.2 j p d hp h e hd
        rw [put_getD_ne _ _ _ _ hne]
        exact hΓ δ i j _ _ w w' hij hcl hj hδi hc hG (hg j p d hj hp hd)

/-- What is known at one operation. -/
structure KnownS (ops : Array Oper) (C : (Nat → Bool) → Act → World → Prop) (T : Nat → Value → World → Prop) (a0 : Act) (i : Nat) (o : Oper) (δ : Nat → Bool) (a : Act) (w : World) : Prop where
  yet : δ i = false
  closed : Closed ops δ
  next : Closed ops (upd δ i)
  inv : C δ a w
  same : SameBut ops a0 a
  slot : ∀ d, waitsB ops o d = true → T d (a.eval (.tmp d)) w
  old : ∀ d, outB ops d = true → a.eval (.tmp d) = a0.eval (.tmp d)
  lit : ∀ v, a.eval (.const v) = v
  fn : ∀ f, a.eval (.func f) = .func (.func f) #[] #[]

theorem ph_st {a0 : Act} {w : World} (C : (Nat → Bool) → Act → World → Prop) (G : Nat → World → World → Prop) (T : Nat → Value → World → Prop)
    (hs : shapeB ops a0.tmps.size = true)
    (h0 : ∀ w', Below w.heap.size w w' → w'.heap = w.heap → C (fun _ => false) a0 w')
    (hΓ : ∀ δ i j o v a w w', ops[j]? = some o → i ≠ j → Closed ops δ → δ j = true → δ i = false → C δ a w → G i w w' → tyP T o v w → tyP T o v w')
    (hop : OpsAll (fun n o => ∀ δ a wx, KnownS ops C T a0 n o δ a wx → Wanted ops o a ∧ GivesP P (fun v w' => G n wx w' ∧ C (upd δ n) (a.put o.dst v) w' ∧ tyP T o v w') ((execOp a.eval o).run P wx)) ops.toList 0)
    (hend : ∀ δ a wx, (∀ i, i < ops.size → δ i = true) → C δ a wx → SameBut ops a0 a → (∀ d, outB ops d = false → T d (a.eval (.tmp d)) wx) → Q .normal a wx) :
    wpAny P .any ops Q ops.size (Array.replicate ops.size false) a0 { w with drawn := w.drawn + 1 } := by
  refine phase_st (C := C) (G := G) (Γ := fun i v wx => ∀ o, ops[i]? = some o → tyP T o v wx) hs ?_ ?_ ?_ _ _ (fun _ => false) _ _ ?_ (by simp) ?_ ?_ (h0 _ ⟨rfl, rfl, rfl, Nat.le_refl _, fun _ _ => rfl⟩ rfl) ⟨rfl, rfl, fun _ _ => rfl⟩ ?_
  · intro δ i j v a w w' hij hcl hj hi hc hG h o ho
    exact hΓ δ i j o v a w w' ho hij hcl hj hi hc hG (h o ho)
  · intro δ i o a wx ho hi hcl hcl' hc hsame hdep
    have hk : KnownS ops C T a0 i o δ a wx := by
      refine ⟨hi, hcl, hcl', hc, hsame, fun d hd => ?_, fun d hd => ?_, fun _ => rfl, fun _ => rfl⟩
      · unfold waitsB at hd
        rw [Array.any_eq_true] at hd
        obtain ⟨k, hk, he⟩ := hd
        rw [Bool.and_eq_true] at he
        obtain ⟨hb, hp⟩ := he
        split at hp
        · rename_i p hpp
          simp only [decide_eq_true_eq] at hp
          have := hdep _ (Array.getElem_mem hk) hb p d hpp hp p hpp
          unfold tyP at this
          rw [hp] at this
          exact this
        · exact absurd hp (by decide)
      · refine hsame.2.2 d fun j p hp hpd => ?_
        unfold outB at hd
        rw [Array.all_eq_true] at hd
        obtain ⟨hj, hjp⟩ := Array.getElem?_eq_some_iff.1 hp
        have := hd j hj
        rw [hjp] at this
        simp [hpd] at this
    have h := OpsAll.get _ _ hop i o (by simpa using ho) δ a wx (by rw [Nat.zero_add]; exact hk)
    unfold wpOp
    rw [ho]
    dsimp only
    rw [if_pos (show Region.wanted o (yielded ops a.tmps) = true from h.1)]
    refine Or.inl ?_
    unfold Oper.wp
    have h2 := h.2
    rw [Nat.zero_add] at h2
    generalize (execOp a.eval o).run P wx = r at h2
    have hgo : ∀ v w', (G i wx w' ∧ C (upd δ i) (a.put o.dst v) w' ∧ tyP T o v w') → ∃ v', a.put o.dst v = a.put o.dst v' ∧ G i wx w' ∧ C (upd δ i) (a.put o.dst v) w' ∧ ∀ o', some o = some o' → tyP T o' v' w' := by
      rintro v w' ⟨h1, h2, h3⟩
      refine ⟨v, rfl, h1, h2, fun o' ho' => ?_⟩
      obtain rfl : o = o' := Option.some.inj ho'
      exact h3
    match r, h2 with
    | .ok (.value v) w', h2 => exact hgo v w' h2
    | .ok .skip w', h2 => exact hgo undef w' h2
    | .ok (.enter f args) w', h2 =>
      refine Calls.mono h2 ?_
      rintro e w'' ⟨v, rfl, hv⟩
      exact hgo v w'' hv
  · intro δ a wx hall hc hsame hΓ
    refine hend δ a wx hall hc hsame fun d hd => ?_
    unfold outB at hd
    rw [Array.all_eq_false] at hd
    obtain ⟨j, hj, hp⟩ := hd
    have hpd : ops[j].dst = some d := by simpa using hp
    have := hΓ j ops[j] d (by simp [hj]) hpd ops[j] (by simp [hj])
    unfold tyP at this
    rw [hpd] at this
    exact this
  · exact Nat.le_trans (List.length_filter_le _ _) (by simp)
  · intro i; simp [Array.getD]
  · intro i o ho hi; exact absurd hi Bool.false_ne_true
  · intro i o d hl; exact absurd hl Bool.false_ne_true
theorem wp_region_st {id : Nat} {a0 : Act} {w : World} (C : (Nat → Bool) → Act → World → Prop) (G : Nat → World → World → Prop) (T : Nat → Value → World → Prop)
    (hm : P.follows .mixedOrders = true) (hs : shapeB ops a0.tmps.size = true)
    (h0 : ∀ w', Below w.heap.size w w' → w'.heap = w.heap → C (fun _ => false) a0 w')
    (hΓ : ∀ δ i j o v a w w', ops[j]? = some o → i ≠ j → Closed ops δ → δ j = true → δ i = false → C δ a w → G i w w' → tyP T o v w → tyP T o v w')
    (hop : OpsAll (fun n o => ∀ δ a wx, KnownS ops C T a0 n o δ a wx → Wanted ops o a ∧ GivesP P (fun v w' => G n wx w' ∧ C (upd δ n) (a.put o.dst v) w' ∧ tyP T o v w') ((execOp a.eval o).run P wx)) ops.toList 0)
    (hend : ∀ δ a wx, (∀ i, i < ops.size → δ i = true) → C δ a wx → SameBut ops a0 a → (∀ d, outB ops d = false → T d (a.eval (.tmp d)) wx) → Q .normal a wx) :
    (Code.region id ops true).wp P Q a0 w := wp_region_any hm (ph_st C G T hs h0 hΓ hop hend)

end
end Go.Cit

/- A region that draws its order, in which variables of their own are laid and stored into: told once, whatever the order. No condition on the program. -/
namespace Go.Cit
open Go Go.RowKit

/-- The variables that a region lays: by which operation, stored into by which, in which slot the address lies, the type, the cells at first. -/
structure Boxes where
  nb : Nat
  ia : Nat → Nat
  is_ : Nat → Nat
  d : Nat → Nat
  ty : Nat → TypeId
  z : Nat → Array Value
def Boxes.wf (b : Boxes) (ops : Array Oper) (n : Nat) : Bool := (List.range b.nb).all fun j => needsB ops ops.size (b.is_ j) (b.ia j) && decide (b.d j < n) &&
  ((List.range b.nb).all fun i => decide (b.ia j ≠ b.is_ i) && (decide (i = j) || (decide (b.d i ≠ b.d j) && decide (b.ia i ≠ b.ia j) && decide (b.is_ i ≠ b.is_ j))))
theorem Boxes.spec {b : Boxes} {ops : Array Oper} {n : Nat} (h : b.wf ops n = true) {j : Nat} (hj : j < b.nb) : needsB ops ops.size (b.is_ j) (b.ia j) = true ∧ b.d j < n ∧ (∀ i, i < b.nb → b.ia j ≠ b.is_ i ∧ (i ≠ j → b.d i ≠ b.d j ∧ b.ia i ≠ b.ia j ∧ b.is_ i ≠ b.is_ j)) := by
  have h1 := List.all_eq_true.1 h j (List.mem_range.2 hj)
  simp only [Bool.and_eq_true, decide_eq_true_eq] at h1
  refine ⟨h1.1.1, h1.1.2, fun i hi => ?_⟩
  have h2 := List.all_eq_true.1 h1.2 i (List.mem_range.2 hi)
  simp only [Bool.and_eq_true, Bool.or_eq_true, decide_eq_true_eq] at h2
  refine ⟨h2.1, fun hne => ?_⟩
  rcases h2.2 with e | e
  · exact absurd e hne
  · exact ⟨e.1.1, e.1.2, e.2⟩

/-- What one operation may do: lay new memory, or store into one of the variables. -/
def bxG (b : Boxes) (W w w' : World) : Prop := Below w.heap.size w w' ∨ ∃ g j C, j < b.nb ∧ W.heap.size ≤ g ∧ w.heap[g]? = some (.cells C (b.ty j) (0, 0)) ∧ Save (· ≠ g) w w'
def bxC (b : Boxes) (Bx : Nat → Array Value → World → Prop) (W : World) (δ : Nat → Bool) (a : Act) (wx : World) : Prop := Below W.heap.size W wx ∧ ∀ j, j < b.nb → δ (b.ia j) = true →
  ∃ g C, a.tmps.getD (b.d j) undef = .pointer (some ⟨g, 0, none⟩) ∧ W.heap.size ≤ g ∧ wx.heap[g]? = some (.cells C (b.ty j) (0, 0)) ∧ C.size = (b.z j).size ∧ (δ (b.is_ j) = true → Bx j C wx) ∧
    ∀ i, i < b.nb → i ≠ j → δ (b.ia i) = true → a.tmps.getD (b.d i) undef ≠ .pointer (some ⟨g, 0, none⟩)

section
variable {P : Program} {ops : Array Oper} {Q : Exit → Act → World → Prop}
/-- What is asked of an operation. -/
def BxOp (P : Program) (b : Boxes) (Bx : Nat → Array Value → World → Prop) (T : Nat → Value → World → Prop) (ops : Array Oper) (n : Nat) (o : Oper) (a : Act) (wx : World) : Prop :=
  (Wanted ops o a ∧ (∀ j, j < b.nb → n ≠ b.ia j ∧ n ≠ b.is_ j ∧ o.dst ≠ some (b.d j)) ∧ GivesP P (fun v w' => Below wx.heap.size wx w' ∧ tyP T o v w') ((execOp a.eval o).run P wx)) ∨
  (∃ j, j < b.nb ∧ n = b.ia j ∧ o.dst = some (b.d j) ∧ o.guard = none ∧ (execOp a.eval o).run P wx = .ok (.value (.pointer (some ⟨wx.heap.size, 0, none⟩))) (wx.alloc (.cells (b.z j) (b.ty j))) ∧ ∀ v w, T (b.d j) v w) ∨
  (∃ j C', j < b.nb ∧ n = b.is_ j ∧ o.dst = none ∧ o.guard = none ∧ Bx j C' wx ∧ C'.size = (b.z j).size ∧
    ∀ g C, a.eval (.tmp (b.d j)) = .pointer (some ⟨g, 0, none⟩) → wx.heap[g]? = some (.cells C (b.ty j) (0, 0)) → C.size = C'.size → ∃ w', (execOp a.eval o).run P wx = .ok .skip w' ∧ w'.heap[g]? = some (.cells C' (b.ty j) (0, 0)) ∧ Save (· ≠ g) wx w')

theorem OpsAll.imp {p q : Nat → Oper → Prop} (h : ∀ n o, True → p n o → q n o) : ∀ (os : List Oper) (n : Nat), OpsAll p os n → OpsAll q os n
  | [], _, _ => trivial
  | _ :: os, n, hs => ⟨h n _ trivial hs.1, OpsAll.imp h os (n + 1) hs.2⟩
theorem gives_imp {p q : Value → World → Prop} {r : Result Next} (h : ∀ v w, p v w → q v w) (hr : GivesP P p r) : GivesP P q r := by
  match r, hr with
  | .ok (.value v) w', hr => exact h _ _ hr
  | .ok .skip w', hr => exact h _ _ hr
  | .ok (.enter f args) w', hr => exact Calls.mono hr fun e w'' ⟨v, he, hp⟩ => ⟨v, he, h _ _ hp⟩
theorem bx_below {b : Boxes} {W w w' : World} (h : bxG b W w w') (hW : Below W.heap.size W w) : Below W.heap.size W w' := by
  rcases h with h | ⟨g, j, C, _, hg, hc, hs⟩
  · exact hW.trans (h.mono hW.size)
  · exact hW.trans (hs.below hW.size (fun k hk => by omega))

theorem wp_region_boxes {id : Nat} {a0 : Act} {w : World} (b : Boxes) (Bx : Nat → Array Value → World → Prop) (T : Nat → Value → World → Prop)
    (hm : P.follows .mixedOrders = true) (hs : shapeB ops a0.tmps.size = true) (hwf : b.wf ops a0.tmps.size = true)
    (hT : ∀ d v w1 w2, bxG b w w1 w2 → T d v w1 → T d v w2) (hX : ∀ j C w1 w2, bxG b w w1 w2 → Bx j C w1 → Bx j C w2)
    (hop : OpsAll (fun n o => ∀ δ a wx, KnownS ops (bxC b Bx w) T a0 n o δ a wx → BxOp P b Bx T ops n o a wx) ops.toList 0)
    (hend : ∀ a wx, Below w.heap.size w wx → SameBut ops a0 a → (∀ d, outB ops d = false → T d (a.eval (.tmp d)) wx) →
      (∀ j, j < b.nb → ∃ g C, a.eval (.tmp (b.d j)) = .pointer (some ⟨g, 0, none⟩) ∧ w.heap.size ≤ g ∧ wx.heap[g]? = some (.cells C (b.ty j) (0, 0)) ∧ Bx j C wx ∧ ∀ i, i < b.nb → i ≠ j → a.eval (.tmp (b.d i)) ≠ .pointer (some ⟨g, 0, none⟩)) → Q .normal a wx)
    (hin : ∀ j, j < b.nb → b.ia j < ops.size ∧ b.is_ j < ops.size) :
    (Code.region id ops true).wp P Q a0 w := by
  refine wp_region_st (bxC b Bx w) (fun _ w1 w2 => bxG b w w1 w2) T hm hs (fun w' hb hh => ⟨hb, fun j _ h => absurd h Bool.false_ne_true⟩) ?_ ?_ ?_
  · intro δ i j o v a w1 w2 _ _ _ _ _ _ hG h
    rcases hd : o.dst with _ | d
    · exact tyP_none hd _ _
    · rw [tyP_some hd] at h ⊢
      exact hT _ _ _ _ hG h
  · refine OpsAll.imp (fun n o ho hall => ?_) ops.toList 0 hop
    intro δ a wx hk
    obtain ⟨hW, hB⟩ := hk.inv
    have hsz : a.tmps.size = a0.tmps.size := hk.same.2.1
    rcases hall δ a wx hk with ⟨hw, hne, hg⟩ | ⟨j, hj, rfl, hd, hgd, hrun, hTd⟩ | ⟨j, C', hj, rfl, hd, hgd, hBx, hsz', hst⟩
    · refine ⟨hw, gives_imp (fun v w' hv => ⟨.inl hv.1, ⟨bx_below (b := b) (.inl hv.1) hW, fun i hi hδ => ?_⟩, hv.2⟩) hg⟩
      have hb := hv.1
      have hn := hne i hi
      rw [upd_other δ hn.1] at hδ
      obtain ⟨g, C, e1, e2, e3, e4, e5, e6⟩ := hB i hi hδ
      refine ⟨g, C, ?_, e2, (hb.block g (Array.getElem?_eq_some_iff.1 e3).1).trans e3, e4, fun h => ?_, fun k hk' hki hδk => ?_⟩
      · rw [put_getD_ne _ _ _ _ hn.2.2]; exact e1
      · rw [upd_other δ hn.2.1] at h
        exact hX _ _ _ _ (.inl hb) (e5 h)
      · have hnk := hne k hk'
        rw [upd_other δ hnk.1] at hδk
        rw [put_getD_ne _ _ _ _ hnk.2.2]
        exact e6 k hk' hki hδk
    · have hsp := Boxes.spec hwf hj
      have hb : Below wx.heap.size wx (wx.alloc (.cells (b.z j) (b.ty j))) := (Below.refl _ wx).alloc (Nat.le_refl _) _
      have hyet : δ (b.is_ j) = false := hk.closed.yet ops.size _ _ hsp.1 hk.yet
      refine ⟨wanted_free hgd, ?_⟩
      rw [hrun]
      refine ⟨.inl hb, ⟨bx_below (b := b) (.inl hb) hW, fun i hi hδ => ?_⟩, by rw [tyP_some hd]; exact hTd _ _⟩
      by_cases hij : i = j
      · subst hij
        refine ⟨wx.heap.size, b.z i, by rw [hd]; exact put_getD_same _ _ _ (by rw [hsz]; exact hsp.2.1), hW.size, heap_alloc_new _ _, rfl, fun h => ?_, fun k hk' hki hδk => ?_⟩
        · rw [upd_other δ (hsp.2.2 i hi).1, hyet] at h; exact absurd h (by decide)
        · have hq := (hsp.2.2 k hk').2 hki
          rw [upd_other δ (Ne.symm hq.2.1)] at hδk
          obtain ⟨g, C, e1, e2, e3, _⟩ := hB k hk' hδk
          rw [hd, put_getD_ne _ _ _ _ (fun e => hq.1 (Option.some.inj e).symm), e1]
          intro e
          simp only [Value.pointer.injEq, Option.some.injEq, Addr.mk.injEq, and_true] at e
          have := (Array.getElem?_eq_some_iff.1 e3).1
          omega
      · have hq := (hsp.2.2 i hi).2 hij
        rw [upd_other δ (Ne.symm hq.2.1)] at hδ
        obtain ⟨g, C, e1, e2, e3, e4, e5, e6⟩ := hB i hi hδ
        refine ⟨g, C, ?_, e2, (hb.block g (Array.getElem?_eq_some_iff.1 e3).1).trans e3, e4, fun h => ?_, fun k hk' hki hδk => ?_⟩
        · rw [hd, put_getD_ne _ _ _ _ (fun e => hq.1 (Option.some.inj e).symm)]; exact e1
        · rw [upd_other δ (hsp.2.2 i hi).1] at h
          exact hX _ _ _ _ (.inl hb) (e5 h)
        · by_cases hkj : k = j
          · subst hkj
            rw [hd, put_getD_same _ _ _ (by rw [hsz]; exact hsp.2.1)]
            intro e
            simp only [Value.pointer.injEq, Option.some.injEq, Addr.mk.injEq, and_true] at e
            have := (Array.getElem?_eq_some_iff.1 e3).1
            omega
          · have hq2 := (hsp.2.2 k hk').2 hkj
            rw [upd_other δ (Ne.symm hq2.2.1)] at hδk
            rw [hd, put_getD_ne _ _ _ _ (fun e => hq2.1 (Option.some.inj e).symm)]
            exact e6 k hk' hki hδk
    · have hsp := Boxes.spec hwf hj
      have hia : δ (b.ia j) = true := by
        have h1 := hk.next.needs ops.size _ _ hsp.1 (upd_same _ _)
        rwa [upd_other δ (Ne.symm (hsp.2.2 j hj).1)] at h1
      obtain ⟨g, C, e1, e2, e3, e4, e5, e6⟩ := hB j hj hia
      obtain ⟨w', hrun, hc', hsv⟩ := hst g C (by simpa [Act.eval] using e1) e3 (by rw [e4, hsz'])
      have hG : bxG b w wx w' := .inr ⟨g, j, C, hj, e2, e3, hsv⟩
      refine ⟨wanted_free hgd, ?_⟩
      rw [hrun]
      refine ⟨hG, ⟨bx_below hG hW, fun i hi hδ => ?_⟩, tyP_none hd _ _⟩
      have hne : b.is_ j ≠ b.ia i := Ne.symm ((Boxes.spec hwf hi).2.2 j hj).1
      rw [upd_other δ hne] at hδ
      by_cases hij : i = j
      · subst hij
        refine ⟨g, C', by rw [hd]; exact e1, e2, hc', hsz', fun _ => hX _ _ _ _ hG hBx, fun k hk' hki hδk => ?_⟩
        rw [upd_other δ (Ne.symm ((Boxes.spec hwf hk').2.2 i hj).1)] at hδk
        rw [hd]; exact e6 k hk' hki hδk
      · obtain ⟨g', D, f1, f2, f3, f4, f5, f6⟩ := hB i hi hδ
        have hgg : g' ≠ g := by
          intro e; subst e
          exact e6 i hi hij hδ f1
        refine ⟨g', D, by rw [hd]; exact f1, f2, (hsv.block g' (Array.getElem?_eq_some_iff.1 f3).1 hgg).trans f3, f4, fun h => ?_, fun k hk' hki hδk => ?_⟩
        · rw [upd_other δ (Ne.symm ((hsp.2.2 i hi).2 hij).2.2)] at h
          exact hX _ _ _ _ hG (f5 h)
        · rw [upd_other δ (Ne.symm ((Boxes.spec hwf hk').2.2 j hj).1)] at hδk
          rw [hd]; exact f6 k hk' hki hδk
  · intro δ a wx hall hC hsame hTall
    obtain ⟨hW, hB⟩ := hC
    refine hend a wx hW hsame hTall fun j hj => ?_
    obtain ⟨g, C, e1, e2, e3, e4, e5, e6⟩ := hB j hj (hall _ (hin j hj).1)
    exact ⟨g, C, by simpa [Act.eval] using e1, e2, e3, e5 (hall _ (hin j hj).2), fun i hi hij => by simpa [Act.eval] using e6 i hi hij (hall _ (hin i hi).1)⟩
end
end Go.Cit

/- append onto a slice that was written out empty: no other memory is turned. No condition. -/
namespace Go.Cit
open Go Go.RowKit

section
variable {P : Program} {T E : TypeId} {n by_ : Nat} {z : Value} {α : Type} {f : α → List Value}
theorem vec_src (hE : ElemType P T E n by_ z) (hf : ∀ x, (f x).length = n) (h1 : ∀ x, ∀ u ∈ f x, u.oneCell' = true) {w : World} {b : Option Addr} {m : List α} {c : Nat} (hm : Vec f n w b m c) : Src P n T (.slice b m.length c) m.length (m.flatMap f) w := by
  cases b with
  | none =>
    have hc := hm.nil rfl
    have hle := hm.le
    obtain rfl : m = [] := List.eq_nil_of_length_eq_zero (by omega)
    subst hc
    exact Src.ofNil w hE.slice 0
  | some p =>
    refine Src.ofSlice w hE.slice p m.length c _ (flatLen hf m) (fun j u hu => ?_) (fun u hu => ?_)
    · have hj : j < m.length * n := by rw [← flatLen hf m]; exact (List.getElem?_eq_some_iff.1 hu).1
      have hn := hE.pos
      have e1 : j = j / n * n + j % n := by rw [Nat.mul_comm]; exact (Nat.div_add_mod j n).symm
      have hi' : j / n < m.length := (Nat.div_lt_iff_lt_mul hn).2 hj
      have hj' : j % n < n := Nat.mod_lt _ hn
      obtain ⟨g, off, hp⟩ := hm.spot (by intro h0; simp [h0] at hi')
      injection hp with hp
      subst hp
      rw [add_ad]
      rw [e1] at hu ⊢
      rw [flatGet hf m _ _ hi' hj'] at hu
      rw [hm.cell _ hi' _ hj', hu]
    · obtain ⟨y, _, hy⟩ := List.mem_flatMap.1 hu
      exact h1 y u hy

theorem run_vapp0 (hE : ElemType P T E n by_ z) (hf : ∀ x, (f x).length = n) (h1 : ∀ x, ∀ u ∈ f x, u.oneCell' = true) {w : World} {g : Nat} {b : Option Addr} {m : List α} {c : Nat} {B : Nat} (ty : TypeId)
    (hown : VOwn f n E B w (some ⟨g, 0, none⟩) [] 0) (hm : Vec f n w b m c) (hlen : m.length ≤ 1000000) (hB : B ≤ w.heap.size) :
    ∃ a' c' w', (Builtin.append_ #[T, T] ty #[.slice (some ⟨g, 0, none⟩) 0 0, .slice b m.length c]).run P w = .ok (.slice a' m.length c') w' ∧ VOwn f n E B w' a' m c' ∧ Below w.heap.size w w' := by
  obtain ⟨i, hi, hz0, hz1, hz2⟩ := info_parts hE.info
  have hsrc := vec_src hE hf h1 hm
  rw [← hz1] at hsrc
  have hfew := hE.few
  by_cases h0 : m = []
  · subst h0
    have hr := run_append_room_src (P := P) w T T ty E i hE.slice hi g 0 0 0 (.slice b 0 c) 0 [] hsrc (Nat.le_refl _) (fun j hj => by simp at hj) (fun j hj => by simp at hj)
    exact ⟨_, _, _, hr, hown, Below.refl _ _⟩
  · have hpos : 0 < m.length := List.length_pos_iff.2 h0
    have hold : (Builtin.firstCells i.size 0 (.slice (some ⟨g, 0, none⟩) 0 0)).run P w.drew = .ok ([] : List Value).toArray w.drew := run_firstCells_some w.drew i.size 0 ⟨g, 0, none⟩ 0 0 [] (by simp) (fun j u hu => by simp at hu)
    have hcap := nextslicecap_le (need := 0 + m.length) (old := 0) (by omega)
    have hr := run_append_grow_src (P := P) w T T ty E i z hE.slice hi hz0 (some ⟨g, 0, none⟩) 0 0 [] hold (.slice b m.length c) m.length (m.flatMap f) hsrc (by omega) (by omega) (by rw [hz2]; exact Nat.le_trans (Nat.mul_le_mul (Nat.le_trans hcap (show 2 * (0 + m.length) ≤ 2000000 by omega)) hfew) (by decide))
    rw [Nat.zero_add] at hr
    refine ⟨_, _, _, hr, ⟨?_⟩, ((Below.refl _ w).drew).alloc (Nat.le_refl _) _⟩
    have hge := grownCap_ge w m.length 0 E
    refine ⟨flatLen hf m, .inr ⟨w.heap.size, _, _, rfl, hB, heap_alloc_new w.drew _, hge, grownCap_le_maxLen _ _ _ _ (by unfold maxLen; omega), ?_, ?_⟩⟩
    · simp only [List.nil_append, Array.size_append, List.size_toArray, size_zeroCells, hE.zs, flatLen hf m]
      rw [← Nat.add_mul]; congr 1; omega
    · simp only [List.nil_append, Array.toList_append]
      rw [List.take_append_of_le_length (by simp [flatLen hf m])]
      exact List.take_of_length_le (by simp [flatLen hf m])
end
end Go.Cit

