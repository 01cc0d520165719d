/- A region that draws its order, every operation quiet (it reads, or calls what leaves alone what lay there), told by its slots' values, guards among them, true or false: no frame is written out. No condition on the program. -/
import Derived.Test.YtofagofpeedfcaaAfter
import Derived.Test.YtofagofpeedfcaaTyG
namespace Go.Cit
open Go Go.RowKit

/-- One of the first n operations leaves slot d. -/
def setB (ops : Array Oper) (n d : Nat) : Bool := (List.range n).any fun j => match ops[j]? with | some p => decide (p.dst = some d) | none => false
/-- All slots lie in the frame. -/
def fitB (ops : Array Oper) (n : Nat) : Bool := ops.all fun o => match o.dst with | some d => decide (d < n) | none => true

/-- What the slots hold ahead of the region, as far as they are asked. -/
def OldIs (a0 : Act) (Y : Nat → Value) : List Nat → Prop
  | [] => True
  | d :: l => a0.eval (.tmp d) = Y d ∧ OldIs a0 Y l
theorem OldIs.get {a0 : Act} {Y : Nat → Value} : ∀ {l : List Nat}, OldIs a0 Y l → ∀ d, l.contains d = true → a0.eval (.tmp d) = Y d
  | [], _, d, h => by simp at h
  | e :: l, ⟨h1, h2⟩, d, h => by
    by_cases he : d = e
    · rw [he]; exact h1
    · exact h2.get d (by simpa [he] using h)
structure KnowsAt (ops : Array Oper) (X : Nat → Value) (a0 : Act) (n : Nat) (a : Act) : Prop where
  defers : a.defers = a0.defers
  size : a.tmps.size = a0.tmps.size
  slot : ∀ d, setB ops n d = true → a.eval (.tmp d) = X d
  old : ∀ d, setB ops n d = false → a.eval (.tmp d) = a0.eval (.tmp d)
/-- What is known ahead of operation n (the frame ahead of the region isn't named). -/
structure KnowsQ (ops : Array Oper) (X Y : Nat → Value) (olds : List Nat) (n : Nat) (a : Act) : Prop where
  slot : ∀ d, setB ops n d = true → a.eval (.tmp d) = X d
  old : ∀ d, setB ops n d = false → olds.contains d = true → a.eval (.tmp d) = Y d

def tyX (X : Nat → Value) (o : Oper) (v : Value) : Prop := match o.dst with | some d => v = X d | none => True
/-- One value, in every world in which what lay there lies as it lay. -/
def Quiets (P : Program) (w0 : World) (post : Value → Prop) (ρ : Operand → Value) (o : Oper) : Prop :=
  ∃ v, post v ∧ ∀ q : After w0, Oper.quietUpon P (fun w' => ∃ q : After w0, w' = q.to) q.to v ((execOp ρ o).run P q.to)

theorem setB_succ (ops : Array Oper) (n d : Nat) : setB ops (n + 1) d = (setB ops n d || match ops[n]? with | some p => decide (p.dst = some d) | none => false) := by
  unfold setB; rw [List.range_succ, List.any_append]; simp

section
variable {P : Program} {w : World}
theorem KnowsAt.step {ops : Array Oper} {X : Nat → Value} {a0 a : Act} {n : Nat} {o : Oper} {v : Value} (h : KnowsAt ops X a0 n a) (ho : ops[n]? = some o) (hf : fitB ops a0.tmps.size = true) (hv : tyX X o v) : KnowsAt ops X a0 (n + 1) (a.put o.dst v) := by
  refine ⟨by rw [put_defers]; exact h.defers, by rw [put_size]; exact h.size, fun d hd => ?_, fun d hd => ?_⟩
  · by_cases he : o.dst = some d
    · have hlt : d < a.tmps.size := by
        rw [h.size]
        unfold fitB at hf
        rw [Array.all_eq_true] at hf
        obtain ⟨hn, rfl⟩ := Array.getElem?_eq_some_iff.1 ho
        have := hf n hn
        rw [he] at this
        simpa using this
      rw [he]
      refine (put_getD_same a d v hlt).trans ?_
      unfold tyX at hv
      rw [he] at hv
      exact hv
    · refine (put_getD_ne a o.dst d v he).trans (h.slot d ?_)
      rw [setB_succ, ho] at hd
      simpa [he] using hd
  · rw [setB_succ, ho] at hd
    simp only [Bool.or_eq_false_iff, decide_eq_false_iff_not] at hd
    exact (put_getD_ne a o.dst d v hd.2).trans (h.old d hd.1)

theorem vals_end {X : Nat → Value} {a0 a : Act} {l : List Oper} {n : Nat} {G : Prop} (hl : ∀ j, ([] : List Oper)[j]? = l.toArray[n + j]?) (hk : KnowsAt l.toArray X a0 n a) (hend : SameBut l.toArray a0 a → (∀ d, outB l.toArray d = false → a.eval (.tmp d) = X d) → G) : G := by
  have hn : l.length ≤ n := by
    have := hl 0
    simp only [List.getElem?_nil, Nat.add_zero] at this
    have := Array.getElem?_eq_none_iff.1 this.symm
    simpa using this
  have hset : ∀ d, setB l.toArray n d = !outB l.toArray d := by
    intro d
    rw [Bool.eq_iff_iff]
    unfold setB outB
    rw [List.any_eq_true, Bool.not_eq_true', Array.all_eq_false]
    constructor
    · rintro ⟨j, _, hj⟩
      split at hj
      · rename_i p hp
        obtain ⟨hlt, he⟩ := Array.getElem?_eq_some_iff.1 hp
        exact ⟨j, hlt, by rw [he]; simpa using hj⟩
      · exact absurd hj (by decide)
    · rintro ⟨j, hlt, hj⟩
      refine ⟨j, List.mem_range.2 (by simp at hlt; omega), ?_⟩
      rw [Array.getElem?_eq_getElem hlt]
      simpa using hj
  refine hend ⟨hk.defers, hk.size, fun d hd => hk.old d ?_⟩ fun d hd => hk.slot d ?_
  · rw [hset]
    simp only [Bool.not_eq_false']
    unfold outB
    rw [Array.all_eq_true]
    intro j hj
    simpa using hd j _ (Array.getElem?_eq_getElem hj)
  · rw [hset, hd]; rfl
theorem wp_region_vals {id : Nat} {Q : Exit → Act → World → Prop} {a0 : Act} {l : List Oper} (X Y : Nat → Value) (olds : List Nat) (hm : P.follows .mixedOrders = true) (hB : Region.lexB .any l.toArray = true) (hf : fitB l.toArray a0.tmps.size = true) (hY : OldIs a0 Y olds)
    (hop : OpsAll (fun n o => ∀ a, KnowsQ l.toArray X Y olds n a → (Wanted l.toArray o a ∧ Quiets P w (tyX X o) a.eval o) ∨ (Region.wanted o (yielded l.toArray a.tmps) = false ∧ tyX X o undef)) l 0)
    (hend : ∀ a (q : After w), SameBut l.toArray a0 a → (∀ d, outB l.toArray d = false → a.eval (.tmp d) = X d) → Q .normal a q.to) : (Code.region id l.toArray true).wp P Q a0 w := by
  refine wp_region_quiet (C := fun w' => ∃ q : After w, w' = q.to) hm hB ⟨⟨_, (Below.refl _ w).drew⟩, rfl⟩ ?_
  have key : ∀ (l2 : List Oper) (n : Nat) (a : Act), (∀ j, l2[j]? = l.toArray[n + j]?) → KnowsAt l.toArray X a0 n a → OpsAll (fun n o => ∀ a, KnowsQ l.toArray X Y olds n a → (Wanted l.toArray o a ∧ Quiets P w (tyX X o) a.eval o) ∨ (Region.wanted o (yielded l.toArray a.tmps) = false ∧ tyX X o undef)) l2 n →
      wpQuiet P l.toArray (fun w' => ∃ q : After w, w' = q.to) (fun a' => ∀ w', (∃ q : After w, w' = q.to) → Q .normal a' w') l2 a := by
    intro l2
    induction l2 with
    | nil =>
      intro n a hl hk _
      refine wpQuiet_nil ?_
      rintro _ ⟨q, rfl⟩
      exact vals_end hl hk (hend a q)
    | cons o l2 ih =>
      intro n a hl hk hall
      have ho : l.toArray[n]? = some o := by simpa using (hl 0).symm
      have hl2 : ∀ j, l2[j]? = l.toArray[n + 1 + j]? := fun j => by have := hl (j + 1); simpa [Nat.add_assoc, Nat.add_comm 1 j] using this
      obtain ⟨h1, h2⟩ := hall
      refine wpQuiet_step fun K hK => ?_
      rcases h1 a ⟨hk.slot, fun d hd ho => (hk.old d hd).trans (hY.get d ho)⟩ with ⟨hw, v, hv, hq⟩ | ⟨hw, hv⟩
      · rw [if_pos (show Region.wanted o (yielded l.toArray a.tmps) = true from hw)]
        refine ⟨v, ?_, hK _ (ih (n + 1) _ hl2 (hk.step ho hf hv) h2)⟩
        rintro _ ⟨q, rfl⟩
        exact hq q
      · rw [if_neg (by rw [hw]; decide)]
        exact hK _ (ih (n + 1) _ hl2 (hk.step ho hf hv) h2)
  exact key l 0 a0 (fun j => by simp) ⟨rfl, rfl, fun d hd => by simp [setB] at hd, fun _ _ => rfl⟩ hop

/-- The same for a region that draws no order. -/
theorem wp_region_vals0 {id : Nat} {Q : Exit → Act → World → Prop} {a0 : Act} {l : List Oper} (X Y : Nat → Value) (olds : List Nat) (hf : fitB l.toArray a0.tmps.size = true) (hY : OldIs a0 Y olds)
    (hop : OpsAll (fun n o => ∀ a, KnowsQ l.toArray X Y olds n a → (Wanted l.toArray o a ∧ Quiets P w (tyX X o) a.eval o) ∨ (Region.wanted o (yielded l.toArray a.tmps) = false ∧ tyX X o undef)) l 0)
    (hend : ∀ a (q : After w), SameBut l.toArray a0 a → (∀ d, outB l.toArray d = false → a.eval (.tmp d) = X d) → Q .normal a q.to) : (Code.region id l.toArray false).wp P Q a0 w := by
  refine wp_region_lit ?_
  have key : ∀ (l2 : List Oper) (n : Nat) (a : Act) (q : After w), (∀ j, l2[j]? = l.toArray[n + j]?) → KnowsAt l.toArray X a0 n a → OpsAll (fun n o => ∀ a, KnowsQ l.toArray X Y olds n a → (Wanted l.toArray o a ∧ Quiets P w (tyX X o) a.eval o) ∨ (Region.wanted o (yielded l.toArray a.tmps) = false ∧ tyX X o undef)) l2 n →
      wpList P l.toArray Q l2 a q.to := by
    intro l2
    induction l2 with
    | nil =>
      intro n a q hl hk _
      refine wpList_nil ?_
      exact vals_end hl hk (hend a q)
    | cons o l2 ih =>
      intro n a q hl hk hall
      have ho : l.toArray[n]? = some o := by simpa using (hl 0).symm
      have hl2 : ∀ j, l2[j]? = l.toArray[n + 1 + j]? := fun j => by have := hl (j + 1); simpa [Nat.add_assoc, Nat.add_comm 1 j] using this
      obtain ⟨h1, h2⟩ := hall
      refine wpList_step fun K hK => ?_
      rcases h1 a ⟨hk.slot, fun d hd ho => (hk.old d hd).trans (hY.get d ho)⟩ with ⟨hw, v, hv, hq⟩ | ⟨hw, hv⟩
      · rw [if_pos (show Region.wanted o (yielded l.toArray a.tmps) = true from hw)]
        have hq := hq q
        have hgo : ∀ p : After w, K (a.put o.dst v) p.to := fun p => hK _ _ (ih (n + 1) _ p hl2 (hk.step ho hf hv) h2)
        unfold Oper.wp
        generalize (execOp a.eval o).run P q.to = r at hq
        match r, hq with
        | .ok (.value u) w', ⟨h1, h2⟩ => subst h1 h2; exact hgo q
        | .ok .skip w', ⟨h1, h2⟩ => subst h1 h2; exact hgo q
        | .ok (.enter f args) w', ⟨h1, h2⟩ =>
          subst h1
          refine Calls.mono h2 ?_
          rintro e w'' ⟨rfl, p, rfl⟩
          exact hgo p
      · rw [if_neg (by rw [hw]; decide)]
        exact hK _ _ (ih (n + 1) _ q hl2 (hk.step ho hf hv) h2)
  exact key l 0 a0 ⟨w, Below.refl _ _⟩ (fun j => by simp) ⟨rfl, rfl, fun d hd => by simp [setB] at hd, fun _ _ => rfl⟩ hop
end

/-- The guard's operation was left out itself. -/
theorem unwanted_undef {ops : Array Oper} {o : Oper} {a : Act} (d : Nat) (b : Bool) (h : guardB ops o d b = true) (hv : a.eval (.tmp d) = undef) : Region.wanted o (yielded ops a.tmps) = false := by
  unfold Region.wanted
  unfold guardB at h
  split at h
  · exact absurd h (by decide)
  · rename_i j c hg
    rw [hg]
    simp only [Bool.and_eq_true, decide_eq_true_eq] at h
    obtain ⟨rfl, h⟩ := h
    split at h
    · rename_i p hp
      simp only [decide_eq_true_eq] at h
      rcases Nat.lt_or_ge d a.tmps.size with h' | h'
      · have e : a.tmps[d]? = some undef := by
          rw [Array.getElem?_eq_getElem h', ← hv]
          simp [Act.eval, Array.getD, h']
        simp [yielded, hp, h, e, undef]
      · have e : a.tmps[d]? = none := Array.getElem?_eq_none h'
        simp [yielded, hp, h, e]
    · exact absurd h (by decide)

section
variable {P : Program} {w : World} {o : Oper} {ρ : Operand → Value} {post : Value → Prop}
theorem q_run {v : Value} (hr : ∀ q : After w, (execOp ρ o).run P q.to = .ok (.value v) q.to) (hp : post v) : Quiets P w post ρ o :=
  ⟨v, hp, fun q => by rw [hr q]; exact ⟨rfl, rfl⟩⟩
theorem q_move (x : Operand) (h : o.op = .move x) (hp : post (ρ x)) : Quiets P w post ρ o := q_run (v := ρ x) (fun q => by unfold execOp; rw [h]; rfl) hp
theorem q_assign (x : Operand) (h : o.op = .assign x) (hp : post (ρ x)) : Quiets P w post ρ o := q_run (v := ρ x) (fun q => by unfold execOp; rw [h]; rfl) hp
theorem q_field {T : TypeId} {k : Nat} (x : Operand) (h : o.op = .fieldAddr T x k) {p v : Value} (hx : ρ x = p) (hr : ∀ w, (Instr.fieldAt T p k).run P w = .ok v w) (hp : post v) : Quiets P w post ρ o :=
  q_run (fun q => by unfold execOp; rw [h]; dsimp only; rw [hx, Sem.run_bind, hr]; rfl) hp
theorem q_load {T : TypeId} (x : Operand) (h : o.op = .load T x) {p v : Value} (hx : ρ x = p) (hr : ∀ q : After w, (Instr.loadAt T p).run P q.to = .ok v q.to) (hp : post v) : Quiets P w post ρ o :=
  q_run (fun q => by unfold execOp; rw [h]; dsimp only; rw [hx, Sem.run_bind, hr]; rfl) hp
theorem q_index {T : TypeId} (x y : Operand) (h : o.op = .indexAddr T x y) {p q v : Value} (hx : ρ x = p) (hy : ρ y = q) (hr : ∀ w, (Instr.indexAt T p q).run P w = .ok v w) (hp : post v) : Quiets P w post ρ o :=
  q_run (fun q => by unfold execOp; rw [h]; dsimp only; rw [hx, hy, Sem.run_bind, hr]; rfl) hp
theorem q_bin {op : BinOp} {ty u : TypeId} {x y : Operand} (h : o.op = .binOp op ty x y u) {v1 v2 v : Value} (hx : ρ x = v1) (hy : ρ y = v2)
    (hr : ∀ w, (do eqGuard op ty x y v1 v2; binOp op ty v1 v2 : Sem Value).run P w = .ok v w) (hp : post v) : Quiets P w post ρ o := by
  refine q_run (v := v) (fun q => ?_) hp
  unfold execOp; rw [h]; dsimp only; rw [hx, hy]
  have := hr q.to
  generalize (do eqGuard op ty x y v1 v2; binOp op ty v1 v2 : Sem Value) = s at this
  rw [Sem.run_bind, this]; rfl
theorem q_not {ty : TypeId} {x : Operand} (h : o.op = .unOp .not ty x) (b : Bool) (hx : ρ x = .bool b) (hp : post (.bool !b)) : Quiets P w post ρ o :=
  q_run (fun q => by unfold execOp; rw [h]; dsimp only; rw [hx]; rfl) hp
theorem q_pick {c x y : Operand} (h : o.op = .pick c x y) (b : Bool) (hc : ρ c = .bool b) (hp : post (if b then ρ x else ρ y)) : Quiets P w post ρ o :=
  q_run (fun q => by unfold execOp; rw [h]; dsimp only; rw [hc]; rfl) hp
theorem q_len {ty : TypeId} {x : Operand} (h : o.op = .call { callee := .builtin .len, args := #[x], argTypes := #[ty] }) (hty : P.underlying ty = some (.slice (P.elem ty))) {a : Option Addr} {n c : Nat} (hx : ρ x = .slice a n c) (hp : post (.int .i64 n)) : Quiets P w post ρ o :=
  q_run (fun q => by
    unfold execOp; rw [h]; dsimp only; unfold resolve; dsimp only
    simp [hx, invoke, run_len_slice q.to ty o.type a n c hty, Result.andThen, go_sem, builtin]) hp
theorem q_call {f : FuncId} {xs : Array Operand} {ts : Array TypeId} (h : o.op = .call { callee := .value (.func f), args := xs, argTypes := ts }) (hf : ρ (.func f) = .func (.func f) #[] #[])
    (args : Array Value) (hcf : ∀ w, (callFunc f args).run P w = .ok (.enter f args) w) (ha : xs.map ρ = args) {v : Value} (hc : ∀ q : After w, Calls P f args q.to fun e w' => e = .returned v ∧ Below q.to.heap.size q.to w') (hp : post v) : Quiets P w post ρ o := by
  refine ⟨v, hp, fun q => ?_⟩
  unfold execOp; rw [h]; dsimp only; unfold resolve; dsimp only; rw [hf, ha]
  have e : args ++ #[] = args := by simp
  have e2 : (invoke (.fn (.func f) #[]) args : Sem Next).run P q.to = .ok (.enter f args) q.to := by
    unfold invoke; dsimp only; rw [e]; exact hcf q.to
  simp only [Deferred.ofValue, Sem.run_bind, Sem.run_pure, Result.andThen, Array.empty_append, e2]
  exact ⟨rfl, after_calls (hc q)⟩
end
/-- A slot is written in a frame that is written out. -/
theorem put_lit (l : List Value) (ds : _) (k : Nat) (v : Value) : Act.put ⟨l.toArray, ds⟩ (some k) v = ⟨(l.set k v).toArray, ds⟩ := by
  simp [Act.put]
/-- One cell is loaded. -/
theorem load_at {P : Program} {T : TypeId} {w : World} {p : Addr} {v : Value} (hT : ∀ w, (isAgg T).run P w = .ok false w) (h : w.cell? p = some v) : (Instr.loadAt T (.pointer (some p))).run P w = .ok v w := by
  unfold Instr.loadAt Instr.sureAddr loadVar
  simp [go_sem, hT, Result.andThen, h]
theorem loads_from {P : Program} {w : World} {p : Addr} {C : List Value} (h : ∀ (j : Nat) (v : Value), C[j]? = some v → w.cell? (p.add j) = some v) : ∀ (n i : Nat) (acc : Array Value), i + n = C.length → acc.toList = C.take i → (loadCellsFrom p i n acc).run P w = .ok C.toArray w
  | 0, i, acc, hi, ha => by
    unfold loadCellsFrom
    have : acc = C.toArray := by
      rw [← Array.toList_inj, ha, List.take_of_length_le (by omega)]
    simp [this, go_sem]
  | n + 1, i, acc, hi, ha => by
    unfold loadCellsFrom
    have hlt : i < C.length := by omega
    have hc := h i C[i] (List.getElem?_eq_getElem hlt)
    have ih := loads_from (P := P) h n (i + 1) (acc.push C[i]) (by omega) (by rw [Array.toList_push, ha, List.take_succ_eq_append_getElem hlt])
    simp only [Sem.run_bind]
    have hl : (load (p.add i)).run P w = .ok C[i] w := by simp [go_sem, hc]
    rw [hl]
    exact ih
/-- A struct, an array is loaded. -/
theorem load_agg {P : Program} {T : TypeId} {w : World} {p : Addr} {C : List Value} {n : Nat} (hT : ∀ w, (isAgg T).run P w = .ok true w) (hs : ∀ w, (sizeOf T).run P w = .ok n w) (hn : C.length = n) (h : ∀ (j : Nat) (v : Value), C[j]? = some v → w.cell? (p.add j) = some v) :
    (Instr.loadAt T (.pointer (some p))).run P w = .ok (.agg C.toArray) w := by
  have := loads_from (P := P) h n 0 #[] (by omega) (by simp)
  unfold Instr.loadAt Instr.sureAddr loadVar loadCells
  simp [go_sem, hT, hs, Result.andThen, this]
theorem load2 {P : Program} {T : TypeId} {w : World} {p : Addr} {v0 v1 : Value} (hT : ∀ w, (isAgg T).run P w = .ok true w) (hs : ∀ w, (sizeOf T).run P w = .ok 2 w) (h0 : w.cell? p = some v0) (h1 : w.cell? (p.add 1) = some v1) :
    (Instr.loadAt T (.pointer (some p))).run P w = .ok (.agg #[v0, v1]) w := load_agg (C := [v0, v1]) hT hs rfl fun j v hj => by
  match j, hj with
  | 0, hj => obtain rfl : v0 = v := by simpa using hj
             simpa [Addr.add] using h0
  | 1, hj => obtain rfl : v1 = v := by simpa using hj
             exact h1
  | j + 2, hj => simp at hj
theorem load3 {P : Program} {T : TypeId} {w : World} {p : Addr} {v0 v1 v2 : Value} (hT : ∀ w, (isAgg T).run P w = .ok true w) (hs : ∀ w, (sizeOf T).run P w = .ok 3 w) (h0 : w.cell? p = some v0) (h1 : w.cell? (p.add 1) = some v1) (h2 : w.cell? (p.add 2) = some v2) :
    (Instr.loadAt T (.pointer (some p))).run P w = .ok (.agg #[v0, v1, v2]) w := load_agg (C := [v0, v1, v2]) hT hs rfl fun j v hj => by
  match j, hj with
  | 0, hj => obtain rfl : v0 = v := by simpa using hj
             simpa [Addr.add] using h0
  | 1, hj => obtain rfl : v1 = v := by simpa using hj
             exact h1
  | 2, hj => obtain rfl : v2 = v := by simpa using hj
             exact h2
  | j + 3, hj => simp at hj
theorem load5 {P : Program} {T : TypeId} {w : World} {p : Addr} {v0 v1 v2 v3 v4 : Value} (hT : ∀ w, (isAgg T).run P w = .ok true w) (hs : ∀ w, (sizeOf T).run P w = .ok 5 w) (h0 : w.cell? p = some v0) (h1 : w.cell? (p.add 1) = some v1) (h2 : w.cell? (p.add 2) = some v2) (h3 : w.cell? (p.add 3) = some v3) (h4 : w.cell? (p.add 4) = some v4) :
    (Instr.loadAt T (.pointer (some p))).run P w = .ok (.agg #[v0, v1, v2, v3, v4]) w := load_agg (C := [v0, v1, v2, v3, v4]) hT hs rfl fun j v hj => by
  match j, hj with
  | 0, hj => obtain rfl : v0 = v := by simpa using hj
             simpa [Addr.add] using h0
  | 1, hj => obtain rfl : v1 = v := by simpa using hj
             exact h1
  | 2, hj => obtain rfl : v2 = v := by simpa using hj
             exact h2
  | 3, hj => obtain rfl : v3 = v := by simpa using hj
             exact h3
  | 4, hj => obtain rfl : v4 = v := by simpa using hj
             exact h4
  | j + 5, hj => simp at hj
end Go.Cit
