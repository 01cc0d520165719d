/- Texts of the proof, one behind the other: After, Vec0, TyG, Vals, Two, Del, Set, Chain. No condition but those that each names. -/
import Derived.Test.YtofagofpeedfcaaGreatGa
import Derived.Test.YtofagofpeedfcaaGreatGe
import Derived.Deep.AppendSrc
import Derived.Test.YtofagofpeedfcaaGreatGc
import Derived.Test.YtofagofpeedfcaaGreatGd
import Derived.Deep.MidRow
import Derived.Deep.Upon
import Derived.IntWalk
import Derived.Laws.OwnMore
/- A region that draws its order, whose operations only read, and whose callees leave alone what lay there: walked once, in the order of the text. No condition. -/
namespace Go.Cit
open Go Go.RowKit

/-- A world in which what lay in w lies as it lay. -/
structure After (w : World) where
  to : World
  bel : Below w.heap.size w to

instance (w : World) : Inhabited (After w) := ⟨⟨w, Below.refl _ _⟩⟩
/-- What is still to be walked (a name that nothing unfolds). -/
structure Wq (P : Program) (ops : Array Oper) (C : World → Prop) (Q : Act → Prop) (l : List Oper) (a : Act) : Prop where
  out : wpQuiet P ops C Q l a
theorem wq_step {P : Program} {ops : Array Oper} {C : World → Prop} {Q : Act → Prop} {a : Act} {o : Oper} {rest : List Oper}
    (h : ∀ K : Act → Prop, (∀ a, Wq P ops C Q rest a → K a) → if Region.wanted o (yielded ops a.tmps) then o.quiet P a C K else K (a.put o.dst undef)) : Wq P ops C Q (o :: rest) a :=
  ⟨wpQuiet_step fun K hK => h K fun a ha => hK a ha.out⟩
theorem wq_nil {P : Program} {ops : Array Oper} {C : World → Prop} {Q : Act → Prop} {a : Act} (h : Q a) : Wq P ops C Q [] a := ⟨wpQuiet_nil h⟩
theorem wp_region_after {P : Program} {id : Nat} {Q : Exit → Act → World → Prop} {a : Act} {w : World} {l : List Oper} (hm : P.follows .mixedOrders = true) (hB : Region.lexB .any l.toArray = true)
    (h : Wq P l.toArray (fun w' => ∃ q : After w, w' = q.to) (fun a' => ∀ w', (∃ q : After w, w' = q.to) → Q .normal a' w') l a) : (Code.region id l.toArray true).wp P Q a w :=
  wp_region_quiet (C := fun w' => ∃ q : After w, w' = q.to) hm hB ⟨⟨_, (Below.refl _ w).drew⟩, rfl⟩ (by simpa using h.out)
theorem after_calls {P : Program} {f : FuncId} {args : Array Value} {w : World} {q : After w} {v : Value}
    (h : Calls P f args q.to fun e w' => e = .returned v ∧ Below q.to.heap.size q.to w') : Calls P f args q.to fun e w'' => e = .returned v ∧ ∃ p : After w, w'' = p.to :=
  h.mono fun _ _ ⟨he, hb⟩ => ⟨he, ⟨_, q.bel.trans (hb.mono q.bel.size)⟩, rfl⟩
theorem After.cell {w : World} {p : Addr} {v : Value} (h : w.cell? p = some v) (q : After w) : q.to.cell? p = some v := (q.bel.cell (World.block_lt_of_cell? w _ h)).trans h
theorem keep {w w' : World} {p : Addr} {v : Value} (hb : Below w.heap.size w w') (h : w.cell? p = some v) : w'.cell? p = some v := (hb.cell (World.block_lt_of_cell? w _ h)).trans h
theorem keepA {w : World} {p : Addr} {v : Value} (o : Obj) (h : w.cell? p = some v) : (w.alloc o).cell? p = some v := keep ((Below.refl _ w).alloc (Nat.le_refl _) o) h
end Go.Cit

/- append onto a slice that was written out empty: no other memory is turned. No condition. -/
namespace Go.Cit
open Go Go.RowKit

section
variable {P : Program} {T E : TypeId} {n by_ : Nat} {z : Value} {α : Type} {f : α → List Value}
theorem vec_src (hE : ElemType P T E n by_ z) (hf : ∀ x, (f x).length = n) (h1 : ∀ x, ∀ u ∈ f x, u.oneCell' = true) {w : World} {b : Option Addr} {m : List α} {c : Nat} (hm : Vec f n w b m c) : Src P n T (.slice b m.length c) m.length (m.flatMap f) w := by
  cases b with
  | none =>
    have hc := hm.nil rfl
    have hle := hm.le
    obtain rfl : m = [] := List.eq_nil_of_length_eq_zero (by omega)
    subst hc
    exact Src.ofNil w hE.slice 0
  | some p =>
    refine Src.ofSlice w hE.slice p m.length c _ (flatLen hf m) (fun j u hu => ?_) (fun u hu => ?_)
    · have hj : j < m.length * n := by rw [← flatLen hf m]; exact (List.getElem?_eq_some_iff.1 hu).1
      have hn := hE.pos
      have e1 : j = j / n * n + j % n := by rw [Nat.mul_comm]; exact (Nat.div_add_mod j n).symm
      have hi' : j / n < m.length := (Nat.div_lt_iff_lt_mul hn).2 hj
      have hj' : j % n < n := Nat.mod_lt _ hn
      obtain ⟨g, off, hp⟩ := hm.spot (by intro h0; simp [h0] at hi')
      injection hp with hp
      subst hp
      rw [add_ad]
      rw [e1] at hu ⊢
      rw [flatGet hf m _ _ hi' hj'] at hu
      rw [hm.cell _ hi' _ hj', hu]
    · obtain ⟨y, _, hy⟩ := List.mem_flatMap.1 hu
      exact h1 y u hy

theorem run_vapp0 (hE : ElemType P T E n by_ z) (hf : ∀ x, (f x).length = n) (h1 : ∀ x, ∀ u ∈ f x, u.oneCell' = true) {w : World} {g : Nat} {b : Option Addr} {m : List α} {c : Nat} {B : Nat} (ty : TypeId)
    (hown : VOwn f n E B w (some ⟨g, 0, none⟩) [] 0) (hm : Vec f n w b m c) (hlen : m.length ≤ 1000000) (hB : B ≤ w.heap.size) :
    ∃ a' c' w', (Builtin.append_ #[T, T] ty #[.slice (some ⟨g, 0, none⟩) 0 0, .slice b m.length c]).run P w = .ok (.slice a' m.length c') w' ∧ VOwn f n E B w' a' m c' ∧ Below w.heap.size w w' := by
  obtain ⟨i, hi, hz0, hz1, hz2⟩ := info_parts hE.info
  have hsrc := vec_src hE hf h1 hm
  rw [← hz1] at hsrc
  have hfew := hE.few
  by_cases h0 : m = []
  · subst h0
    have hr := run_append_room_src (P := P) w T T ty E i hE.slice hi g 0 0 0 (.slice b 0 c) 0 [] hsrc (Nat.le_refl _) (fun j hj => by simp at hj) (fun j hj => by simp at hj)
    exact ⟨_, _, _, hr, hown, Below.refl _ _⟩
  · have hpos : 0 < m.length := List.length_pos_iff.2 h0
    have hold : (Builtin.firstCells i.size 0 (.slice (some ⟨g, 0, none⟩) 0 0)).run P w.drew = .ok ([] : List Value).toArray w.drew := run_firstCells_some w.drew i.size 0 ⟨g, 0, none⟩ 0 0 [] (by simp) (fun j u hu => by simp at hu)
    have hcap := nextslicecap_le (need := 0 + m.length) (old := 0) (by omega)
    have hr := run_append_grow_src (P := P) w T T ty E i z hE.slice hi hz0 (some ⟨g, 0, none⟩) 0 0 [] hold (.slice b m.length c) m.length (m.flatMap f) hsrc (by omega) (by omega) (by rw [hz2]; exact Nat.le_trans (Nat.mul_le_mul (Nat.le_trans hcap (show 2 * (0 + m.length) ≤ 2000000 by omega)) hfew) (by decide))
    rw [Nat.zero_add] at hr
    refine ⟨_, _, _, hr, ⟨?_⟩, ((Below.refl _ w).drew).alloc (Nat.le_refl _) _⟩
    have hge := grownCap_ge w m.length 0 E
    refine ⟨flatLen hf m, .inr ⟨w.heap.size, _, _, rfl, hB, heap_alloc_new w.drew _, hge, grownCap_le_maxLen _ _ _ _ (by unfold maxLen; omega), ?_, ?_⟩⟩
    · simp only [List.nil_append, Array.size_append, List.size_toArray, size_zeroCells, hE.zs, flatLen hf m]
      rw [← Nat.add_mul]; congr 1; omega
    · simp only [List.nil_append, Array.toList_append]
      rw [List.take_append_of_le_length (by simp [flatLen hf m])]
      exact List.take_of_length_le (by simp [flatLen hf m])
end
end Go.Cit

/- A region that draws its order, told slot by slot (no frame is written out), guards that are false among its operations; what lay there stays. No condition on the program. -/
namespace Go.Cit
open Go Go.RowKit

section
variable {P : Program} {ops : Array Oper} {Q : Exit → Act → World → Prop}
/-- What is known at one operation. -/
structure KnownG (ops : Array Oper) (T : Nat → Value → World → Prop) (a0 : Act) (w0 : World) (o : Oper) (a : Act) (w : World) : Prop where
  below : Below w0.heap.size w0 w
  slot : ∀ d, waitsB ops o d = true → T d (a.eval (.tmp d)) w
  old : ∀ d, outB ops d = true → a.eval (.tmp d) = a0.eval (.tmp d)
  lit : ∀ v, a.eval (.const v) = v
  fn : ∀ f, a.eval (.func f) = .func (.func f) #[] #[]
/-- The guard's operation left 'not'. -/
theorem unwanted_by {o : Oper} {a : Act} (d : Nat) (b : Bool) (h : guardB ops o d b = true) (hv : a.eval (.tmp d) = .bool !b) : Region.wanted o (yielded ops a.tmps) = false := by
  unfold Region.wanted
  unfold guardB at h
  split at h
  · exact absurd h (by decide)
  · rename_i j c hg
    rw [hg]
    simp only [Bool.and_eq_true, decide_eq_true_eq] at h
    obtain ⟨rfl, h⟩ := h
    split at h
    · rename_i p hp
      simp only [decide_eq_true_eq] at h
      have hd : d < a.tmps.size := by
        rcases Nat.lt_or_ge d a.tmps.size with h' | h'
        · exact h'
        · simp [Act.eval, Array.getD, Nat.not_lt.2 h', undef] at hv
      have e : a.tmps[d]? = some (.bool !c) := by
        rw [Array.getElem?_eq_getElem hd, ← hv]
        simp [Act.eval, Array.getD, hd]
      cases c <;> simp [yielded, hp, h, e]
    · exact absurd h (by decide)

theorem wp_region_tyg {id : Nat} {a0 : Act} {w : World} (T : Nat → Value → World → Prop)
    (hm : P.follows .mixedOrders = true) (hs : shapeB ops a0.tmps.size = true)
    (hT : ∀ d v w1 w2, Below w1.heap.size w1 w2 → T d v w1 → T d v w2)
    (hop : OpsAll (fun _ o => ∀ a wx, KnownG ops T a0 w o a wx → (Wanted ops o a ∧ GivesP P (fun v w' => Below wx.heap.size wx w' ∧ tyP T o v w') ((execOp a.eval o).run P wx)) ∨ (Region.wanted o (yielded ops a.tmps) = false ∧ tyP T o undef wx)) ops.toList 0)
    (hend : ∀ a wx, Below w.heap.size w wx → SameBut ops a0 a → (∀ d, outB ops d = false → T d (a.eval (.tmp d)) wx) → Q .normal a wx) :
    (Code.region id ops true).wp P Q a0 w := by
  refine wp_region_typed (fun wx => Below w.heap.size w wx) (fun w1 w2 => Below w1.heap.size w1 w2) (fun i v wx => ∀ o, ops[i]? = some o → tyP T o v wx) hm hs
    (fun w1 w2 h1 h2 => h1.trans (h2.mono h1.size)) (fun i v w1 w2 _ hb h o ho => ?_) ⟨rfl, rfl, rfl, Nat.le_refl _, fun _ _ => rfl⟩ ?_ ?_
  · have := h o ho
    rcases hd : o.dst with _ | d
    · exact tyP_none hd _ _
    · rw [tyP_some hd] at this ⊢
      exact hT _ _ _ _ hb this
  · intro i o a wx ho hc hsame hdep o' ho'
    obtain rfl : o = o' := by rw [ho] at ho'; exact Option.some.inj ho'
    have hk : KnownG ops T a0 w o a wx := by
      refine ⟨hc, fun d hd => ?_, fun d hd => ?_, fun _ => rfl, fun _ => rfl⟩
      · unfold waitsB at hd
        rw [Array.any_eq_true] at hd
        obtain ⟨k, hk, he⟩ := hd
        rw [Bool.and_eq_true] at he
        obtain ⟨hb, hp⟩ := he
        split at hp
        · rename_i p hpp
          simp only [decide_eq_true_eq] at hp
          have := hdep _ (Array.getElem_mem hk) hb p d hpp hp p hpp
          rwa [tyP_some hp] at this
        · exact absurd hp (by decide)
      · refine hsame.2.2 d fun j p hp hpd => ?_
        unfold outB at hd
        rw [Array.all_eq_true] at hd
        obtain ⟨hj, hjp⟩ := Array.getElem?_eq_some_iff.1 hp
        have := hd j hj
        rw [hjp] at this
        simp [hpd] at this
    have h := OpsAll.get _ _ hop i o (by simpa using ho) a wx hk
    unfold wpOp
    rw [ho]
    dsimp only
    have hgo : ∀ v w', Below wx.heap.size wx w' → tyP T o v w' → ∃ v', a.put o.dst v = a.put o.dst v' ∧ Below wx.heap.size wx w' ∧ ∀ o', ops[i]? = some o' → tyP T o' v' w' := by
      intro v w' hb hv
      refine ⟨v, rfl, hb, fun o' ho' => ?_⟩
      obtain rfl : o = o' := by rw [ho] at ho'; exact Option.some.inj ho'
      exact hv
    rcases h with ⟨hw, h2⟩ | ⟨hw, h2⟩
    · rw [if_pos (show Region.wanted o (yielded ops a.tmps) = true from hw)]
      refine Or.inl ?_
      unfold Oper.wp
      generalize (execOp a.eval o).run P wx = r at h2
      match r, h2 with
      | .ok (.value v) w', h2 => exact hgo v w' h2.1 h2.2
      | .ok .skip w', h2 => exact hgo undef w' h2.1 h2.2
      | .ok (.enter f args) w', h2 =>
        refine Calls.mono h2 ?_
        rintro e w'' ⟨v, rfl, hb, hv⟩
        exact hgo v w'' hb hv
    · rw [if_neg (by rw [hw]; decide)]
      exact hgo undef wx (Below.refl _ _) h2
  · intro a wx hc hsame hall
    refine hend a wx hc hsame fun d hd => ?_
    unfold outB at hd
    rw [Array.all_eq_false] at hd
    obtain ⟨j, hj, hp⟩ := hd
    have hpd : ops[j].dst = some d := by simpa using hp
    have := hall j ops[j] d (by simp [hj]) hpd ops[j] (by simp [hj])
    rwa [tyP_some hpd] at this
end
end Go.Cit

/- A region that draws its order, every operation quiet (it reads, or calls what leaves alone what lay there), told by its slots' values, guards among them, true or false: no frame is written out. No condition on the program. -/
namespace Go.Cit
open Go Go.RowKit

/-- One of the first n operations leaves slot d. -/
def setB (ops : Array Oper) (n d : Nat) : Bool := (List.range n).any fun j => match ops[j]? with | some p => decide (p.dst = some d) | none => false
/-- All slots lie in the frame. -/
def fitB (ops : Array Oper) (n : Nat) : Bool := ops.all fun o => match o.dst with | some d => decide (d < n) | none => true

/-- What the slots hold ahead of the region, as far as they are asked. -/
def OldIs (a0 : Act) (Y : Nat → Value) : List Nat → Prop
  | [] => True
  | d :: l => a0.eval (.tmp d) = Y d ∧ OldIs a0 Y l
theorem OldIs.get {a0 : Act} {Y : Nat → Value} : ∀ {l : List Nat}, OldIs a0 Y l → ∀ d, l.contains d = true → a0.eval (.tmp d) = Y d
  | [], _, d, h => by simp at h
  | e :: l, ⟨h1, h2⟩, d, h => by
    by_cases he : d = e
    · rw [he]; exact h1
    · exact h2.get d (by simpa [he] using h)
structure KnowsAt (ops : Array Oper) (X : Nat → Value) (a0 : Act) (n : Nat) (a : Act) : Prop where
  defers : a.defers = a0.defers
  size : a.tmps.size = a0.tmps.size
  slot : ∀ d, setB ops n d = true → a.eval (.tmp d) = X d
  old : ∀ d, setB ops n d = false → a.eval (.tmp d) = a0.eval (.tmp d)
/-- What is known ahead of operation n (the frame ahead of the region isn't named). -/
structure KnowsQ (ops : Array Oper) (X Y : Nat → Value) (olds : List Nat) (n : Nat) (a : Act) : Prop where
  slot : ∀ d, setB ops n d = true → a.eval (.tmp d) = X d
  old : ∀ d, setB ops n d = false → olds.contains d = true → a.eval (.tmp d) = Y d

def tyX (X : Nat → Value) (o : Oper) (v : Value) : Prop := match o.dst with | some d => v = X d | none => True
/-- One value, in every world in which what lay there lies as it lay. -/
def Quiets (P : Program) (w0 : World) (post : Value → Prop) (ρ : Operand → Value) (o : Oper) : Prop :=
  ∃ v, post v ∧ ∀ q : After w0, Oper.quietUpon P (fun w' => ∃ q : After w0, w' = q.to) q.to v ((execOp ρ o).run P q.to)

theorem setB_succ (ops : Array Oper) (n d : Nat) : setB ops (n + 1) d = (setB ops n d || match ops[n]? with | some p => decide (p.dst = some d) | none => false) := by
  unfold setB; rw [List.range_succ, List.any_append]; simp

section
variable {P : Program} {w : World}
theorem KnowsAt.step {ops : Array Oper} {X : Nat → Value} {a0 a : Act} {n : Nat} {o : Oper} {v : Value} (h : KnowsAt ops X a0 n a) (ho : ops[n]? = some o) (hf : fitB ops a0.tmps.size = true) (hv : tyX X o v) : KnowsAt ops X a0 (n + 1) (a.put o.dst v) := by
  refine ⟨by rw [put_defers]; exact h.defers, by rw [put_size]; exact h.size, fun d hd => ?_, fun d hd => ?_⟩
  · by_cases he : o.dst = some d
    · have hlt : d < a.tmps.size := by
        rw [h.size]
        unfold fitB at hf
        rw [Array.all_eq_true] at hf
        obtain ⟨hn, rfl⟩ := Array.getElem?_eq_some_iff.1 ho
        have := hf n hn
        rw [he] at this
        simpa using this
      rw [he]
      refine (put_getD_same a d v hlt).trans ?_
      unfold tyX at hv
      rw [he] at hv
      exact hv
    · refine (put_getD_ne a o.dst d v he).trans (h.slot d ?_)
      rw [setB_succ, ho] at hd
      simpa [he] using hd
  · rw [setB_succ, ho] at hd
    simp only [Bool.or_eq_false_iff, decide_eq_false_iff_not] at hd
    exact (put_getD_ne a o.dst d v hd.2).trans (h.old d hd.1)

theorem vals_end {X : Nat → Value} {a0 a : Act} {l : List Oper} {n : Nat} {G : Prop} (hl : ∀ j, ([] : List Oper)[j]? = l.toArray[n + j]?) (hk : KnowsAt l.toArray X a0 n a) (hend : SameBut l.toArray a0 a → (∀ d, outB l.toArray d = false → a.eval (.tmp d) = X d) → G) : G := by
  have hn : l.length ≤ n := by
    have := hl 0
    simp only [List.getElem?_nil, Nat.add_zero] at this
    have := Array.getElem?_eq_none_iff.1 this.symm
    simpa using this
  have hset : ∀ d, setB l.toArray n d = !outB l.toArray d := by
    intro d
    rw [Bool.eq_iff_iff]
    unfold setB outB
    rw [List.any_eq_true, Bool.not_eq_true', Array.all_eq_false]
    constructor
    · rintro ⟨j, _, hj⟩
      split at hj
      · rename_i p hp
        obtain ⟨hlt, he⟩ := Array.getElem?_eq_some_iff.1 hp
        exact ⟨j, hlt, by rw [he]; simpa using hj⟩
      · exact absurd hj (by decide)
    · rintro ⟨j, hlt, hj⟩
      refine ⟨j, List.mem_range.2 (by simp at hlt; omega), ?_⟩
      rw [Array.getElem?_eq_getElem hlt]
      simpa using hj
  refine hend ⟨hk.defers, hk.size, fun d hd => hk.old d ?_⟩ fun d hd => hk.slot d ?_
  · rw [hset]
    simp only [Bool.not_eq_false']
    unfold outB
    rw [Array.all_eq_true]
    intro j hj
    simpa using hd j _ (Array.getElem?_eq_getElem hj)
  · rw [hset, hd]; rfl
theorem wp_region_vals {id : Nat} {Q : Exit → Act → World → Prop} {a0 : Act} {l : List Oper} (X Y : Nat → Value) (olds : List Nat) (hm : P.follows .mixedOrders = true) (hB : Region.lexB .any l.toArray = true) (hf : fitB l.toArray a0.tmps.size = true) (hY : OldIs a0 Y olds)
    (hop : OpsAll (fun n o => ∀ a, KnowsQ l.toArray X Y olds n a → (Wanted l.toArray o a ∧ Quiets P w (tyX X o) a.eval o) ∨ (Region.wanted o (yielded l.toArray a.tmps) = false ∧ tyX X o undef)) l 0)
    (hend : ∀ a (q : After w), SameBut l.toArray a0 a → (∀ d, outB l.toArray d = false → a.eval (.tmp d) = X d) → Q .normal a q.to) : (Code.region id l.toArray true).wp P Q a0 w := by
  refine wp_region_quiet (C := fun w' => ∃ q : After w, w' = q.to) hm hB ⟨⟨_, (Below.refl _ w).drew⟩, rfl⟩ ?_
  have key : ∀ (l2 : List Oper) (n : Nat) (a : Act), (∀ j, l2[j]? = l.toArray[n + j]?) → KnowsAt l.toArray X a0 n a → OpsAll (fun n o => ∀ a, KnowsQ l.toArray X Y olds n a → (Wanted l.toArray o a ∧ Quiets P w (tyX X o) a.eval o) ∨ (Region.wanted o (yielded l.toArray a.tmps) = false ∧ tyX X o undef)) l2 n →
      wpQuiet P l.toArray (fun w' => ∃ q : After w, w' = q.to) (fun a' => ∀ w', (∃ q : After w, w' = q.to) → Q .normal a' w') l2 a := by
    intro l2
    induction l2 with
    | nil =>
      intro n a hl hk _
      refine wpQuiet_nil ?_
      rintro _ ⟨q, rfl⟩
      exact vals_end hl hk (hend a q)
    | cons o l2 ih =>
      intro n a hl hk hall
      have ho : l.toArray[n]? = some o := by simpa using (hl 0).symm
      have hl2 : ∀ j, l2[j]? = l.toArray[n + 1 + j]? := fun j => by have := hl (j + 1); simpa [Nat.add_assoc, Nat.add_comm 1 j] using this
      obtain ⟨h1, h2⟩ := hall
      refine wpQuiet_step fun K hK => ?_
      rcases h1 a ⟨hk.slot, fun d hd ho => (hk.old d hd).trans (hY.get d ho)⟩ with ⟨hw, v, hv, hq⟩ | ⟨hw, hv⟩
      · rw [if_pos (show Region.wanted o (yielded l.toArray a.tmps) = true from hw)]
        refine ⟨v, ?_, hK _ (ih (n + 1) _ hl2 (hk.step ho hf hv) h2)⟩
        rintro _ ⟨q, rfl⟩
        exact hq q
      · rw [if_neg (by rw [hw]; decide)]
        exact hK _ (ih (n + 1) _ hl2 (hk.step ho hf hv) h2)
  exact key l 0 a0 (fun j => by simp) ⟨rfl, rfl, fun d hd => by simp [setB] at hd, fun _ _ => rfl⟩ hop

/-- The same for a region that draws no order. -/
theorem wp_region_vals0 {id : Nat} {Q : Exit → Act → World → Prop} {a0 : Act} {l : List Oper} (X Y : Nat → Value) (olds : List Nat) (hf : fitB l.toArray a0.tmps.size = true) (hY : OldIs a0 Y olds)
    (hop : OpsAll (fun n o => ∀ a, KnowsQ l.toArray X Y olds n a → (Wanted l.toArray o a ∧ Quiets P w (tyX X o) a.eval o) ∨ (Region.wanted o (yielded l.toArray a.tmps) = false ∧ tyX X o undef)) l 0)
    (hend : ∀ a (q : After w), SameBut l.toArray a0 a → (∀ d, outB l.toArray d = false → a.eval (.tmp d) = X d) → Q .normal a q.to) : (Code.region id l.toArray false).wp P Q a0 w := by
  refine wp_region_lit ?_
  have key : ∀ (l2 : List Oper) (n : Nat) (a : Act) (q : After w), (∀ j, l2[j]? = l.toArray[n + j]?) → KnowsAt l.toArray X a0 n a → OpsAll (fun n o => ∀ a, KnowsQ l.toArray X Y olds n a → (Wanted l.toArray o a ∧ Quiets P w (tyX X o) a.eval o) ∨ (Region.wanted o (yielded l.toArray a.tmps) = false ∧ tyX X o undef)) l2 n →
      wpList P l.toArray Q l2 a q.to := by
    intro l2
    induction l2 with
    | nil =>
      intro n a q hl hk _
      refine wpList_nil ?_
      exact vals_end hl hk (hend a q)
    | cons o l2 ih =>
      intro n a q hl hk hall
      have ho : l.toArray[n]? = some o := by simpa using (hl 0).symm
      have hl2 : ∀ j, l2[j]? = l.toArray[n + 1 + j]? := fun j => by have := hl (j + 1); simpa [Nat.add_assoc, Nat.add_comm 1 j] using this
      obtain ⟨h1, h2⟩ := hall
      refine wpList_step fun K hK => ?_
      rcases h1 a ⟨hk.slot, fun d hd ho => (hk.old d hd).trans (hY.get d ho)⟩ with ⟨hw, v, hv, hq⟩ | ⟨hw, hv⟩
      · rw [if_pos (show Region.wanted o (yielded l.toArray a.tmps) = true from hw)]
        have hq := hq q
        have hgo : ∀ p : After w, K (a.put o.dst v) p.to := fun p => hK _ _ (ih (n + 1) _ p hl2 (hk.step ho hf hv) h2)
        unfold Oper.wp
        generalize (execOp a.eval o).run P q.to = r at hq
        match r, hq with
        | .ok (.value u) w', ⟨h1, h2⟩ => subst h1 h2; exact hgo q
        | .ok .skip w', ⟨h1, h2⟩ => subst h1 h2; exact hgo q
        | .ok (.enter f args) w', ⟨h1, h2⟩ =>
          subst h1
          refine Calls.mono h2 ?_
          rintro e w'' ⟨rfl, p, rfl⟩
          exact hgo p
      · rw [if_neg (by rw [hw]; decide)]
        exact hK _ _ (ih (n + 1) _ q hl2 (hk.step ho hf hv) h2)
  exact key l 0 a0 ⟨w, Below.refl _ _⟩ (fun j => by simp) ⟨rfl, rfl, fun d hd => by simp [setB] at hd, fun _ _ => rfl⟩ hop
end

/-- The guard's operation was left out itself. -/
theorem unwanted_undef {ops : Array Oper} {o : Oper} {a : Act} (d : Nat) (b : Bool) (h : guardB ops o d b = true) (hv : a.eval (.tmp d) = undef) : Region.wanted o (yielded ops a.tmps) = false := by
  unfold Region.wanted
  unfold guardB at h
  split at h
  · exact absurd h (by decide)
  · rename_i j c hg
    rw [hg]
    simp only [Bool.and_eq_true, decide_eq_true_eq] at h
    obtain ⟨rfl, h⟩ := h
    split at h
    · rename_i p hp
      simp only [decide_eq_true_eq] at h
      rcases Nat.lt_or_ge d a.tmps.size with h' | h'
      · have e : a.tmps[d]? = some undef := by
          rw [Array.getElem?_eq_getElem h', ← hv]
          simp [Act.eval, Array.getD, h']
        simp [yielded, hp, h, e, undef]
      · have e : a.tmps[d]? = none := Array.getElem?_eq_none h'
        simp [yielded, hp, h, e]
    · exact absurd h (by decide)

section
variable {P : Program} {w : World} {o : Oper} {ρ : Operand → Value} {post : Value → Prop}
theorem q_run {v : Value} (hr : ∀ q : After w, (execOp ρ o).run P q.to = .ok (.value v) q.to) (hp : post v) : Quiets P w post ρ o :=
  ⟨v, hp, fun q => by rw [hr q]; exact ⟨rfl, rfl⟩⟩
theorem q_move (x : Operand) (h : o.op = .move x) (hp : post (ρ x)) : Quiets P w post ρ o := q_run (v := ρ x) (fun q => by unfold execOp; rw [h]; rfl) hp
theorem q_assign (x : Operand) (h : o.op = .assign x) (hp : post (ρ x)) : Quiets P w post ρ o := q_run (v := ρ x) (fun q => by unfold execOp; rw [h]; rfl) hp
theorem q_field {T : TypeId} {k : Nat} (x : Operand) (h : o.op = .fieldAddr T x k) {p v : Value} (hx : ρ x = p) (hr : ∀ w, (Instr.fieldAt T p k).run P w = .ok v w) (hp : post v) : Quiets P w post ρ o :=
  q_run (fun q => by unfold execOp; rw [h]; dsimp only; rw [hx, Sem.run_bind, hr]; rfl) hp
theorem q_load {T : TypeId} (x : Operand) (h : o.op = .load T x) {p v : Value} (hx : ρ x = p) (hr : ∀ q : After w, (Instr.loadAt T p).run P q.to = .ok v q.to) (hp : post v) : Quiets P w post ρ o :=
  q_run (fun q => by unfold execOp; rw [h]; dsimp only; rw [hx, Sem.run_bind, hr]; rfl) hp
theorem q_index {T : TypeId} (x y : Operand) (h : o.op = .indexAddr T x y) {p q v : Value} (hx : ρ x = p) (hy : ρ y = q) (hr : ∀ w, (Instr.indexAt T p q).run P w = .ok v w) (hp : post v) : Quiets P w post ρ o :=
  q_run (fun q => by unfold execOp; rw [h]; dsimp only; rw [hx, hy, Sem.run_bind, hr]; rfl) hp
theorem q_bin {op : BinOp} {ty u : TypeId} {x y : Operand} (h : o.op = .binOp op ty x y u) {v1 v2 v : Value} (hx : ρ x = v1) (hy : ρ y = v2)
    (hr : ∀ w, (do eqGuard op ty x y v1 v2; binOp op ty v1 v2 : Sem Value).run P w = .ok v w) (hp : post v) : Quiets P w post ρ o := by
  refine q_run (v := v) (fun q => ?_) hp
  unfold execOp; rw [h]; dsimp only; rw [hx, hy]
  have := hr q.to
  generalize (do eqGuard op ty x y v1 v2; binOp op ty v1 v2 : Sem Value) = s at this
  rw [Sem.run_bind, this]; rfl
theorem q_not {ty : TypeId} {x : Operand} (h : o.op = .unOp .not ty x) (b : Bool) (hx : ρ x = .bool b) (hp : post (.bool !b)) : Quiets P w post ρ o :=
  q_run (fun q => by unfold execOp; rw [h]; dsimp only; rw [hx]; rfl) hp
theorem q_pick {c x y : Operand} (h : o.op = .pick c x y) (b : Bool) (hc : ρ c = .bool b) (hp : post (if b then ρ x else ρ y)) : Quiets P w post ρ o :=
  q_run (fun q => by unfold execOp; rw [h]; dsimp only; rw [hc]; rfl) hp
theorem q_len {ty : TypeId} {x : Operand} (h : o.op = .call { callee := .builtin .len, args := #[x], argTypes := #[ty] }) (hty : P.underlying ty = some (.slice (P.elem ty))) {a : Option Addr} {n c : Nat} (hx : ρ x = .slice a n c) (hp : post (.int .i64 n)) : Quiets P w post ρ o :=
  q_run (fun q => by
    unfold execOp; rw [h]; dsimp only; unfold resolve; dsimp only
    simp [hx, invoke, run_len_slice q.to ty o.type a n c hty, Result.andThen, go_sem, builtin]) hp
theorem q_call {f : FuncId} {xs : Array Operand} {ts : Array TypeId} (h : o.op = .call { callee := .value (.func f), args := xs, argTypes := ts }) (hf : ρ (.func f) = .func (.func f) #[] #[])
    (args : Array Value) (hcf : ∀ w, (callFunc f args).run P w = .ok (.enter f args) w) (ha : xs.map ρ = args) {v : Value} (hc : ∀ q : After w, Calls P f args q.to fun e w' => e = .returned v ∧ Below q.to.heap.size q.to w') (hp : post v) : Quiets P w post ρ o := by
  refine ⟨v, hp, fun q => ?_⟩
  unfold execOp; rw [h]; dsimp only; unfold resolve; dsimp only; rw [hf, ha]
  have e : args ++ #[] = args := by simp
  have e2 : (invoke (.fn (.func f) #[]) args : Sem Next).run P q.to = .ok (.enter f args) q.to := by
    unfold invoke; dsimp only; rw [e]; exact hcf q.to
  simp only [Deferred.ofValue, Sem.run_bind, Sem.run_pure, Result.andThen, Array.empty_append, e2]
  exact ⟨rfl, after_calls (hc q)⟩
end
/-- A slot is written in a frame that is written out. -/
theorem put_lit (l : List Value) (ds : _) (k : Nat) (v : Value) : Act.put ⟨l.toArray, ds⟩ (some k) v = ⟨(l.set k v).toArray, ds⟩ := by
  simp [Act.put]
/-- One cell is loaded. -/
theorem load_at {P : Program} {T : TypeId} {w : World} {p : Addr} {v : Value} (hT : ∀ w, (isAgg T).run P w = .ok false w) (h : w.cell? p = some v) : (Instr.loadAt T (.pointer (some p))).run P w = .ok v w := by
  unfold Instr.loadAt Instr.sureAddr loadVar
  simp [go_sem, hT, Result.andThen, h]
theorem loads_from {P : Program} {w : World} {p : Addr} {C : List Value} (h : ∀ (j : Nat) (v : Value), C[j]? = some v → w.cell? (p.add j) = some v) : ∀ (n i : Nat) (acc : Array Value), i + n = C.length → acc.toList = C.take i → (loadCellsFrom p i n acc).run P w = .ok C.toArray w
  | 0, i, acc, hi, ha => by
    unfold loadCellsFrom
    have : acc = C.toArray := by
      rw [← Array.toList_inj, ha, List.take_of_length_le (by omega)]
    simp [this, go_sem]
  | n + 1, i, acc, hi, ha => by
    unfold loadCellsFrom
    have hlt : i < C.length := by omega
    have hc := h i C[i] (List.getElem?_eq_getElem hlt)
    have ih := loads_from (P := P) h n (i + 1) (acc.push C[i]) (by omega) (by rw [Array.toList_push, ha, List.take_succ_eq_append_getElem hlt])
    simp only [Sem.run_bind]
    have hl : (load (p.add i)).run P w = .ok C[i] w := by simp [go_sem, hc]
    rw [hl]
    exact ih
/-- A struct, an array is loaded. -/
theorem load_agg {P : Program} {T : TypeId} {w : World} {p : Addr} {C : List Value} {n : Nat} (hT : ∀ w, (isAgg T).run P w = .ok true w) (hs : ∀ w, (sizeOf T).run P w = .ok n w) (hn : C.length = n) (h : ∀ (j : Nat) (v : Value), C[j]? = some v → w.cell? (p.add j) = some v) :
    (Instr.loadAt T (.pointer (some p))).run P w = .ok (.agg C.toArray) w := by
  have := loads_from (P := P) h n 0 #[] (by omega) (by simp)
  unfold Instr.loadAt Instr.sureAddr loadVar loadCells
  simp [go_sem, hT, hs, Result.andThen, this]
theorem load2 {P : Program} {T : TypeId} {w : World} {p : Addr} {v0 v1 : Value} (hT : ∀ w, (isAgg T).run P w = .ok true w) (hs : ∀ w, (sizeOf T).run P w = .ok 2 w) (h0 : w.cell? p = some v0) (h1 : w.cell? (p.add 1) = some v1) :
    (Instr.loadAt T (.pointer (some p))).run P w = .ok (.agg #[v0, v1]) w := load_agg (C := [v0, v1]) hT hs rfl fun j v hj => by
  match j, hj with
  | 0, hj => obtain rfl : v0 = v := by simpa using hj
             simpa [Addr.add] using h0
  | 1, hj => obtain rfl : v1 = v := by simpa using hj
             exact h1
  | j + 2, hj => simp at hj
theorem load3 {P : Program} {T : TypeId} {w : World} {p : Addr} {v0 v1 v2 : Value} (hT : ∀ w, (isAgg T).run P w = .ok true w) (hs : ∀ w, (sizeOf T).run P w = .ok 3 w) (h0 : w.cell? p = some v0) (h1 : w.cell? (p.add 1) = some v1) (h2 : w.cell? (p.add 2) = some v2) :
    (Instr.loadAt T (.pointer (some p))).run P w = .ok (.agg #[v0, v1, v2]) w := load_agg (C := [v0, v1, v2]) hT hs rfl fun j v hj => by
  match j, hj with
  | 0, hj => obtain rfl : v0 = v := by simpa using hj
             simpa [Addr.add] using h0
  | 1, hj => obtain rfl : v1 = v := by simpa using hj
             exact h1
  | 2, hj => obtain rfl : v2 = v := by simpa using hj
             exact h2
  | j + 3, hj => simp at hj
theorem load5 {P : Program} {T : TypeId} {w : World} {p : Addr} {v0 v1 v2 v3 v4 : Value} (hT : ∀ w, (isAgg T).run P w = .ok true w) (hs : ∀ w, (sizeOf T).run P w = .ok 5 w) (h0 : w.cell? p = some v0) (h1 : w.cell? (p.add 1) = some v1) (h2 : w.cell? (p.add 2) = some v2) (h3 : w.cell? (p.add 3) = some v3) (h4 : w.cell? (p.add 4) = some v4) :
    (Instr.loadAt T (.pointer (some p))).run P w = .ok (.agg #[v0, v1, v2, v3, v4]) w := load_agg (C := [v0, v1, v2, v3, v4]) hT hs rfl fun j v hj => by
  match j, hj with
  | 0, hj => obtain rfl : v0 = v := by simpa using hj
             simpa [Addr.add] using h0
  | 1, hj => obtain rfl : v1 = v := by simpa using hj
             exact h1
  | 2, hj => obtain rfl : v2 = v := by simpa using hj
             exact h2
  | 3, hj => obtain rfl : v3 = v := by simpa using hj
             exact h3
  | 4, hj => obtain rfl : v4 = v := by simpa using hj
             exact h4
  | j + 5, hj => simp at hj
end Go.Cit

/- A region that draws its order, in which two operations change the world, one behind the other (an append, and the store of its result); every other one only reads; slots by their values. No condition on the program. -/
namespace Go.Cit
open Go Go.RowKit

/-- Nothing has been done to the heap. -/
def Alike (w w' : World) : Prop := Below w.heap.size w w' ∧ w'.heap = w.heap
structure KnowsT (ops : Array Oper) (X Y : Nat → Value) (olds : List Nat) (o : Oper) (a : Act) : Prop where
  slot : ∀ d, waitsB ops o d = true → a.eval (.tmp d) = X d
  old : ∀ d, (outB ops d && olds.contains d) = true → a.eval (.tmp d) = Y d
section
variable {P : Program} {ops : Array Oper} {Q : Exit → Act → World → Prop}
def twoC (w : World) (iA iS : Nat) (Mid Fin : World → Prop) (δ : Nat → Bool) (_ : Act) (wx : World) : Prop :=
  (δ iA = false → Alike w wx) ∧ (δ iA = true → δ iS = false → Mid wx) ∧ (δ iS = true → Fin wx)
def TwoOp (P : Program) (ops : Array Oper) (w : World) (X : Nat → Value) (iA iS : Nat) (Mid Fin : World → Prop) (n : Nat) (o : Oper) (a : Act) : Prop :=
  Wanted ops o a ∧
  ((n = iA ∧ ∀ wx, Alike w wx → GivesP P (fun v w' => Mid w' ∧ tyX X o v) ((execOp a.eval o).run P wx)) ∨
   (n = iS ∧ ∀ wx, Mid wx → GivesP P (fun v w' => Fin w' ∧ tyX X o v) ((execOp a.eval o).run P wx)) ∨
   (n ≠ iA ∧ n ≠ iS ∧ ∀ wx, (needsB ops ops.size iA n = true → Alike w wx) → (needsB ops ops.size iS n = true → Alike w wx ∨ Mid wx) → GivesP P (fun v w' => w' = wx ∧ tyX X o v) ((execOp a.eval o).run P wx)))
theorem OpsAll.imp2 {p q : Nat → Oper → Prop} (h : ∀ n o, p n o → q n o) : ∀ (os : List Oper) (n : Nat), OpsAll p os n → OpsAll q os n
  | [], _, _ => trivial
  | _ :: os, n, hs => ⟨h n _ hs.1, OpsAll.imp2 h os (n + 1) hs.2⟩
theorem gives_two {p q : Value → World → Prop} {r : Result Next} (h : ∀ v w, p v w → q v w) (hr : GivesP P p r) : GivesP P q r := by
  match r, hr with
  | .ok (.value v) w', hr => exact h _ _ hr
  | .ok .skip w', hr => exact h _ _ hr
  | .ok (.enter f args) w', hr => exact Calls.mono hr fun e w'' ⟨v, he, hp⟩ => ⟨v, he, h _ _ hp⟩
theorem tyP_X {X : Nat → Value} {o : Oper} {v : Value} {w : World} (h : tyX X o v) : tyP (fun d v _ => v = X d) o v w := by
  unfold tyX at h
  rcases hd : o.dst with _ | d
  · exact tyP_none hd _ _
  · rw [tyP_some hd]; rw [hd] at h; exact h
theorem wp_region_two {id : Nat} {a0 : Act} {w : World} (X Y : Nat → Value) (olds : List Nat) (iA iS : Nat) (Mid Fin : World → Prop)
    (hm : P.follows .mixedOrders = true) (hs : shapeB ops a0.tmps.size = true) (hAS : needsB ops ops.size iS iA = true) (hiS : iS < ops.size) (hY : OldIs a0 Y olds)
    (hop : OpsAll (fun n o => ∀ a, KnowsT ops X Y olds o a → TwoOp P ops w X iA iS Mid Fin n o a) ops.toList 0)
    (hend : ∀ a wx, Fin wx → SameBut ops a0 a → (∀ d, outB ops d = false → a.eval (.tmp d) = X d) → Q .normal a wx) :
    (Code.region id ops true).wp P Q a0 w := by
  have hlt := needs_lt hs _ _ _ hAS
  refine wp_region_st (twoC w iA iS Mid Fin) (fun _ _ _ => True) (fun d v _ => v = X d) hm hs (fun w' hb hh => ⟨fun _ => ⟨hb, hh⟩, fun h => absurd h (by simp), fun h => absurd h (by simp)⟩) ?_ ?_ ?_
  · intro δ i j o v a w1 w2 _ _ _ _ _ _ _ h
    rcases hd : o.dst with _ | d
    · exact tyP_none hd _ _
    · rw [tyP_some hd] at h ⊢; exact h
  · refine OpsAll.imp2 (fun n o hall => ?_) ops.toList 0 hop
    intro δ a wx hk
    have hkt : KnowsT ops X Y olds o a := ⟨fun d hd => hk.slot d hd, fun d hd => by
      rw [Bool.and_eq_true] at hd
      exact (hk.old d hd.1).trans (hY.get d hd.2)⟩
    obtain ⟨hw, h⟩ := hall a hkt
    refine ⟨hw, ?_⟩
    rcases h with ⟨rfl, h⟩ | ⟨rfl, h⟩ | ⟨h1, h2, h⟩
    · refine gives_two (fun v w' hv => ⟨trivial, ⟨fun h0 => absurd h0 (by rw [upd_same]; decide), fun _ _ => hv.1, fun h0 => ?_⟩, tyP_X hv.2⟩) (h wx (hk.inv.1 hk.yet))
      rw [upd_other _ (by omega)] at h0
      rw [hk.closed.yet _ _ _ hAS hk.yet] at h0
      exact absurd h0 (by decide)
    · have hA : δ iA = true := by
        have := hk.next.needs _ _ _ hAS (upd_same δ n)
        rwa [upd_other _ (by omega)] at this
      exact gives_two (fun v w' hv => ⟨trivial, ⟨fun h0 => by rw [upd_other _ (by omega), hA] at h0; exact absurd h0 (by decide), fun _ h0 => absurd h0 (by rw [upd_same]; decide), fun _ => hv.1⟩, tyP_X hv.2⟩) (h wx (hk.inv.2.1 hA hk.yet))
    · refine gives_two (fun v w' hv => ?_) (h wx (fun hn => hk.inv.1 (hk.closed.yet _ _ _ hn hk.yet)) (fun hn => ?_))
      rotate_left
      · have hS := hk.closed.yet _ _ _ hn hk.yet
        cases hA : δ iA
        · exact .inl (hk.inv.1 hA)
        · exact .inr (hk.inv.2.1 hA hS)
      obtain ⟨rfl, hv⟩ := hv
      refine ⟨trivial, ⟨fun h0 => hk.inv.1 (by rwa [upd_other _ h1] at h0), fun h0 h3 => hk.inv.2.1 (by rwa [upd_other _ h1] at h0) (by rwa [upd_other _ h2] at h3), fun h0 => hk.inv.2.2 (by rwa [upd_other _ h2] at h0)⟩, tyP_X hv⟩
  · intro δ a wx hall hc hsame hslots
    exact hend a wx (hc.2.2 (hall _ hiS)) hsame fun d hd => hslots d hd
end
end Go.Cit

/- append(s[:k], s[k+1:]...) in a slice of one's own; a place by a number's remainder. No condition. -/
namespace Go.Cit
open Go Go.RowKit

theorem pick_of (wh : Int) (n : Nat) (h : 0 < n) (h9 : n ≤ 1000000) : ∃ k : Nat, k < n ∧ wrap64 ((IntKind.u64.wrap wh).tmod (n : Int)) = (k : Int) := by
  have h0 : 0 ≤ IntKind.u64.wrap wh := by
    have e : IntKind.u64.wrap wh = wh % (18446744073709551616 : Int) := rfl
    rw [e]; omega
  generalize IntKind.u64.wrap wh = z at h0
  obtain ⟨m, rfl⟩ : ∃ m : Nat, z = (m : Int) := ⟨z.toNat, by omega⟩
  have e : (m : Int).tmod (n : Int) = ((m % n : Nat) : Int) := by
    rw [Int.tmod_eq_emod_of_nonneg (by omega)]; exact (Int.natCast_emod m n).symm
  have hlt := Nat.mod_lt m h
  refine ⟨m % n, hlt, ?_⟩
  rw [e]
  exact IntWalk.wrap64_in _ (by omega)

section
variable {α : Type} {f : α → List Value} {n by_ : Nat} {E T : TypeId} {z : Value} {P : Program}
theorem setCells_save (w : World) (g o : Nat) (vs : List Value) : Save (· ≠ g) w (w.setCells g o vs) := by
  have hk := World.keptBut_setCells g (may := fun _ => True) vs o w (fun _ _ => trivial)
  refine ⟨World.os_setCells w g o vs, ?_, World.output_setCells w g o vs, ?_, fun k hk hne => World.heap_setCells_other w g o vs hk hne⟩
  · clear hk
    induction vs generalizing w o with
    | nil => rfl
    | cons v r ih => rw [World.setCells]; exact (ih (w.setCell ⟨g, o, none⟩ v) (o + 1)).trans rfl
  · clear hk
    induction vs generalizing w o with
    | nil => exact Nat.le_refl _
    | cons v r ih => rw [World.setCells]; exact Nat.le_trans (by simp [World.setCell]) (ih (w.setCell ⟨g, o, none⟩ v) (o + 1))
theorem eraseIdx_get {l : List α} {k i : Nat} (h : i < (l.eraseIdx k).length) (hl : k < l.length) : (l.eraseIdx k)[i] = if h' : i < k then l[i]'(by omega) else l[i + 1]'(by rw [List.length_eraseIdx_of_lt hl] at h; omega) := by
  rw [List.getElem_eraseIdx]
/-- The elements behind place k move one place ahead. -/
theorem run_del (hE : ElemType P T E n by_ z) (hf : ∀ x, (f x).length = n) (h1 : ∀ x, ∀ u ∈ f x, u.oneCell' = true) {w : World} {g B cap k : Nat} {l : List α} (ty : TypeId) (h : VOwn f n E B w (some ⟨g, 0, none⟩) l cap) (hk : k < l.length) (X : Option Addr) (hX : k + 1 < l.length → X = some ⟨g, (k + 1) * n, none⟩) (hX0 : X ≠ none) (c : Nat) :
    ∃ w', (Builtin.append_ #[T, T] ty #[.slice (some ⟨g, 0, none⟩) k cap, .slice X (l.length - (k + 1)) c]).run P w = .ok (.slice (some ⟨g, 0, none⟩) (l.length - 1) cap) w' ∧ Vec f n w' (some ⟨g, 0, none⟩) (l.eraseIdx k) cap ∧ Save (· ≠ g) w w' := by
  obtain ⟨i, hi, hz0, hz1, hz2⟩ := info_parts hE.info
  have hv := h.vec hf
  have hn := hE.pos
  obtain ⟨cur, hcur, hcs⟩ : ∃ cur, w.heap[g]? = some (.cells cur E (0, 0)) ∧ cur.size = cap * n := by
    rcases h.row.2 with ⟨hv, _⟩ | ⟨g', c', cur, hv, _, hc, _, _, hs, _⟩
    · simp at hv
    · simp only [Value.slice.injEq, Option.some.injEq, Addr.mk.injEq, and_true, true_and] at hv
      obtain ⟨rfl, rfl⟩ := hv
      exact ⟨cur, hc, hs⟩
  have hcap := hv.le
  have hlen : ((l.drop (k + 1)).flatMap f).length = (l.length - (k + 1)) * n := by rw [flatLen hf, List.length_drop]
  have hsrc : Src P i.size T (.slice X (l.length - (k + 1)) c) (l.length - (k + 1)) ((l.drop (k + 1)).flatMap f) w := by
    rw [hz1]
    obtain ⟨p, rfl⟩ := Option.ne_none_iff_exists'.1 hX0
    refine Src.ofSlice w hE.slice p _ c _ hlen (fun j u hu => ?_) (fun u hu => ?_)
    · have hj : j < (l.length - (k + 1)) * n := by rw [← hlen]; exact (List.getElem?_eq_some_iff.1 hu).1
      have hpos : k + 1 < l.length := by
        rcases Nat.lt_or_ge (k + 1) l.length with h' | h'
        · exact h'
        · rw [Nat.sub_eq_zero_of_le h'] at hj; omega
      have e := hX hpos
      simp only [Option.some.injEq] at e
      subst e
      have e1 : j = j / n * n + j % n := by rw [Nat.mul_comm]; exact (Nat.div_add_mod j n).symm
      have hi' : j / n < (l.drop (k + 1)).length := by rw [List.length_drop]; exact (Nat.div_lt_iff_lt_mul hn).2 hj
      have hj' : j % n < n := Nat.mod_lt _ hn
      have hg := hu
      rw [e1, flatGet hf _ _ _ hi' hj', List.getElem_drop] at hg
      have hc := hv.cell (k + 1 + j / n) (by rw [List.length_drop] at hi'; omega) (j % n) hj'
      rw [hg] at hc
      rw [← hc]
      congr 1
      unfold Addr.add ad
      have e2 : (k + 1 + j / n) * n + j % n = (k + 1) * n + j := by rw [Nat.add_mul]; omega
      rw [e2]
      by_cases h0 : j = 0
      · subst h0; simp
      · simp [h0]
    · obtain ⟨y, _, hy⟩ := List.mem_flatMap.1 hu
      exact h1 y u hy
  have hcell : ∀ j, j < cap * n → (w.cell? ⟨g, j, none⟩).isSome = true := fun j hj => by rw [cell_of_row w g j cur E (0, 0) hcur]; simp; omega
  have hfit : k * n + (l.length - (k + 1)) * n ≤ cap * n := by rw [← Nat.add_mul]; exact Nat.mul_le_mul_right _ (by omega)
  have hr := run_append_room_src (P := P) w T T ty E i hE.slice hi g 0 k cap (.slice X (l.length - (k + 1)) c) (l.length - (k + 1)) ((l.drop (k + 1)).flatMap f) hsrc (by omega)
    (fun j hj => by
      rw [hz1, Nat.zero_add]
      exact hcell _ (Nat.lt_of_lt_of_le (Nat.add_lt_add_left (by rw [hlen] at hj; exact hj) _) hfit)) (fun j _ => by simp [World.frozen?, hcur])
  rw [hz1, Nat.zero_add, show k + (l.length - (k + 1)) = l.length - 1 by omega] at hr
  refine ⟨_, hr, ?_, setCells_save _ _ _ _⟩
  have hel : (l.eraseIdx k).length = l.length - 1 := List.length_eraseIdx_of_lt hk
  refine ⟨by omega, hv.top, hv.nil, fun _ => ⟨g, 0, rfl⟩, fun q hq j hj => ?_⟩
  rw [ad_some, eraseIdx_get hq hk]
  by_cases hqk : q < k
  · rw [dif_pos hqk]
    rw [World.cell?_setCells_out g _ _ _ _ (fun _ _ => .inl (by
      show q * n + j < k * n
      have := Nat.mul_le_mul_right n (show q + 1 ≤ k by omega)
      rw [Nat.add_mul] at this; omega))]
    have := hv.cell q (by omega) j hj
    rwa [ad_some] at this
  · rw [dif_neg hqk]
    have hq2 : q + 1 < l.length := by omega
    have e1 : q * n + j = k * n + ((q - k) * n + j) := by
      have : q = k + (q - k) := by omega
      rw [← Nat.add_assoc, ← Nat.add_mul, ← this]
    have hd : q - k < (l.drop (k + 1)).length := by rw [List.length_drop]; omega
    have hlt : (q - k) * n + j < ((l.drop (k + 1)).flatMap f).length := by
      rw [flatLen hf]
      have := Nat.mul_le_mul_right n (show q - k + 1 ≤ (l.drop (k + 1)).length by omega)
      rw [Nat.add_mul] at this; omega
    rw [e1, World.cell?_setCells_in g _ _ _ (fun j hj => hcell _ (Nat.lt_of_lt_of_le (Nat.add_lt_add_left (by rw [hlen] at hj; exact hj) _) hfit)) _ hlt]
    have := flatGet hf (l.drop (k + 1)) (q - k) j hd hj
    rw [List.getElem?_eq_getElem hlt] at this
    rw [this, List.getElem_drop]
    congr 2
    congr 1
    omega
/-- Where the elements from place lo on lie. -/
def behindA (g n cap lo : Nat) : Option Addr := if cap = lo then some ⟨g, 0, none⟩ else some ⟨g, lo * n, none⟩
theorem run_upto (hE : ElemType P T E n by_ z) (g len cap k : Nat) (h1 : k ≤ len) (h2 : len ≤ cap) (h3 : cap ≤ maxLen) : ∀ w, (Instr.sliceAt T (.slice (some ⟨g, 0, none⟩) len cap) none (some (.int .i64 (k : Int))) none).run P w = .ok (.slice (some ⟨g, 0, none⟩) k cap) w := by
  intro w
  have hT := hE.slice
  have he : P.elem T = E := by simp [Program.elem, hT]
  unfold maxLen at h3
  rw [run_sliceAt_slice _ _ _ _ _ _ (by rw [he]; exact hT), run_slice_h w _ _ _ _ (by rw [he]; exact hT) .i64 k (by omega) (by omega), he, hE.sz]
  by_cases h0 : cap = 0 <;> simp [Result.andThen, sliced, Addr.add, h0]
theorem run_behind (hE : ElemType P T E n by_ z) (g len cap k : Nat) (h1 : k + 1 ≤ len) (h2 : len ≤ cap) (h3 : cap ≤ maxLen) : ∀ w, (Instr.sliceAt T (.slice (some ⟨g, 0, none⟩) len cap) (some (.int .i64 ((k + 1 : Nat) : Int))) none none).run P w = .ok (.slice (behindA g n cap (k + 1)) (len - (k + 1)) (cap - (k + 1))) w := by
  intro w
  have hT := hE.slice
  have hn := hE.pos
  have he : P.elem T = E := by simp [Program.elem, hT]
  unfold maxLen at h3
  rw [run_sliceAt_slice _ _ _ _ _ _ (by rw [he]; exact hT), run_slice_l w T _ _ _ (by rw [he]; exact hT) .i64 ((k + 1 : Nat) : Int) (by omega) (by omega), he, hE.sz]
  have e1 : (((k + 1 : Nat) : Int)).toNat = k + 1 := by omega
  have e2 : (k + 1) * n ≠ 0 := Nat.ne_of_gt (Nat.mul_pos (Nat.succ_pos k) hn)
  by_cases h0 : cap = k + 1
  · simp [Result.andThen, sliced, behindA, h0]
  · have h4 : cap - (k + 1) ≠ 0 := by omega
    simp only [Result.andThen, sliced, behindA, h0, if_false, e1]
    simp [Addr.add, e2, h4, h0]
theorem behindA_some (g n cap lo : Nat) : behindA g n cap lo ≠ none := by unfold behindA; split <;> simp
theorem behindA_at {g n cap k len : Nat} (h : k + 1 < len) (h2 : len ≤ cap) : behindA g n cap (k + 1) = some ⟨g, (k + 1) * n, none⟩ := by unfold behindA; rw [if_neg (by omega)]
theorem store_slice {P : Program} {T : TypeId} {w : World} {p : Addr} {u : Value} {a : Option Addr} {n c : Nat} (hs : ∀ w, (sizeOf T).run P w = .ok 1 w) (h : w.cell? p = some u) (hf : w.frozen? p = false) : (Instr.storeAt T (.pointer (some p)) (.slice a n c)).run P w = .ok () (w.setCell p (.slice a n c)) := by
  unfold Instr.storeAt Instr.sureAddr storeVar
  simp [go_sem, hs, Result.andThen, h, hf]
theorem store_bool {P : Program} {T : TypeId} {w : World} {p : Addr} {u : Value} {b : Bool} (hs : ∀ w, (sizeOf T).run P w = .ok 1 w) (h : w.cell? p = some u) (hf : w.frozen? p = false) : (Instr.storeAt T (.pointer (some p)) (.bool b)).run P w = .ok () (w.setCell p (.bool b)) := by
  unfold Instr.storeAt Instr.sureAddr storeVar
  simp [go_sem, hs, Result.andThen, h, hf]
theorem store_int {P : Program} {T : TypeId} {w : World} {p : Addr} {u : Value} {k : IntKind} {z : Int} (hs : ∀ w, (sizeOf T).run P w = .ok 1 w) (h : w.cell? p = some u) (hf : w.frozen? p = false) : (Instr.storeAt T (.pointer (some p)) (.int k z)).run P w = .ok () (w.setCell p (.int k z)) := by
  unfold Instr.storeAt Instr.sureAddr storeVar
  simp [go_sem, hs, Result.andThen, h, hf]
end
theorem gp_slice {P : Program} {w : World} {o : Oper} {ρ : Operand → Value} {post : Value → World → Prop} {ty : TypeId} {x : Operand} {lo hi mx : Option Operand} (h : o.op = .slice ty x lo hi mx) {vx v : Value} {vl vh vm : Option Value} (hx : ρ x = vx) (hl : lo.map ρ = vl) (hh : hi.map ρ = vh) (hm : mx.map ρ = vm)
    (hr : ∀ w, (Instr.sliceAt ty vx vl vh vm).run P w = .ok v w) (hp : post v w) : GivesP P post ((execOp ρ o).run P w) := by
  refine gp_run (v := v) (w' := w) ?_ hp
  unfold execOp; rw [h]; dsimp only; rw [hx, hl, hh, hm, Sem.run_bind, hr]; rfl

end Go.Cit

/- One cell of an element is stored into, in a slice whose block is told; a region with one store. No condition. -/
namespace Go.Cit
open Go Go.RowKit

section
variable {P : Program} {ops : Array Oper} {Q : Exit → Act → World → Prop}
def oneC (w : World) (iS : Nat) (Fin : World → Prop) (δ : Nat → Bool) (_ : Act) (wx : World) : Prop :=
  (δ iS = false → Alike w wx) ∧ (δ iS = true → Fin wx)
def OnceOp (P : Program) (ops : Array Oper) (w : World) (X : Nat → Value) (iS : Nat) (Fin : World → Prop) (n : Nat) (o : Oper) (a : Act) : Prop :=
  Wanted ops o a ∧
  ((n = iS ∧ ∀ wx, Alike w wx → GivesP P (fun v w' => Fin w' ∧ tyX X o v) ((execOp a.eval o).run P wx)) ∨
   (n ≠ iS ∧ ∀ wx, (needsB ops ops.size iS n = true → Alike w wx) → GivesP P (fun v w' => w' = wx ∧ tyX X o v) ((execOp a.eval o).run P wx)))
theorem wp_region_once {id : Nat} {a0 : Act} {w : World} (X Y : Nat → Value) (olds : List Nat) (iS : Nat) (Fin : World → Prop)
    (hm : P.follows .mixedOrders = true) (hs : shapeB ops a0.tmps.size = true) (hiS : iS < ops.size) (hY : OldIs a0 Y olds)
    (hop : OpsAll (fun n o => ∀ a, KnowsT ops X Y olds o a → OnceOp P ops w X iS Fin n o a) ops.toList 0)
    (hend : ∀ a wx, Fin wx → SameBut ops a0 a → (∀ d, outB ops d = false → a.eval (.tmp d) = X d) → Q .normal a wx) :
    (Code.region id ops true).wp P Q a0 w := by
  refine wp_region_st (oneC w iS Fin) (fun _ _ _ => True) (fun d v _ => v = X d) hm hs (fun w' hb hh => ⟨fun _ => ⟨hb, hh⟩, fun h => absurd h (by simp)⟩) ?_ ?_ ?_
  · intro δ i j o v a w1 w2 _ _ _ _ _ _ _ h
    rcases hd : o.dst with _ | d
    · exact tyP_none hd _ _
    · rw [tyP_some hd] at h ⊢; exact h
  · refine OpsAll.imp2 (fun n o hall => ?_) ops.toList 0 hop
    intro δ a wx hk
    have hkt : KnowsT ops X Y olds o a := ⟨fun d hd => hk.slot d hd, fun d hd => by
      rw [Bool.and_eq_true] at hd
      exact (hk.old d hd.1).trans (hY.get d hd.2)⟩
    obtain ⟨hw, h⟩ := hall a hkt
    refine ⟨hw, ?_⟩
    rcases h with ⟨rfl, h⟩ | ⟨h2, h⟩
    · exact gives_two (fun v w' hv => ⟨trivial, ⟨fun h0 => absurd h0 (by rw [upd_same]; decide), fun _ => hv.1⟩, tyP_X hv.2⟩) (h wx (hk.inv.1 hk.yet))
    · refine gives_two (fun v w' hv => ?_) (h wx (fun hn => hk.inv.1 (hk.closed.yet _ _ _ hn hk.yet)))
      obtain ⟨rfl, hv⟩ := hv
      exact ⟨trivial, ⟨fun h0 => hk.inv.1 (by rwa [upd_other _ h2] at h0), fun h0 => hk.inv.2 (by rwa [upd_other _ h2] at h0)⟩, tyP_X hv⟩
  · intro δ a wx hall hc hsame hslots
    exact hend a wx (hc.2 (hall _ hiS)) hsame fun d hd => hslots d hd
end

section
variable {α : Type} {f : α → List Value} {n : Nat} {E : TypeId}
/-- A slice that lies at the head of a block without marks. -/
structure Held (f : α → List Value) (n : Nat) (E : TypeId) (w : World) (g : Nat) (l : List α) (cap : Nat) : Prop where
  vec : Vec f n w (some ⟨g, 0, none⟩) l cap
  blk : ∃ cs, w.heap[g]? = some (.cells cs E (0, 0))
theorem VOwn.held {B : Nat} {w : World} {g : Nat} {l : List α} {cap : Nat} (hf : ∀ x, (f x).length = n) (h : VOwn f n E B w (some ⟨g, 0, none⟩) l cap) : Held f n E w g l cap :=
  ⟨h.vec hf, by
    rcases h.row.2 with ⟨hv, _⟩ | ⟨g', c', cur, hv, _, hc, _⟩
    · simp at hv
    · simp only [Value.slice.injEq, Option.some.injEq, Addr.mk.injEq, and_true, true_and] at hv
      obtain ⟨rfl, _⟩ := hv
      exact ⟨cur, hc⟩⟩
theorem Held.stay {w w' : World} {g : Nat} {l : List α} {cap : Nat} (hf : ∀ x, (f x).length = n) (h : Held f n E w g l cap) (hb : Below w.heap.size w w') : Held f n E w' g l cap := by
  obtain ⟨h1, cs, h2⟩ := h
  exact ⟨h1.stay hf hb, cs, (hb.block _ (Array.getElem?_eq_some_iff.1 h2).1).trans h2⟩
theorem Held.save {S : Nat → Prop} {w w' : World} {g : Nat} {l : List α} {cap : Nat} (hf : ∀ x, (f x).length = n) (h : Held f n E w g l cap) (hs : Save S w w') (hg : S g) : Held f n E w' g l cap := by
  obtain ⟨h1, cs, h2⟩ := h
  exact ⟨h1.save hf hs (fun _ j hj => by simp [Go.Cit.blk] at hj; rw [← hj]; exact hg), cs, (hs.block _ (Array.getElem?_eq_some_iff.1 h2).1 hg).trans h2⟩
theorem Held.free {w : World} {g : Nat} {l : List α} {cap : Nat} (h : Held f n E w g l cap) (j : Nat) : w.frozen? ⟨g, j, none⟩ = false := by
  obtain ⟨_, cs, h2⟩ := h
  simp [World.frozen?, h2]
theorem setCell_blk' {w : World} {b i : Nat} {cs : Array Value} {fr : Nat × Nat} (v : Value) (h : w.heap[b]? = some (.cells cs E fr)) : (w.setCell ⟨b, i, none⟩ v).heap[b]? = some (.cells (cs.setIfInBounds i v) E fr) := by
  simp [World.setCell, Array.getElem?_modify, h]
/-- The cell j of element k becomes v. -/
theorem Held.set {w : World} {g : Nat} {l : List α} {cap : Nat} (h : Held f n E w g l cap) (hf : ∀ x, (f x).length = n) {k j : Nat} (hk : k < l.length) (hj : j < n) {x : α} {v : Value} (hx : f x = (f l[k]).set j v) :
    Held f n E (w.setCell ⟨g, k * n + j, none⟩ v) g (l.set k x) cap := by
  obtain ⟨h1, cs, h2⟩ := h
  refine ⟨⟨by rw [List.length_set]; exact h1.le, h1.top, h1.nil, fun _ => ⟨g, 0, rfl⟩, fun i hi q hq => ?_⟩, _, setCell_blk' v h2⟩
  rw [List.length_set] at hi
  rw [ad_some, cell_of_row _ g (i * n + q) _ E (0, 0) (setCell_blk' v h2)]
  have hc := h1.cell i hi q hq
  rw [ad_some, cell_of_row _ g (i * n + q) _ E (0, 0) h2] at hc
  have hkc := h1.cell k hk j hj
  rw [ad_some, cell_of_row _ g (k * n + j) _ E (0, 0) h2] at hkc
  have hlt : k * n + j < cs.size := by
    have hj' : j < (f l[k]).length := by rw [hf]; exact hj
    rw [List.getElem?_eq_getElem hj'] at hkc
    exact (Array.getElem?_eq_some_iff.1 hkc).1
  rw [List.getElem_set]
  by_cases hik : k = i
  · subst hik
    rw [if_pos rfl, hx, List.getElem?_set]
    by_cases hjq : j = q
    · subst hjq
      have hj' : j < (f l[k]).length := by rw [hf]; exact hj
      simp [hlt, hj']
    · rw [if_neg hjq, Array.getElem?_setIfInBounds_ne (by omega)]
      exact hc
  · rw [if_neg hik, Array.getElem?_setIfInBounds_ne ?_]
    · exact hc
    · intro e
      have h3 : k < i ∨ i < k := by omega
      rcases h3 with h3 | h3
      · have := Nat.mul_le_mul_right n (show k + 1 ≤ i by omega)
        rw [Nat.add_mul] at this; omega
      · have := Nat.mul_le_mul_right n (show i + 1 ≤ k by omega)
        rw [Nat.add_mul] at this; omega
end
theorem gp_make {P : Program} {T E : TypeId} (hBT : ByteTypes P T E) {w : World} {o : Oper} {ρ : Operand → Value} {post : Value → World → Prop} (x y : Operand)
    (ho : o.op = .makeSlice T x y) (n : Nat) {k1 k2 : IntKind} (hx : ρ x = .int k1 (n : Int)) (hy : ρ y = .int k2 (n : Int)) (hn : n ≤ 1000000000)
    (h : ∀ w', Cit.Own E w.heap.size w' (some ⟨w.heap.size, 0, none⟩) (List.replicate n 0) n → w.grownBy w' none → post (.slice (some ⟨w.heap.size, 0, none⟩) n n) w') : GivesP P post ((execOp ρ o).run P w) := by
  obtain ⟨i, hi, hz0, hz1, hz2⟩ := info_parts hBT.info
  obtain ⟨w', hr, hown, hgr⟩ := run_make_full (P := P) w w.heap.size T E i (.int .u8 0) 1 hBT.slice hi hz0 hz1 k1 k2 n (by rw [hz2]; omega) (by unfold maxLen; omega) (Nat.le_refl _)
  have e1 : (madeCells (Value.int .u8 0).cells (n * 1)).toList = (List.replicate n (0 : UInt8)).map vb := by
    rw [show (Value.int .u8 0).cells = #[.int .u8 0] from rfl, toList_madeCells_one, Nat.mul_one, List.map_replicate]; rfl
  rw [e1] at hown
  refine gp_run (w' := w') (v := .slice (some ⟨w.heap.size, 0, none⟩) n n) ?_ (h w' ⟨by simpa using hown⟩ hgr)
  unfold execOp
  rw [ho]
  dsimp only
  rw [hx, hy, Sem.run_bind, hr]
  rfl
end Go.Cit

/- A region that draws its order, in which some operations, each behind the one before it, change the world (calls of methods of one thing); the others only read. No condition on the program. -/
namespace Go.Cit
open Go Go.RowKit

section
variable {P : Program} {ops : Array Oper} {Q : Exit → Act → World → Prop}
/-- So many of the chain are done. -/
def chainC (idx : List Nat) (St : Nat → World → Prop) (δ : Nat → Bool) (wx : World) : Prop := ∃ k, k ≤ idx.length ∧ (∀ j i, idx[j]? = some i → (δ i = true ↔ j < k)) ∧ St k wx
def ChainOp (P : Program) (ops : Array Oper) (X : Nat → Value) (idx : List Nat) (St : Nat → World → Prop) (n : Nat) (o : Oper) (a : Act) : Prop :=
  Wanted ops o a ∧
  ((∃ j, idx[j]? = some n ∧ ∀ wx, St j wx → GivesP P (fun v w' => St (j + 1) w' ∧ tyX X o v) ((execOp a.eval o).run P wx)) ∨
   (n ∉ idx ∧ ∀ k wx, k ≤ idx.length → St k wx → GivesP P (fun v w' => w' = wx ∧ tyX X o v) ((execOp a.eval o).run P wx)))
def chainB (ops : Array Oper) (idx : List Nat) : Bool := (List.range idx.length).all fun j => decide (idx.getD j 0 < ops.size) && (decide (j = 0) || needsB ops ops.size (idx.getD j 0) (idx.getD (j - 1) 0))
theorem chain_spec {idx : List Nat} (h : chainB ops idx = true) {j i : Nat} (hj : idx[j]? = some i) : i < ops.size ∧ ∀ j' i', j = j' + 1 → idx[j']? = some i' → needsB ops ops.size i i' = true := by
  have hlt := (List.getElem?_eq_some_iff.1 hj).1
  have h1 := List.all_eq_true.1 h j (List.mem_range.2 hlt)
  rw [List.getD_eq_getElem?_getD, hj] at h1
  simp only [Option.getD_some, Bool.and_eq_true, Bool.or_eq_true, decide_eq_true_eq] at h1
  refine ⟨h1.1, fun j' i' e hi' => ?_⟩
  subst e
  rcases h1.2 with h2 | h2
  · omega
  · rw [List.getD_eq_getElem?_getD, show j' + 1 - 1 = j' from rfl, hi'] at h2
    exact h2
theorem chain_lt {idx : List Nat} {m : Nat} (hs : shapeB ops m = true) (h : chainB ops idx = true) : ∀ (d j i i' : Nat), idx[j]? = some i → idx[j + d + 1]? = some i' → i < i'
  | 0, j, i, i', hi, hi' => needs_lt hs _ _ _ ((chain_spec h hi').2 j i rfl hi)
  | d + 1, j, i, i', hi, hi' => by
    have hlt := (List.getElem?_eq_some_iff.1 hi').1
    have hm : idx[j + d + 1]? = some idx[j + d + 1] := List.getElem?_eq_getElem (by omega)
    have h1 := chain_lt hs h d j i _ hi hm
    have h2 := needs_lt hs _ _ _ ((chain_spec h hi').2 (j + d + 1) _ rfl hm)
    omega
theorem chain_inj {idx : List Nat} {m : Nat} (hs : shapeB ops m = true) (h : chainB ops idx = true) {j j' i : Nat} (hi : idx[j]? = some i) (hi' : idx[j']? = some i) : j = j' := by
  rcases Nat.lt_trichotomy j j' with hlt | he | hlt
  · have := chain_lt hs h (j' - j - 1) j i i hi (by rw [show j + (j' - j - 1) + 1 = j' by omega]; exact hi'); omega
  · exact he
  · have := chain_lt hs h (j - j' - 1) j' i i hi' (by rw [show j' + (j - j' - 1) + 1 = j by omega]; exact hi); omega
theorem wp_region_chain {id : Nat} {a0 : Act} {w : World} (X Y : Nat → Value) (olds : List Nat) (idx : List Nat) (St : Nat → World → Prop)
    (hm : P.follows .mixedOrders = true) (hs : shapeB ops a0.tmps.size = true) (hc : chainB ops idx = true) (hY : OldIs a0 Y olds)
    (h0 : ∀ w', Below w.heap.size w w' → w'.heap = w.heap → St 0 w')
    (hop : OpsAll (fun n o => ∀ a, KnowsT ops X Y olds o a → ChainOp P ops X idx St n o a) ops.toList 0)
    (hend : ∀ a wx, St idx.length wx → SameBut ops a0 a → (∀ d, outB ops d = false → a.eval (.tmp d) = X d) → Q .normal a wx) :
    (Code.region id ops true).wp P Q a0 w := by
  refine wp_region_ph (chainC idx St) (fun _ _ _ => True) (fun d v _ => v = X d) hm hs (fun w' hb hh => ⟨0, Nat.zero_le _, fun j i _ => ⟨fun h => absurd h (by simp), fun h => absurd h (Nat.not_lt_zero _)⟩, h0 w' hb hh⟩) ?_ ?_ ?_
  · intro δ i j o v w1 w2 _ _ _ _ _ _ _ h
    rcases hd : o.dst with _ | d
    · exact tyP_none hd _ _
    · rw [tyP_some hd] at h ⊢; exact h
  · refine OpsAll.imp2 (fun n o hall => ?_) ops.toList 0 hop
    intro δ a wx hk
    have hkt : KnowsT ops X Y olds o a := ⟨fun d hd => hk.slot d hd, fun d hd => by
      rw [Bool.and_eq_true] at hd
      exact (hk.old d hd.1).trans (hY.get d hd.2)⟩
    obtain ⟨hw, h⟩ := hall a hkt
    refine ⟨hw, ?_⟩
    obtain ⟨k, hk1, hk2, hk3⟩ := hk.inv
    rcases h with ⟨j, hj, h⟩ | ⟨hn, h⟩
    · have hkj : k = j := by
        have h1 : ¬ j < k := fun hlt => by
          have := (hk2 j n hj).2 hlt
          rw [hk.yet] at this; exact absurd this (by decide)
        have h2 : j ≤ k := by
          rcases j with _ | j'
          · exact Nat.zero_le _
          · have hlt := (List.getElem?_eq_some_iff.1 hj).1
            have hj' : idx[j']? = some idx[j'] := List.getElem?_eq_getElem (by omega)
            have hneed := (chain_spec hc hj).2 j' _ rfl hj'
            have hdone := hk.next.needs ops.size n _ hneed (upd_same _ _)
            have hne := needs_lt hs _ _ _ hneed
            rw [upd_other _ (by omega)] at hdone
            exact (hk2 j' _ hj').1 hdone
        omega
      subst hkj
      refine gives_two (fun v w' hv => ⟨trivial, ⟨k + 1, ?_, fun j2 i2 hj2 => ?_, hv.1⟩, tyP_X hv.2⟩) (h wx hk3)
      · exact (List.getElem?_eq_some_iff.1 hj).1
      · by_cases he : n = i2
        · subst he
          rw [upd_same]
          have := chain_inj hs hc hj hj2
          subst this
          exact ⟨fun _ => Nat.lt_succ_self _, fun _ => rfl⟩
        · rw [upd_other _ he, hk2 j2 i2 hj2]
          have : j2 ≠ k := fun e => he (by rw [e, hj] at hj2; exact Option.some.inj hj2)
          omega
    · refine gives_two (fun v w' hv => ?_) (h k wx hk1 hk3)
      obtain ⟨rfl, hv⟩ := hv
      exact ⟨trivial, ⟨k, hk1, fun j2 i2 hj2 => by
        rw [upd_other _ (show n ≠ i2 from fun e => hn (by rw [e]; exact List.mem_of_getElem? hj2))]; exact hk2 j2 i2 hj2, hk3⟩, tyP_X hv⟩
  · intro δ a wx hall hcc hsame hslots
    obtain ⟨k, hk1, hk2, hk3⟩ := hcc
    have hkl : k = idx.length := by
      rcases Nat.lt_or_ge k idx.length with hlt | hge
      · have hi : idx[k]? = some idx[k] := List.getElem?_eq_getElem hlt
        have := (hk2 k _ hi).1 (hall _ (chain_spec hc hi).1)
        omega
      · omega
    subst hkl
    exact hend a wx hk3 hsame fun d hd => hslots d hd
end
theorem Save.off {b : Nat} {a a1 : Option Addr} {w wx w' : World} (h1 : Save (fun k => k ≠ b ∧ some k ≠ blk a) w wx) (hn : Near w.heap.size a a1) (h2 : Save (fun k => k ≠ b ∧ some k ≠ blk a1) wx w') : Save (fun k => k ≠ b ∧ some k ≠ blk a) w w' :=
  ⟨h2.os.trans h1.os, h2.tape.trans h1.tape, h2.output.trans h1.output, Nat.le_trans h1.size h2.size, fun k hk hs => (h2.block k (Nat.lt_of_lt_of_le hk h1.size) ⟨hs.1, fun e => by
    rcases hn k e.symm with h | h
    · exact hs.2 h.symm
    · omega⟩).trans (h1.block k hk hs)⟩
end Go.Cit

