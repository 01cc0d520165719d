/- What a slot holds, told by kind; a region that draws its order, by its operations' kinds. No condition. -/
import Derived.Test.YtofagofpeedfcaaTyped
import Derived.Test.YtofagofpeedfcaaOwn
namespace Go.Cit
open Go Go.RowKit

/-- What has been laid stays: cells, shapes (marks may change). -/
structure Grow (w w' : World) : Prop where
  size : w.heap.size ≤ w'.heap.size
  cell : ∀ p v, w.cell? p = some v → w'.cell? p = some v
  shape : ∀ b s, w.shape? b = some s → w'.shape? b = some s
theorem Grow.refl (w : World) : Grow w w := ⟨Nat.le_refl _, fun _ _ h => h, fun _ _ h => h⟩
theorem Grow.trans {a b c : World} (h : Grow a b) (k : Grow b c) : Grow a c := ⟨Nat.le_trans h.size k.size, fun p v hv => k.cell p v (h.cell p v hv), fun p v hv => k.shape p v (h.shape p v hv)⟩
theorem grow_of {w w' : World} (h : Below w.heap.size w w') : Grow w w' :=
  ⟨h.size, fun p v hv => (h.cell (World.block_lt_of_cell? w _ hv)).trans hv, fun b s hs => by
    have hb : b < w.heap.size := by
      rcases Nat.lt_or_ge b w.heap.size with h' | h'
      · exact h'
      · simp [World.shape?, Array.getElem?_eq_none h'] at hs
    unfold World.shape? at hs ⊢
    rw [h.block b hb]; exact hs⟩
theorem modify_get (a : Array Obj) (k i : Nat) (f : Obj → Obj) : (a.modify k f)[i]? = if k = i then (a[i]?).map f else a[i]? := by
  rw [Array.getElem?_modify]
theorem freeze_get (w : World) (p : Addr) (n i : Nat) : (∀ C t fr, w.heap[i]? = some (.cells C t fr) → ∃ fr', (w.freeze p n).heap[i]? = some (.cells C t fr')) ∧ (p.block ≠ i → (w.freeze p n).heap[i]? = w.heap[i]?) := by
  unfold World.freeze
  split
  · exact ⟨fun C t fr h => ⟨fr, h⟩, fun _ => rfl⟩
  · refine ⟨fun C t fr h => ?_, fun h => ?_⟩
    · dsimp only
      rw [modify_get, h]
      split
      · obtain ⟨lo, hi⟩ := fr; exact ⟨_, rfl⟩
      · exact ⟨fr, rfl⟩
    · dsimp only
      rw [modify_get, if_neg h]
theorem freeze_size (w : World) (p : Addr) (n : Nat) : (w.freeze p n).heap.size = w.heap.size := by
  unfold World.freeze; split <;> simp
theorem shape_cells {w : World} {b : Nat} {t : TypeId} {n : Nat} (h : w.shape? b = some (t, n)) : ∃ C fr, w.heap[b]? = some (.cells C t fr) ∧ C.size = n := by
  unfold World.shape? at h
  split at h
  · rename_i C e fr hb
    simp only [Option.some.injEq, Prod.mk.injEq] at h
    obtain ⟨rfl, rfl⟩ := h
    exact ⟨C, fr, hb, rfl⟩
  · exact absurd h (by simp)
theorem shape_new (w : World) (C : Array Value) (e : TypeId) (fr : Nat × Nat) : (w.alloc (.cells C e fr)).shape? w.heap.size = some (e, C.size) := by
  have : (w.alloc (.cells C e fr)).heap[w.heap.size]? = some (.cells C e fr) := by
    show (w.heap.push (.cells C e fr))[w.heap.size]? = _
    simp
  unfold World.shape?
  rw [this]
theorem below_freeze {B : Nat} (w : World) (p : Addr) (n : Nat) (h : B ≤ p.block) : Below B w (w.freeze p n) := by
  refine ⟨?_, ?_, ?_, by rw [freeze_size]; exact Nat.le_refl _, fun k hk => (freeze_get w p n k).2 (by omega)⟩ <;> (unfold World.freeze; split <;> rfl)
theorem Row.grow {w w' : World} {a l cap} (h : Row w a l cap) (g : Grow w w') : Row w' a l cap := ⟨h.le, h.top, h.nil, h.spot, fun i hi => g.cell _ _ (h.cell i hi)⟩

/-- What is said of a slot. -/
inductive Ty where
  | any
  | val (v : Value)
  | row (l : List UInt8)
  | two (s t : Ty)
  | lit (base : Nat) (e : TypeId) (l : List UInt8)
  | pr (p : Value → World → Prop) (h : ∀ v w w', Grow w w' → p v w → p v w')

def Ty.ok : Ty → Value → World → Prop
  | .any, _, _ => True
  | .val u, v, _ => v = u
  | .row l, v, w => ∃ a cp, v = .slice a l.length cp ∧ Row w a l cp
  | .two s t, v, w => ∃ x y, v = .tuple #[x, y] ∧ s.ok x w ∧ t.ok y w
  | .lit base e l, v, w => ∃ b, v = .slice (some ⟨b, 0, none⟩) l.length l.length ∧ base ≤ b ∧ w.shape? b = some (e, l.length) ∧ Row w (some ⟨b, 0, none⟩) l l.length
  | .pr p _, v, w => p v w

theorem Ty.stay : ∀ (t : Ty) {v : Value} {w w' : World}, Grow w w' → t.ok v w → t.ok v w'
  | .any, _, _, _, _, _ => trivial
  | .val _, _, _, _, _, h => h
  | .row _, _, _, _, hb, ⟨a, cp, hv, hr⟩ => ⟨a, cp, hv, hr.grow hb⟩
  | .two s t, _, _, _, hb, ⟨x, y, hv, hs, ht⟩ => ⟨x, y, hv, s.stay hb hs, t.stay hb ht⟩
  | .lit _ _ _, _, _, _, hb, ⟨b, hv, hge, hsh, hr⟩ => ⟨b, hv, hge, hb.shape _ _ hsh, hr.grow hb⟩
  | .pr _ h, _, _, _, hb, hp => h _ _ _ hb hp

/-- What an operation's result has to be. -/
def Gives (P : Program) (B : Nat) (w : World) (t : Ty) : Result Next → Prop
  | .ok (.value v) w' => Below B w w' ∧ Grow w w' ∧ t.ok v w'
  | .ok .skip w' => Below B w w' ∧ Grow w w' ∧ t.ok undef w'
  | .ok (.enter f args) w' => Calls P f args w' fun e w'' => ∃ v, e = .returned v ∧ Below B w w'' ∧ Grow w w'' ∧ t.ok v w''
  | _ => False

/-- The slot that an operation leaves, and what is said of it. -/
def tyOf (T : Nat → Ty) (o : Oper) : Ty := match o.dst with | some d => T d | none => .any

/-- Of each operation something is said. -/
def OpsAll (p : Nat → Oper → Prop) : List Oper → Nat → Prop
  | [], _ => True
  | o :: os, n => p n o ∧ OpsAll p os (n + 1)
theorem OpsAll.get {p : Nat → Oper → Prop} (os : List Oper) : ∀ n, OpsAll p os n → ∀ i o, os[i]? = some o → p (n + i) o := by
  induction os with
  | nil => intro n _ i o ho; simp at ho
  | cons x os ih =>
    intro n h i o ho
    cases i with
    | zero =>
      have hx : x = o := by simpa using ho
      subst hx
      exact h.1
    | succ i =>
      have := ih (n + 1) h.2 i o (by simpa using ho)
      rwa [Nat.add_assoc, Nat.add_comm 1 i] at this

theorem opsAll_cons {p : Nat → Oper → Prop} {o : Oper} {os : List Oper} {n : Nat} (h : p n o) (hs : OpsAll p os (n + 1)) : OpsAll p (o :: os) n := ⟨h, hs⟩
theorem opsAll_nil {p : Nat → Oper → Prop} {n : Nat} : OpsAll p [] n := trivial

/-- The operation waits for the one that leaves slot d. -/
def waitsB (ops : Array Oper) (o : Oper) (d : Nat) : Bool :=
  o.after.any fun e => Region.binds .any e && (match ops[e.on]? with | some p => decide (p.dst = some d) | none => false)
/-- No operation leaves slot d. -/
def outB (ops : Array Oper) (d : Nat) : Bool := ops.all fun o => decide (o.dst ≠ some d)
/-- The guard's operation leaves slot d. -/
def guardB (ops : Array Oper) (o : Oper) (d : Nat) (b : Bool) : Bool :=
  match o.guard with | none => false | some (j, c) => decide (c = b) && (match ops[j]? with | some p => decide (p.dst = some d) | none => false)

section
variable {P : Program} {ops : Array Oper} {Q : Exit → Act → World → Prop}

/-- What is known at one operation: its slots, by those it waits for; the slots that the region doesn't leave. -/
structure Known (ops : Array Oper) (T : Nat → Ty) (a0 : Act) (w0 : World) (o : Oper) (a : Act) (w : World) : Prop where
  below : Below w0.heap.size w0 w
  slot : ∀ d, waitsB ops o d = true → (T d).ok (a.eval (.tmp d)) w
  old : ∀ d, outB ops d = true → a.eval (.tmp d) = a0.eval (.tmp d)
  lit : ∀ v, a.eval (.const v) = v
  fn : ∀ f, a.eval (.func f) = .func (.func f) #[] #[]
  size : a.tmps.size = a0.tmps.size

/-- The operation is carried out. -/
def Wanted (ops : Array Oper) (o : Oper) (a : Act) : Prop := Region.wanted o (yielded ops a.tmps) = true

theorem wanted_free {o : Oper} {a : Act} (h : o.guard = none) : Wanted ops o a := by unfold Wanted Region.wanted; rw [h]
theorem wanted_by {o : Oper} {a : Act} (d : Nat) (b : Bool) (h : guardB ops o d b = true) (hv : a.eval (.tmp d) = .bool b) : Wanted ops o a := by
  unfold Wanted Region.wanted
  unfold guardB at h
  split at h
  · exact absurd h (by decide)
  · rename_i j c hg
    rw [hg]
    simp only [Bool.and_eq_true, decide_eq_true_eq] at h
    obtain ⟨rfl, h⟩ := h
    split at h
    · rename_i p hp
      simp only [decide_eq_true_eq] at h
      have hd : d < a.tmps.size := by
        rcases Nat.lt_or_ge d a.tmps.size with h' | h'
        · exact h'
        · simp [Act.eval, Array.getD, Nat.not_lt.2 h', undef] at hv
      have e : a.tmps[d]? = some (.bool c) := by
        rw [Array.getElem?_eq_getElem hd, ← hv]
        simp [Act.eval, Array.getD, hd]
      simp [yielded, hp, h, e]
    · exact absurd h (by decide)

theorem wp_region_ty {id : Nat} {a0 : Act} {w : World} (T : Nat → Ty)
    (hm : P.follows .mixedOrders = true) (hs : shapeB ops a0.tmps.size = true)
    (hop : OpsAll (fun _ o => ∀ a wx, Known ops T a0 w o a wx → Wanted ops o a ∧ Gives P w.heap.size wx (tyOf T o) ((execOp a.eval o).run P wx)) ops.toList 0)
    (hend : ∀ a wx, Below w.heap.size w wx → SameBut ops a0 a → (∀ d, outB ops d = false → (T d).ok (a.eval (.tmp d)) wx) → Q .normal a wx) :
    (Code.region id ops true).wp P Q a0 w := by
  refine wp_region_typed (fun wx => Below w.heap.size w wx) (fun w1 w2 => Below w.heap.size w1 w2 ∧ Grow w1 w2) (fun i v wx => ∀ o, ops[i]? = some o → (tyOf T o).ok v wx) hm hs
    (fun w1 w2 h1 h2 => h1.trans h2.1) (fun i v w1 w2 _ hb h o ho => (tyOf T o).stay hb.2 (h o ho)) ⟨rfl, rfl, rfl, Nat.le_refl _, fun _ _ => rfl⟩ ?_ ?_
  · intro i o a wx ho hc hsame hdep o' ho'
    obtain rfl : o = o' := by rw [ho] at ho'; exact Option.some.inj ho'
    have hk : Known ops T a0 w o a wx := by
      refine ⟨hc, fun d hd => ?_, fun d hd => ?_, fun _ => rfl, fun _ => rfl, hsame.2.1⟩
      · unfold waitsB at hd
        rw [Array.any_eq_true] at hd
        obtain ⟨k, hk, he⟩ := hd
        rw [Bool.and_eq_true] at he
        obtain ⟨hb, hp⟩ := he
        split at hp
        · rename_i p hpp
          simp only [decide_eq_true_eq] at hp
          have := hdep _ (Array.getElem_mem hk) hb p d hpp hp p hpp
          unfold tyOf at this
          rw [hp] at this
          exact this
        · exact absurd hp (by decide)
      · refine hsame.2.2 d fun j p hp hpd => ?_
        unfold outB at hd
        rw [Array.all_eq_true] at hd
        obtain ⟨hj, hjp⟩ := Array.getElem?_eq_some_iff.1 hp
        have := hd j hj
        rw [hjp] at this
        simp [hpd] at this
    have h := OpsAll.get _ _ hop i o (by simpa using ho) a wx hk
    unfold wpOp
    rw [ho]
    dsimp only
    rw [if_pos (show Region.wanted o (yielded ops a.tmps) = true from h.1)]
    refine Or.inl ?_
    unfold Oper.wp
    have h2 := h.2
    generalize (execOp a.eval o).run P wx = r at h2
    have hgo : ∀ v w', (Below w.heap.size wx w' ∧ Grow wx w') → (tyOf T o).ok v w' → ∃ v', a.put o.dst v = a.put o.dst v' ∧ (Below w.heap.size wx w' ∧ Grow wx w') ∧ ∀ o', ops[i]? = some o' → (tyOf T o').ok v' w' := by
      intro v w' hb hv
      refine ⟨v, rfl, hb, fun o' ho' => ?_⟩
      obtain rfl : o = o' := by rw [ho] at ho'; exact Option.some.inj ho'
      exact hv
    match r, h2 with
    | .ok (.value v) w', h2 => exact hgo v w' ⟨h2.1, h2.2.1⟩ h2.2.2
    | .ok .skip w', h2 => exact hgo undef w' ⟨h2.1, h2.2.1⟩ h2.2.2
    | .ok (.enter f args) w', h2 =>
      refine Calls.mono h2 ?_
      rintro e w'' ⟨v, rfl, hb, hg, hv⟩
      exact hgo v w'' ⟨hb, hg⟩ hv
  · intro a wx hc hsame hall
    refine hend a wx hc hsame fun d hd => ?_
    unfold outB at hd
    rw [Array.all_eq_false] at hd
    obtain ⟨j, hj, hp⟩ := hd
    have hpd : ops[j].dst = some d := by simpa using hp
    have := hall j ops[j] d (by simp [hj]) hpd ops[j] (by simp [hj])
    unfold tyOf at this
    rw [hpd] at this
    exact this
end

section
variable {P : Program} {B : Nat} {w : World} {t : Ty} {o : Oper} {ρ : Operand → Value}
theorem g_move (x : Operand) (h : o.op = .move x) (hv : t.ok (ρ x) w) : Gives P B w t ((execOp ρ o).run P w) := by
  unfold execOp; rw [h]; exact ⟨Below.refl _ _, Grow.refl _, hv⟩
theorem g_assign (x : Operand) (h : o.op = .assign x) (hv : t.ok (ρ x) w) : Gives P B w t ((execOp ρ o).run P w) := by
  unfold execOp; rw [h]; exact ⟨Below.refl _ _, Grow.refl _, hv⟩
theorem g_load {T : TypeId} (x : Operand) (h : o.op = .load T x) {p v : Value} (hx : ρ x = p) (hr : (Instr.loadAt T p).run P w = .ok v w) (hv : t.ok v w) : Gives P B w t ((execOp ρ o).run P w) := by
  unfold execOp; rw [h]; dsimp only; rw [hx, Sem.run_bind, hr]
  exact ⟨Below.refl _ _, Grow.refl _, hv⟩
theorem g_index {T : TypeId} (x y : Operand) (h : o.op = .indexAddr T x y) {p q v : Value} (hx : ρ x = p) (hy : ρ y = q) (hr : (Instr.indexAt T p q).run P w = .ok v w) (hv : t.ok v w) : Gives P B w t ((execOp ρ o).run P w) := by
  unfold execOp; rw [h]; dsimp only; rw [hx, hy, Sem.run_bind, hr]
  exact ⟨Below.refl _ _, Grow.refl _, hv⟩
theorem g_pick {c x y : Operand} (h : o.op = .pick c x y) (b : Bool) (hc : ρ c = .bool b) (hv : t.ok (if b then ρ x else ρ y) w) : Gives P B w t ((execOp ρ o).run P w) := by
  unfold execOp; rw [h]; dsimp only; rw [hc]; exact ⟨Below.refl _ _, Grow.refl _, hv⟩
theorem g_not {ty : TypeId} {x : Operand} (h : o.op = .unOp .not ty x) (b : Bool) (hx : ρ x = .bool b) (hv : t.ok (.bool !b) w) : Gives P B w t ((execOp ρ o).run P w) := by
  unfold execOp; rw [h]; dsimp only; rw [hx]; exact ⟨Below.refl _ _, Grow.refl _, hv⟩
theorem g_bin {op : BinOp} {ty u : TypeId} {x y : Operand} (h : o.op = .binOp op ty x y u) {v1 v2 v : Value} (hx : ρ x = v1) (hy : ρ y = v2)
    (hr : ∀ w, (do eqGuard op ty x y v1 v2; binOp op ty v1 v2 : Sem Value).run P w = .ok v w) (hv : t.ok v w) : Gives P B w t ((execOp ρ o).run P w) := by
  unfold execOp; rw [h]; dsimp only; rw [hx, hy]
  have := hr w
  generalize (do eqGuard op ty x y v1 v2; binOp op ty v1 v2 : Sem Value) = s at this
  have e : ((do pure (.value (← s)) : Sem Next)).run P w = .ok (.value v) w := by
    rw [Sem.run_bind, this]; rfl
  rw [e]
  exact ⟨Below.refl _ _, Grow.refl _, hv⟩
theorem g_call (hB : B ≤ w.heap.size) {f : FuncId} {xs : Array Operand} {ts : Array TypeId} (h : o.op = .call { callee := .value (.func f), args := xs, argTypes := ts }) (hf : ρ (.func f) = .func (.func f) #[] #[])
    (args : Array Value) (hcf : ∀ w, (callFunc f args).run P w = .ok (.enter f args) w) (ha : xs.map ρ = args) (hc : Calls P f args w fun e w'' => ∃ v, e = .returned v ∧ Below w.heap.size w w'' ∧ t.ok v w'') : Gives P B w t ((execOp ρ o).run P w) := by
  unfold execOp; rw [h]; dsimp only; unfold resolve; dsimp only; rw [hf, ha]
  have e : args ++ #[] = args := by simp
  have e2 : (invoke (.fn (.func f) #[]) args : Sem Next).run P w = .ok (.enter f args) w := by
    unfold invoke; dsimp only; rw [e]; exact hcf w
  simp only [Deferred.ofValue, Sem.run_bind, Sem.run_pure, Result.andThen, Array.empty_append, e2]
  exact Calls.mono hc fun e w'' ⟨v, he, hb, hv⟩ => ⟨v, he, hb.mono hB, grow_of hb, hv⟩
theorem g_slice {ty : TypeId} {x : Operand} {lo hi mx : Option Operand} (h : o.op = .slice ty x lo hi mx) {vx v : Value} {vl vh vm : Option Value} (hx : ρ x = vx) (hl : lo.map ρ = vl) (hh : hi.map ρ = vh) (hm : mx.map ρ = vm)
    (hr : ∀ w, (Instr.sliceAt ty vx vl vh vm).run P w = .ok v w) (hv : t.ok v w) : Gives P B w t ((execOp ρ o).run P w) := by
  unfold execOp; rw [h]; dsimp only; rw [hx, hl, hh, hm, Sem.run_bind, hr]
  exact ⟨Below.refl _ _, Grow.refl _, hv⟩
/-- An operation that lays something new, or nothing. -/
theorem g_lay (hB : B ≤ w.heap.size) (v : Value) (w' : World) (hrun : (execOp ρ o).run P w = .ok (.value v) w') (hb : Below w.heap.size w w') (hv : t.ok v w') : Gives P B w t ((execOp ρ o).run P w) := by
  rw [hrun]; exact ⟨hb.mono hB, grow_of hb, hv⟩
theorem g_len {ty : TypeId} {x : Operand} (h : o.op = .call { callee := .builtin .len, args := #[x], argTypes := #[ty] }) (hty : P.underlying ty = some (.slice (P.elem ty))) {a : Option Addr} {n c : Nat} (hx : ρ x = .slice a n c) (hv : t.ok (.int .i64 n) w) : Gives P B w t ((execOp ρ o).run P w) := by
  have e : (execOp ρ o).run P w = .ok (.value (.int .i64 n)) w := by
    unfold execOp; rw [h]; dsimp only; unfold resolve; dsimp only
    simp [hx, invoke, run_len_slice w ty o.type a n c hty, Result.andThen, go_sem, builtin]
  rw [e]; exact ⟨Below.refl _ _, Grow.refl _, hv⟩
theorem g_mark {ty E : TypeId} {x : Operand} {l : List UInt8} (h : o.op = .convert ty ty x) (ht : P.underlying ty = some (.slice E)) (he : P.underlying E = some (.int .u8))
    (hx : (Ty.lit B E l).ok (ρ x) w) (hv : t = .row l) : Gives P B w t ((execOp ρ o).run P w) := by
  obtain ⟨b, hxv, hge, hsh, hr⟩ := hx
  subst hv
  have e : (convert ty ty (.slice (some ⟨b, 0, none⟩) l.length l.length)).run P w = .ok (.slice (some ⟨b, 0, none⟩) l.length l.length) (w.freeze ⟨b, l.length, none⟩ 1) := by
    simp [convert, run_underlying ht, run_underlying he, markStringish, hsh]
  have e2 : (execOp ρ o).run P w = .ok (.value (.slice (some ⟨b, 0, none⟩) l.length l.length)) (w.freeze ⟨b, l.length, none⟩ 1) := by
    unfold execOp; rw [h]; dsimp only; rw [hxv, Sem.run_bind, e]; rfl
  rw [e2]
  have hg : Grow w (w.freeze ⟨b, l.length, none⟩ 1) := by
    refine ⟨by rw [freeze_size]; exact Nat.le_refl _, fun p v hp => ?_, fun k s hs => ?_⟩
    · unfold World.cell? at hp ⊢
      split at hp
      · rename_i C e fr hk
        obtain ⟨fr', hk'⟩ := (freeze_get w ⟨b, l.length, none⟩ 1 p.block).1 C e fr hk
        rw [hk']; exact hp
      · exact absurd hp (by simp)
    · obtain ⟨C, fr, hk, hn⟩ := shape_cells (t := s.1) (n := s.2) hs
      obtain ⟨fr', hk'⟩ := (freeze_get w ⟨b, l.length, none⟩ 1 k).1 C s.1 fr hk
      unfold World.shape?
      rw [hk']
      dsimp only
      rw [hn]
  exact ⟨below_freeze w _ _ hge, hg, _, _, rfl, hr.grow hg⟩
end
end Go.Cit
