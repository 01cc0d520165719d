/- Texts of the proof, one behind the other: Ty, Save, Phase, Sh, Open, Range, Cut, Repeat, Box. No condition but those that each names. -/
import Derived.Test.YtofagofpeedfcaaGreatGa
import Derived.Deep.AppendLies
import Derived.Deep.Slices
import Derived.Deep.Fields
import Derived.ChangeSame
import Derived.SizedLaws
import Derived.RangeFuncNested
import Derived.RangeFuncBound
import Derived.RangeFuncCalls
import Derived.RangeFuncLeaves
import Derived.Shelf.Abstract
import Derived.Shelf.RegionOpen
import Derived.OwnWalkIn
import Derived.TacticsInMore
import Derived.LoopNIn
import Derived.LoopIn
import Derived.Test.YtofagofpeedfcaaGreatGb
import Derived.Maps.AppendAt
import Derived.Lib.MakeNoZero
import Derived.Lib.SlBuf
import Derived.Laws.Externs
import Derived.Lib.SlFresh
import Derived.IntWalk
import Derived.Deep.WholeRow
import Derived.Deep.MidRow
import Derived.Laws.Tables
/- What a slot holds, told by kind; a region that draws its order, by its operations' kinds. No condition. -/
namespace Go.Cit
open Go Go.RowKit

/-- What has been laid stays: cells, shapes (marks may change). -/
structure Grow (w w' : World) : Prop where
  size : w.heap.size ≤ w'.heap.size
  cell : ∀ p v, w.cell? p = some v → w'.cell? p = some v
  shape : ∀ b s, w.shape? b = some s → w'.shape? b = some s
theorem Grow.refl (w : World) : Grow w w := ⟨Nat.le_refl _, fun _ _ h => h, fun _ _ h => h⟩
theorem Grow.trans {a b c : World} (h : Grow a b) (k : Grow b c) : Grow a c := ⟨Nat.le_trans h.size k.size, fun p v hv => k.cell p v (h.cell p v hv), fun p v hv => k.shape p v (h.shape p v hv)⟩
theorem grow_of {w w' : World} (h : Below w.heap.size w w') : Grow w w' :=
  ⟨h.size, fun p v hv => (h.cell (World.block_lt_of_cell? w _ hv)).trans hv, fun b s hs => by
    have hb : b < w.heap.size := by
      rcases Nat.lt_or_ge b w.heap.size with h' | h'
      · exact h'
      · simp [World.shape?, Array.getElem?_eq_none h'] at hs
    unfold World.shape? at hs ⊢
    rw [h.block b hb]; exact hs⟩
theorem modify_get (a : Array Obj) (k i : Nat) (f : Obj → Obj) : (a.modify k f)[i]? = if k = i then (a[i]?).map f else a[i]? := by
  rw [Array.getElem?_modify]
theorem freeze_get (w : World) (p : Addr) (n i : Nat) : (∀ C t fr, w.heap[i]? = some (.cells C t fr) → ∃ fr', (w.freeze p n).heap[i]? = some (.cells C t fr')) ∧ (p.block ≠ i → (w.freeze p n).heap[i]? = w.heap[i]?) := by
  unfold World.freeze
  split
  · exact ⟨fun C t fr h => ⟨fr, h⟩, fun _ => rfl⟩
  · refine ⟨fun C t fr h => ?_, fun h => ?_⟩
    · dsimp only
      rw [modify_get, h]
      split
      · obtain ⟨lo, hi⟩ := fr; exact ⟨_, rfl⟩
      · exact ⟨fr, rfl⟩
    · dsimp only
      rw [modify_get, if_neg h]
theorem freeze_size (w : World) (p : Addr) (n : Nat) : (w.freeze p n).heap.size = w.heap.size := by
  unfold World.freeze; split <;> simp
theorem shape_cells {w : World} {b : Nat} {t : TypeId} {n : Nat} (h : w.shape? b = some (t, n)) : ∃ C fr, w.heap[b]? = some (.cells C t fr) ∧ C.size = n := by
  unfold World.shape? at h
  split at h
  · rename_i C e fr hb
    simp only [Option.some.injEq, Prod.mk.injEq] at h
    obtain ⟨rfl, rfl⟩ := h
    exact ⟨C, fr, hb, rfl⟩
  · exact absurd h (by simp)
theorem shape_new (w : World) (C : Array Value) (e : TypeId) (fr : Nat × Nat) : (w.alloc (.cells C e fr)).shape? w.heap.size = some (e, C.size) := by
  have : (w.alloc (.cells C e fr)).heap[w.heap.size]? = some (.cells C e fr) := by
    show (w.heap.push (.cells C e fr))[w.heap.size]? = _
    simp
  unfold World.shape?
  rw [this]
theorem below_freeze {B : Nat} (w : World) (p : Addr) (n : Nat) (h : B ≤ p.block) : Below B w (w.freeze p n) := by
  refine ⟨?_, ?_, ?_, by rw [freeze_size]; exact Nat.le_refl _, fun k hk => (freeze_get w p n k).2 (by omega)⟩ <;> (unfold World.freeze; split <;> rfl)
theorem Row.grow {w w' : World} {a l cap} (h : Row w a l cap) (g : Grow w w') : Row w' a l cap := ⟨h.le, h.top, h.nil, h.spot, fun i hi => g.cell _ _ (h.cell i hi)⟩

/-- What is said of a slot. -/
inductive Ty where
  | any
  | val (v : Value)
  | row (l : List UInt8)
  | two (s t : Ty)
  | lit (base : Nat) (e : TypeId) (l : List UInt8)
  | pr (p : Value → World → Prop) (h : ∀ v w w', Grow w w' → p v w → p v w')

def Ty.ok : Ty → Value → World → Prop
  | .any, _, _ => True
  | .val u, v, _ => v = u
  | .row l, v, w => ∃ a cp, v = .slice a l.length cp ∧ Row w a l cp
  | .two s t, v, w => ∃ x y, v = .tuple #[x, y] ∧ s.ok x w ∧ t.ok y w
  | .lit base e l, v, w => ∃ b, v = .slice (some ⟨b, 0, none⟩) l.length l.length ∧ base ≤ b ∧ w.shape? b = some (e, l.length) ∧ Row w (some ⟨b, 0, none⟩) l l.length
  | .pr p _, v, w => p v w

theorem Ty.stay : ∀ (t : Ty) {v : Value} {w w' : World}, Grow w w' → t.ok v w → t.ok v w'
  | .any, _, _, _, _, _ => trivial
  | .val _, _, _, _, _, h => h
  | .row _, _, _, _, hb, ⟨a, cp, hv, hr⟩ => ⟨a, cp, hv, hr.grow hb⟩
  | .two s t, _, _, _, hb, ⟨x, y, hv, hs, ht⟩ => ⟨x, y, hv, s.stay hb hs, t.stay hb ht⟩
  | .lit _ _ _, _, _, _, hb, ⟨b, hv, hge, hsh, hr⟩ => ⟨b, hv, hge, hb.shape _ _ hsh, hr.grow hb⟩
  | .pr _ h, _, _, _, hb, hp => h _ _ _ hb hp

/-- What an operation's result has to be. -/
def Gives (P : Program) (B : Nat) (w : World) (t : Ty) : Result Next → Prop
  | .ok (.value v) w' => Below B w w' ∧ Grow w w' ∧ t.ok v w'
  | .ok .skip w' => Below B w w' ∧ Grow w w' ∧ t.ok undef w'
  | .ok (.enter f args) w' => Calls P f args w' fun e w'' => ∃ v, e = .returned v ∧ Below B w w'' ∧ Grow w w'' ∧ t.ok v w''
  | _ => False

/-- The slot that an operation leaves, and what is said of it. -/
def tyOf (T : Nat → Ty) (o : Oper) : Ty := match o.dst with | some d => T d | none => .any

/-- Of each operation something is said. -/
def OpsAll (p : Nat → Oper → Prop) : List Oper → Nat → Prop
  | [], _ => True
  | o :: os, n => p n o ∧ OpsAll p os (n + 1)
theorem OpsAll.get {p : Nat → Oper → Prop} (os : List Oper) : ∀ n, OpsAll p os n → ∀ i o, os[i]? = some o → p (n + i) o := by
  induction os with
  | nil => intro n _ i o ho; simp at ho
  | cons x os ih =>
    intro n h i o ho
    cases i with
    | zero =>
      have hx : x = o := by simpa using ho
      subst hx
      exact h.1
    | succ i =>
      have := ih (n + 1) h.2 i o (by simpa using ho)
      rwa [Nat.add_assoc, Nat.add_comm 1 i] at this

theorem opsAll_cons {p : Nat → Oper → Prop} {o : Oper} {os : List Oper} {n : Nat} (h : p n o) (hs : OpsAll p os (n + 1)) : OpsAll p (o :: os) n := ⟨h, hs⟩
theorem opsAll_nil {p : Nat → Oper → Prop} {n : Nat} : OpsAll p [] n := trivial

/-- The operation waits for the one that leaves slot d. -/
def waitsB (ops : Array Oper) (o : Oper) (d : Nat) : Bool :=
  o.after.any fun e => Region.binds .any e && (match ops[e.on]? with | some p => decide (p.dst = some d) | none => false)
/-- No operation leaves slot d. -/
def outB (ops : Array Oper) (d : Nat) : Bool := ops.all fun o => decide (o.dst ≠ some d)
/-- The guard's operation leaves slot d. -/
def guardB (ops : Array Oper) (o : Oper) (d : Nat) (b : Bool) : Bool :=
  match o.guard with | none => false | some (j, c) => decide (c = b) && (match ops[j]? with | some p => decide (p.dst = some d) | none => false)

section
variable {P : Program} {ops : Array Oper} {Q : Exit → Act → World → Prop}

/-- What is known at one operation: its slots, by those it waits for; the slots that the region doesn't leave. -/
structure Known (ops : Array Oper) (T : Nat → Ty) (a0 : Act) (w0 : World) (o : Oper) (a : Act) (w : World) : Prop where
  below : Below w0.heap.size w0 w
  slot : ∀ d, waitsB ops o d = true → (T d).ok (a.eval (.tmp d)) w
  old : ∀ d, outB ops d = true → a.eval (.tmp d) = a0.eval (.tmp d)
  lit : ∀ v, a.eval (.const v) = v
  fn : ∀ f, a.eval (.func f) = .func (.func f) #[] #[]
  size : a.tmps.size = a0.tmps.size

/-- The operation is carried out. -/
def Wanted (ops : Array Oper) (o : Oper) (a : Act) : Prop := Region.wanted o (yielded ops a.tmps) = true

theorem wanted_free {o : Oper} {a : Act} (h : o.guard = none) : Wanted ops o a := by unfold Wanted Region.wanted; rw [h]
theorem wanted_by {o : Oper} {a : Act} (d : Nat) (b : Bool) (h : guardB ops o d b = true) (hv : a.eval (.tmp d) = .bool b) : Wanted ops o a := by
  unfold Wanted Region.wanted
  unfold guardB at h
  split at h
  · exact absurd h (by decide)
  · rename_i j c hg
    rw [hg]
    simp only [Bool.and_eq_true, decide_eq_true_eq] at h
    obtain ⟨rfl, h⟩ := h
    split at h
    · rename_i p hp
      simp only [decide_eq_true_eq] at h
      have hd : d < a.tmps.size := by
        rcases Nat.lt_or_ge d a.tmps.size with h' | h'
        · exact h'
        · simp [Act.eval, Array.getD, Nat.not_lt.2 h', undef] at hv
      have e : a.tmps[d]? = some (.bool c) := by
        rw [Array.getElem?_eq_getElem hd, ← hv]
        simp [Act.eval, Array.getD, hd]
      simp [yielded, hp, h, e]
    · exact absurd h (by decide)

theorem wp_region_ty {id : Nat} {a0 : Act} {w : World} (T : Nat → Ty)
    (hm : P.follows .mixedOrders = true) (hs : shapeB ops a0.tmps.size = true)
    (hop : OpsAll (fun _ o => ∀ a wx, Known ops T a0 w o a wx → Wanted ops o a ∧ Gives P w.heap.size wx (tyOf T o) ((execOp a.eval o).run P wx)) ops.toList 0)
    (hend : ∀ a wx, Below w.heap.size w wx → SameBut ops a0 a → (∀ d, outB ops d = false → (T d).ok (a.eval (.tmp d)) wx) → Q .normal a wx) :
    (Code.region id ops true).wp P Q a0 w := by
  refine wp_region_typed (fun wx => Below w.heap.size w wx) (fun w1 w2 => Below w.heap.size w1 w2 ∧ Grow w1 w2) (fun i v wx => ∀ o, ops[i]? = some o → (tyOf T o).ok v wx) hm hs
    (fun w1 w2 h1 h2 => h1.trans h2.1) (fun i v w1 w2 _ hb h o ho => (tyOf T o).stay hb.2 (h o ho)) ⟨rfl, rfl, rfl, Nat.le_refl _, fun _ _ => rfl⟩ ?_ ?_
  · intro i o a wx ho hc hsame hdep o' ho'
    obtain rfl : o = o' := by rw [ho] at ho'; exact Option.some.inj ho'
    have hk : Known ops T a0 w o a wx := by
      refine ⟨hc, fun d hd => ?_, fun d hd => ?_, fun _ => rfl, fun _ => rfl, hsame.2.1⟩
      · unfold waitsB at hd
        rw [Array.any_eq_true] at hd
        obtain ⟨k, hk, he⟩ := hd
        rw [Bool.and_eq_true] at he
        obtain ⟨hb, hp⟩ := he
        split at hp
        · rename_i p hpp
          simp only [decide_eq_true_eq] at hp
          have := hdep _ (Array.getElem_mem hk) hb p d hpp hp p hpp
          unfold tyOf at this
          rw [hp] at this
          exact this
        · exact absurd hp (by decide)
      · refine hsame.2.2 d fun j p hp hpd => ?_
        unfold outB at hd
        rw [Array.all_eq_true] at hd
        obtain ⟨hj, hjp⟩ := Array.getElem?_eq_some_iff.1 hp
        have := hd j hj
        rw [hjp] at this
        simp [hpd] at this
    have h := OpsAll.get _ _ hop i o (by simpa using ho) a wx hk
    unfold wpOp
    rw [ho]
    dsimp only
    rw [if_pos (show Region.wanted o (yielded ops a.tmps) = true from h.1)]
    refine Or.inl ?_
    unfold Oper.wp
    have h2 := h.2
    generalize (execOp a.eval o).run P wx = r at h2
    have hgo : ∀ v w', (Below w.heap.size wx w' ∧ Grow wx w') → (tyOf T o).ok v w' → ∃ v', a.put o.dst v = a.put o.dst v' ∧ (Below w.heap.size wx w' ∧ Grow wx w') ∧ ∀ o', ops[i]? = some o' → (tyOf T o').ok v' w' := by
      intro v w' hb hv
      refine ⟨v, rfl, hb, fun o' ho' => ?_⟩
      obtain rfl : o = o' := by rw [ho] at ho'; exact Option.some.inj ho'
      exact hv
    match r, h2 with
    | .ok (.value v) w', h2 => exact hgo v w' ⟨h2.1, h2.2.1⟩ h2.2.2
    | .ok .skip w', h2 => exact hgo undef w' ⟨h2.1, h2.2.1⟩ h2.2.2
    | .ok (.enter f args) w', h2 =>
      refine Calls.mono h2 ?_
      rintro e w'' ⟨v, rfl, hb, hg, hv⟩
      exact hgo v w'' ⟨hb, hg⟩ hv
  · intro a wx hc hsame hall
    refine hend a wx hc hsame fun d hd => ?_
    unfold outB at hd
    rw [Array.all_eq_false] at hd
    obtain ⟨j, hj, hp⟩ := hd
    have hpd : ops[j].dst = some d := by simpa using hp
    have := hall j ops[j] d (by simp [hj]) hpd ops[j] (by simp [hj])
    unfold tyOf at this
    rw [hpd] at this
    exact this
end

section
variable {P : Program} {B : Nat} {w : World} {t : Ty} {o : Oper} {ρ : Operand → Value}
theorem g_move (x : Operand) (h : o.op = .move x) (hv : t.ok (ρ x) w) : Gives P B w t ((execOp ρ o).run P w) := by
  unfold execOp; rw [h]; exact ⟨Below.refl _ _, Grow.refl _, hv⟩
theorem g_assign (x : Operand) (h : o.op = .assign x) (hv : t.ok (ρ x) w) : Gives P B w t ((execOp ρ o).run P w) := by
  unfold execOp; rw [h]; exact ⟨Below.refl _ _, Grow.refl _, hv⟩
theorem g_load {T : TypeId} (x : Operand) (h : o.op = .load T x) {p v : Value} (hx : ρ x = p) (hr : (Instr.loadAt T p).run P w = .ok v w) (hv : t.ok v w) : Gives P B w t ((execOp ρ o).run P w) := by
  unfold execOp; rw [h]; dsimp only; rw [hx, Sem.run_bind, hr]
  exact ⟨Below.refl _ _, Grow.refl _, hv⟩
theorem g_index {T : TypeId} (x y : Operand) (h : o.op = .indexAddr T x y) {p q v : Value} (hx : ρ x = p) (hy : ρ y = q) (hr : (Instr.indexAt T p q).run P w = .ok v w) (hv : t.ok v w) : Gives P B w t ((execOp ρ o).run P w) := by
  unfold execOp; rw [h]; dsimp only; rw [hx, hy, Sem.run_bind, hr]
  exact ⟨Below.refl _ _, Grow.refl _, hv⟩
theorem g_pick {c x y : Operand} (h : o.op = .pick c x y) (b : Bool) (hc : ρ c = .bool b) (hv : t.ok (if b then ρ x else ρ y) w) : Gives P B w t ((execOp ρ o).run P w) := by
  unfold execOp; rw [h]; dsimp only; rw [hc]; exact ⟨Below.refl _ _, Grow.refl _, hv⟩
theorem g_not {ty : TypeId} {x : Operand} (h : o.op = .unOp .not ty x) (b : Bool) (hx : ρ x = .bool b) (hv : t.ok (.bool !b) w) : Gives P B w t ((execOp ρ o).run P w) := by
  unfold execOp; rw [h]; dsimp only; rw [hx]; exact ⟨Below.refl _ _, Grow.refl _, hv⟩
theorem g_bin {op : BinOp} {ty u : TypeId} {x y : Operand} (h : o.op = .binOp op ty x y u) {v1 v2 v : Value} (hx : ρ x = v1) (hy : ρ y = v2)
    (hr : ∀ w, (do eqGuard op ty x y v1 v2; binOp op ty v1 v2 : Sem Value).run P w = .ok v w) (hv : t.ok v w) : Gives P B w t ((execOp ρ o).run P w) := by
  unfold execOp; rw [h]; dsimp only; rw [hx, hy]
  have := hr w
  generalize (do eqGuard op ty x y v1 v2; binOp op ty v1 v2 : Sem Value) = s at this
  have e : ((do pure (.value (← s)) : Sem Next)).run P w = .ok (.value v) w := by
    rw [Sem.run_bind, this]; rfl
  rw [e]
  exact ⟨Below.refl _ _, Grow.refl _, hv⟩
theorem g_call (hB : B ≤ w.heap.size) {f : FuncId} {xs : Array Operand} {ts : Array TypeId} (h : o.op = .call { callee := .value (.func f), args := xs, argTypes := ts }) (hf : ρ (.func f) = .func (.func f) #[] #[])
    (args : Array Value) (hcf : ∀ w, (callFunc f args).run P w = .ok (.enter f args) w) (ha : xs.map ρ = args) (hc : Calls P f args w fun e w'' => ∃ v, e = .returned v ∧ Below w.heap.size w w'' ∧ t.ok v w'') : Gives P B w t ((execOp ρ o).run P w) := by
  unfold execOp; rw [h]; dsimp only; unfold resolve; dsimp only; rw [hf, ha]
  have e : args ++ #[] = args := by simp
  have e2 : (invoke (.fn (.func f) #[]) args : Sem Next).run P w = .ok (.enter f args) w := by
    unfold invoke; dsimp only; rw [e]; exact hcf w
  simp only [Deferred.ofValue, Sem.run_bind, Sem.run_pure, Result.andThen, Array.empty_append, e2]
  exact Calls.mono hc fun e w'' ⟨v, he, hb, hv⟩ => ⟨v, he, hb.mono hB, grow_of hb, hv⟩
theorem g_slice {ty : TypeId} {x : Operand} {lo hi mx : Option Operand} (h : o.op = .slice ty x lo hi mx) {vx v : Value} {vl vh vm : Option Value} (hx : ρ x = vx) (hl : lo.map ρ = vl) (hh : hi.map ρ = vh) (hm : mx.map ρ = vm)
    (hr : ∀ w, (Instr.sliceAt ty vx vl vh vm).run P w = .ok v w) (hv : t.ok v w) : Gives P B w t ((execOp ρ o).run P w) := by
  unfold execOp; rw [h]; dsimp only; rw [hx, hl, hh, hm, Sem.run_bind, hr]
  exact ⟨Below.refl _ _, Grow.refl _, hv⟩
/-- An operation that lays something new, or nothing. -/
theorem g_lay (hB : B ≤ w.heap.size) (v : Value) (w' : World) (hrun : (execOp ρ o).run P w = .ok (.value v) w') (hb : Below w.heap.size w w') (hv : t.ok v w') : Gives P B w t ((execOp ρ o).run P w) := by
  rw [hrun]; exact ⟨hb.mono hB, grow_of hb, hv⟩
theorem g_len {ty : TypeId} {x : Operand} (h : o.op = .call { callee := .builtin .len, args := #[x], argTypes := #[ty] }) (hty : P.underlying ty = some (.slice (P.elem ty))) {a : Option Addr} {n c : Nat} (hx : ρ x = .slice a n c) (hv : t.ok (.int .i64 n) w) : Gives P B w t ((execOp ρ o).run P w) := by
  have e : (execOp ρ o).run P w = .ok (.value (.int .i64 n)) w := by
    unfold execOp; rw [h]; dsimp only; unfold resolve; dsimp only
    simp [hx, invoke, run_len_slice w ty o.type a n c hty, Result.andThen, go_sem, builtin]
  rw [e]; exact ⟨Below.refl _ _, Grow.refl _, hv⟩
theorem g_mark {ty E : TypeId} {x : Operand} {l : List UInt8} (h : o.op = .convert ty ty x) (ht : P.underlying ty = some (.slice E)) (he : P.underlying E = some (.int .u8))
    (hx : (Ty.lit B E l).ok (ρ x) w) (hv : t = .row l) : Gives P B w t ((execOp ρ o).run P w) := by
  obtain ⟨b, hxv, hge, hsh, hr⟩ := hx
  subst hv
  have e : (convert ty ty (.slice (some ⟨b, 0, none⟩) l.length l.length)).run P w = .ok (.slice (some ⟨b, 0, none⟩) l.length l.length) (w.freeze ⟨b, l.length, none⟩ 1) := by
    simp [convert, run_underlying ht, run_underlying he, markStringish, hsh]
  have e2 : (execOp ρ o).run P w = .ok (.value (.slice (some ⟨b, 0, none⟩) l.length l.length)) (w.freeze ⟨b, l.length, none⟩ 1) := by
    unfold execOp; rw [h]; dsimp only; rw [hxv, Sem.run_bind, e]; rfl
  rw [e2]
  have hg : Grow w (w.freeze ⟨b, l.length, none⟩ 1) := by
    refine ⟨by rw [freeze_size]; exact Nat.le_refl _, fun p v hp => ?_, fun k s hs => ?_⟩
    · unfold World.cell? at hp ⊢
      split at hp
      · rename_i C e fr hk
        obtain ⟨fr', hk'⟩ := (freeze_get w ⟨b, l.length, none⟩ 1 p.block).1 C e fr hk
        rw [hk']; exact hp
      · exact absurd hp (by simp)
    · obtain ⟨C, fr, hk, hn⟩ := shape_cells (t := s.1) (n := s.2) hs
      obtain ⟨fr', hk'⟩ := (freeze_get w ⟨b, l.length, none⟩ 1 k).1 C s.1 fr hk
      unfold World.shape?
      rw [hk']
      dsimp only
      rw [hn]
  exact ⟨below_freeze w _ _ hge, hg, _, _, rfl, hr.grow hg⟩
end
end Go.Cit

/- What stays in a call, block by block; append of a row as a step of a region that draws its order. No condition. -/
namespace Go.Cit
open Go Go.RowKit

/-- What lies in the blocks of S stays. -/
structure Save (S : Nat → Prop) (w w' : World) : Prop where
  os : w'.os = w.os
  tape : w'.tape = w.tape
  output : w'.output = w.output
  size : w.heap.size ≤ w'.heap.size
  block : ∀ k, k < w.heap.size → S k → w'.heap[k]? = w.heap[k]?

theorem Save.refl (S : Nat → Prop) (w : World) : Save S w w := ⟨rfl, rfl, rfl, Nat.le_refl _, fun _ _ _ => rfl⟩
theorem Save.trans {S : Nat → Prop} {a b c : World} (h : Save S a b) (k : Save S b c) : Save S a c :=
  ⟨k.os.trans h.os, k.tape.trans h.tape, k.output.trans h.output, Nat.le_trans h.size k.size, fun i hi hs => (k.block i (Nat.lt_of_lt_of_le hi h.size) hs).trans (h.block i hi hs)⟩
theorem Save.less {S T : Nat → Prop} {w w' : World} (h : Save S w w') (hS : ∀ k, k < w.heap.size → T k → S k) : Save T w w' := ⟨h.os, h.tape, h.output, h.size, fun k hk hs => h.block k hk (hS k hk hs)⟩
theorem Save.of {S : Nat → Prop} {w w' : World} (h : Below w.heap.size w w') : Save S w w' := ⟨h.os, h.tape, h.output, h.size, fun k hk _ => h.block k hk⟩
theorem Save.below {S : Nat → Prop} {w w' : World} {B : Nat} (h : Save S w w') (hB : B ≤ w.heap.size) (hS : ∀ k, k < B → S k) : Below B w w' := ⟨h.os, h.tape, h.output, h.size, fun k hk => h.block k (Nat.lt_of_lt_of_le hk hB) (hS k hk)⟩
theorem Save.set {w : World} {b i : Nat} {v : Value} : Save (· ≠ b) w (w.setCell ⟨b, i, none⟩ v) := ⟨rfl, rfl, rfl, by simp [World.setCell], fun k _ hs => Below.heap_setCell _ _ _ _ hs⟩
theorem Save.grown {w w' : World} {row : Option Nat} (h : w.grownBy w' row) : Save (fun k => some k ≠ row) w w' := ⟨h.os, h.tape, h.output, h.size, h.block⟩
theorem Save.alloc {S : Nat → Prop} (w : World) (o : Obj) : Save S w (w.alloc o) := .of ((Below.refl _ _).alloc (Nat.le_refl _) _)
theorem Save.drewN {S : Nat → Prop} (w : World) (n : Nat) : Save S w (w.drewN n) := ⟨rfl, rfl, rfl, Nat.le_refl _, fun _ _ _ => rfl⟩
theorem Save.drew {S : Nat → Prop} {a w : World} (h : Save S a w) : Save S a w.drew := ⟨h.os, h.tape, h.output, h.size, h.block⟩

theorem Save.cell {S : Nat → Prop} {w w' : World} (h : Save S w w') {p : Addr} (hp : p.block < w.heap.size) (hs : S p.block) : w'.cell? p = w.cell? p := World.cell?_of_block (w := w) (h.block p.block hp hs)
theorem Save.frozen {S : Nat → Prop} {w w' : World} (h : Save S w w') {p : Addr} (hp : p.block < w.heap.size) (hs : S p.block) : w'.frozen? p = w.frozen? p := World.frozen?_of_block (w := w) (h.block p.block hp hs)

theorem Row.save {S : Nat → Prop} {w w' : World} {a l cap} (r : Row w a l cap) (h : Save S w w') (hs : ∀ g, Go.Cit.blk a = some g → S g) : Row w' a l cap := by
  refine ⟨r.le, r.top, r.nil, r.spot, fun i hi => ?_⟩
  obtain ⟨g, off, rfl⟩ := r.spot (by intro h0; simp [h0] at hi)
  exact (h.cell (r.blk hi) (hs g rfl)).trans (r.cell i hi)
theorem Row.save' {S : Nat → Prop} {w w' : World} {a l cap} (r : Row w a l cap) (h : Save S w w') (hs : l ≠ [] → ∀ g, Go.Cit.blk a = some g → S g) : Row w' a l cap := by
  by_cases h0 : l = []
  · subst h0
    exact ⟨r.le, r.top, r.nil, r.spot, fun i hi => by simp at hi⟩
  · exact r.save h (hs h0)
theorem Own.save {S : Nat → Prop} {E base} {w w' : World} {a l cap} (r : Own E base w a l cap) (h : Save S w w') (hs : ∀ g, blk a = some g → S g) : Own E base w' a l cap := by
  refine ⟨r.row.1, ?_⟩
  rcases r.row.2 with hn | ⟨g, c, cur, hv, hbg, hg, rest⟩
  · exact .inl hn
  · injection hv with h1 h2 h3
    subst h1
    refine .inr ⟨g, c, cur, by rw [h2, h3], hbg, ?_, rest⟩
    rw [h.block g (Array.getElem?_eq_some_iff.1 hg).1 (hs g rfl)]; exact hg
theorem Mine.save {S : Nat → Prop} {base} {w w' : World} {a l cap} (r : Mine base w a l cap) (h : Save S w w') (hs : ∀ g, blk a = some g → S g) : Mine base w' a l cap := by
  refine ⟨r.row.save h hs, r.new, fun i hi => ?_⟩
  obtain ⟨g, off, rfl⟩ := r.row.spot (by intro h0; simp [h0] at hi)
  exact (h.frozen (r.row.blk hi) (hs g rfl)).trans (r.free i hi)

theorem blk_sub (a : Option Addr) (p : Prop) [Decidable p] (k : Nat) : blk (if p then a else a.map (·.add k)) = blk a := by
  split
  · rfl
  · cases a with
    | none => rfl
    | some x => simp [blk, Addr.add]; split <;> rfl
section
variable {P : Program} {T E : TypeId} (hT : P.underlying T = some (.slice E)) (hE : ∀ w, (sizeOf E).run P w = .ok 1 w)
include hT hE
/-- b[lo:], and that it lies in the same block. -/
theorem Row.from2 {w a l cap} (h : Row w a l cap) (lo : Nat) (h1 : lo ≤ l.length) : ∃ a' m cap', m = l.drop lo ∧
    (∀ w, (Instr.sliceAt T (.slice a l.length cap) (some (.int .i64 (lo : Int))) none none).run P w = .ok (.slice a' m.length cap') w) ∧ Row w a' m cap' ∧ Go.Cit.blk a' = Go.Cit.blk a := by
  have he : P.elem T = E := by simp [Program.elem, hT]
  refine ⟨_, _, _, rfl, fun w => ?_, by simpa using h.sub lo l.length cap h1 (Nat.le_refl _) h.le (Nat.le_refl _), blk_sub _ _ _⟩
  rw [run_sliceAt_slice _ _ _ _ _ _ (by rw [he]; exact hT), run_slice_l w T a _ _ (by rw [he]; exact hT) .i64 lo (by omega) (by omega), he, hE]
  simp [Result.andThen, sliced]
/-- b[:hi:hi], likewise. -/
theorem Row.upto2 {w a l cap} (h : Row w a l cap) (hi : Nat) (h1 : hi ≤ l.length) : ∃ a' m cap', m = l.take hi ∧
    (∀ w, (Instr.sliceAt T (.slice a l.length cap) none (some (.int .i64 (hi : Int))) (some (.int .i64 (hi : Int)))).run P w = .ok (.slice a' m.length cap') w) ∧ Row w a' m cap' ∧ Go.Cit.blk a' = Go.Cit.blk a := by
  have he : P.elem T = E := by simp [Program.elem, hT]
  have hle := h.le
  refine ⟨_, _, _, rfl, fun w => ?_, by simpa using h.sub 0 hi hi (Nat.zero_le _) h1 (Nat.le_refl _) (by omega), blk_sub _ _ _⟩
  rw [run_sliceAt_slice _ _ _ _ _ _ (by rw [he]; exact hT), run_slice_hm w T a _ _ (by rw [he]; exact hT) .i64 .i64 hi hi (by omega) (by omega) (by omega), he, hE]
  simp [Result.andThen, sliced]
  omega
end
section
variable {P : Program} {T E : TypeId}
/-- Where a slice lies behind an append: where it lay, or in new memory. -/
def Near (B : Nat) (a a' : Option Addr) : Prop := ∀ g, blk a' = some g → blk a = some g ∨ B ≤ g
theorem Near.refl (B : Nat) (a : Option Addr) : Near B a a := fun _ h => .inl h
theorem Near.trans {B B' : Nat} {a a' a'' : Option Addr} (h : Near B a a') (k : Near B' a' a'') (hB : B ≤ B') : Near B a a'' := fun g hg => by
  rcases k g hg with h1 | h1
  · exact h g h1
  · exact .inr (by omega)

theorem news_row {w : World} {g off : Nat} {m : List UInt8} {c : Nat} (hm : Row w (some ⟨g, off, none⟩) m c) : ∀ j u, (m.map vb)[j]? = some u → w.cell? ((⟨g, off, none⟩ : Addr).add j) = some u := by
  intro j u hu
  have hj : j < m.length := by
    have := (List.getElem?_eq_some_iff.1 hu).1
    simpa using this
  have ea : (⟨g, off, none⟩ : Addr).add j = ad (some ⟨g, off, none⟩) j := by unfold Addr.add ad; split <;> simp_all
  rw [ea, hm.cell j hj]
  simpa [hj] using hu
theorem one_vb {m : List UInt8} : ∀ u ∈ m.map vb, u.oneCell' = true := by
  intro u hu
  obtain ⟨y, _, rfl⟩ := List.mem_map.1 hu
  rfl

theorem wp_append_near (hBT : ByteTypes P T E) {w : World} {o : Oper} {act : Act} {K : Act → World → Prop} {Q : Exit → Act → World → Prop} (s x : Operand)
    (ho : o.op = .call { callee := .builtin .append, args := #[s, x], argTypes := #[T, T] }) {base : Nat}
    {a b : Option Addr} {l m : List UInt8} {cap c : Nat} (hown : Own E base w a l cap) (hm : Row w b m c) (hne : m ≠ []) (hlen : l.length + m.length ≤ 1000000000) (hbase : base ≤ w.heap.size)
    (hs : act.eval s = .slice a l.length cap) (hx : act.eval x = .slice b m.length c)
    (h : ∀ a' cap' w', Own E base w' a' (l ++ m) cap' → w.grownBy w' (blk a) → Near w.heap.size a a' → K (act.put o.dst (.slice a' (l ++ m).length cap')) w') : Oper.wp P o act w K Q := by
  obtain ⟨i, hi, hz0, hz1, hz2⟩ := info_parts hBT.info
  obtain ⟨g, off, rfl⟩ := hm.spot hne
  refine wp_append_lies w s x T ho base E i (.int .u8 0) 1 1 hBT.slice hi hz0 hz1 hz2 rfl (by decide) _ l.length (l.map vb) hs hown.row ⟨g, off, none⟩ m.length c (m.map vb) hx (by simp) (news_row hm) one_vb (List.length_pos_iff.2 hne) (by unfold maxLen; omega) (by omega) hbase w.heap.size rfl ?_
  intro g' cap' w' hown' hgr hat hlt
  rw [ownBlock_slice] at hgr hat
  rw [← List.length_append, ← List.map_append] at hown'
  rw [← List.length_append]
  refine h (some ⟨g', 0, none⟩) cap' w' ⟨hown'⟩ hgr (fun k hk => ?_)
  simp only [blk, Option.map_some, Option.some.injEq] at hk
  subst hk
  rcases hat with h1 | h1
  · exact .inl h1
  · exact .inr (by omega)

/-- append(s, x...) as one step of a region that draws its order: s the call's own, x a row that is not empty. -/
theorem step_append_row (hBT : ByteTypes P T E) {w : World} {ops : Array Oper} {o : Oper} {act : Act} {K : Act → World → Prop} {Q : Exit → Act → World → Prop} {F : Prop} (s x : Operand) (hgd : o.guard = none)
    (ho : o.op = .call { callee := .builtin .append, args := #[s, x], argTypes := #[T, T] }) {base : Nat}
    {a b : Option Addr} {l m : List UInt8} {cap c : Nat} (hown : Own E base w a l cap) (hm : Row w b m c) (hne : m ≠ []) (hlen : l.length + m.length ≤ 1000000000) (hbase : base ≤ w.heap.size)
    (hs : act.eval s = .slice a l.length cap) (hx : act.eval x = .slice b m.length c)
    (h : ∀ a' cap' w', Own E base w' a' (l ++ m) cap' → w.grownBy w' (blk a) → Near w.heap.size a a' → K (act.put o.dst (.slice a' (l ++ m).length cap')) w') :
    if Region.wanted o (yielded ops act.tmps) = true then Oper.wp P o act w K Q else F := by
  have hw : Region.wanted o (yielded ops act.tmps) = true := by simp [Region.wanted, hgd]
  rw [if_pos hw]
  exact wp_append_near hBT s x ho hown hm hne hlen hbase hs hx h

/-- The same in a region in the text's order; x may be nil. -/
theorem wp_append_at (hBT : ByteTypes P T E) {w : World} {ops : Array Oper} {rest : List Oper} {o : Oper} {act : Act} {Q : Exit → Act → World → Prop} (s x : Operand) (hgd : o.guard = none)
    (ho : o.op = .call { callee := .builtin .append, args := #[s, x], argTypes := #[T, T] }) {base : Nat}
    {a b : Option Addr} {l m : List UInt8} {cap c : Nat} (hown : Own E base w a l cap) (hm : Row w b m c) (hne : m = [] → b = none) (hlen : l.length + m.length ≤ 1000000000) (hbase : base ≤ w.heap.size)
    (hs : act.eval s = .slice a l.length cap) (hx : act.eval x = .slice b m.length c)
    (h : ∀ a' cap' w', Own E base w' a' (l ++ m) cap' → w.grownBy w' (blk a) → Near w.heap.size a a' → wpList P ops Q rest (act.put o.dst (.slice a' (l ++ m).length cap')) w') : wpList P ops Q (o :: rest) act w := by
  by_cases h0 : m = []
  · obtain ⟨i, hi, hz0, hz1, hz2⟩ := info_parts hBT.info
    have hb := hne h0
    subst h0 hb
    have hc := hm.nil rfl
    subst hc
    refine wpList_append_own_none hgd s x T ho base E i 1 hBT.slice hi (.slice a l.length cap) l.length (l.map vb) hs hown.row hx ?_
    have hk := h a cap w
    rw [List.append_nil] at hk
    exact hk hown ⟨rfl, rfl, rfl, Nat.le_refl _, fun _ _ _ => rfl⟩ (Near.refl _ _)
  · exact wpList_plain hgd fun K hK => wp_append_near hBT s x ho hown hm h0 hlen hbase hs hx (fun a' cap' w' h1 h2 h3 => hK _ _ (h a' cap' w' h1 h2 h3))
end
end Go.Cit

/- A region that draws its order, told once, where what is said of the world hangs on which operations are done (a store, an append among them). No condition on the program. -/
namespace Go.Cit
open Go Go.RowKit

def upd (δ : Nat → Bool) (i : Nat) : Nat → Bool := fun j => if i = j then true else δ j
theorem upd_same (δ : Nat → Bool) (i : Nat) : upd δ i i = true := by simp [upd]
theorem upd_other (δ : Nat → Bool) {i j : Nat} (h : i ≠ j) : upd δ i j = δ j := by simp [upd, h]

/-- What is done has all done that it waits for. -/
def Closed (ops : Array Oper) (δ : Nat → Bool) : Prop :=
  ∀ (i : Nat) (o : Oper), ops[i]? = some o → δ i = true → ∀ e ∈ o.after, Region.binds .any e = true → δ e.on = true

/-- Operation i waits for j, be it through others. -/
def needsB (ops : Array Oper) : Nat → Nat → Nat → Bool
  | 0, _, _ => false
  | f + 1, i, j => match ops[i]? with
    | none => false
    | some o => o.after.any fun e => Region.binds .any e && (decide (e.on = j) || needsB ops f e.on j)

theorem Closed.needs {ops : Array Oper} {δ : Nat → Bool} (h : Closed ops δ) : ∀ (f i j : Nat), needsB ops f i j = true → δ i = true → δ j = true
  | 0, _, _, hn, _ => absurd hn (by simp [needsB])
  | f + 1, i, j, hn, hi => by
    unfold needsB at hn
    split at hn
    · exact absurd hn (by decide)
    · rename_i o ho
      rw [Array.any_eq_true] at hn
      obtain ⟨k, hk, he⟩ := hn
      rw [Bool.and_eq_true, Bool.or_eq_true, decide_eq_true_eq] at he
      have h1 := h i o ho hi _ (Array.getElem_mem hk) he.1
      rcases he.2 with h2 | h2
      · rw [← h2]; exact h1
      · exact Closed.needs h f _ _ h2 h1
/-- What waits for an operation that is not done is not done. -/
theorem Closed.yet {ops : Array Oper} {δ : Nat → Bool} (h : Closed ops δ) (f i j : Nat) (hn : needsB ops f i j = true) (hj : δ j = false) : δ i = false := by
  cases hi : δ i
  · rfl
  · rw [h.needs f i j hn hi] at hj; exact absurd hj (by decide)

theorem needs_lt {ops : Array Oper} {m : Nat} (hs : shapeB ops m = true) : ∀ (f i j : Nat), needsB ops f i j = true → j < i
  | 0, _, _, hn => absurd hn (by simp [needsB])
  | f + 1, i, j, hn => by
    unfold needsB at hn
    split at hn
    · exact absurd hn (by decide)
    · rename_i o ho
      rw [Array.any_eq_true] at hn
      obtain ⟨k, hk, he⟩ := hn
      rw [Bool.and_eq_true, Bool.or_eq_true, decide_eq_true_eq] at he
      have h1 := (shape_spec hs ho).1 _ (Array.getElem_mem hk) he.1
      rcases he.2 with h2 | h2
      · omega
      · have := needs_lt hs f _ _ h2; omega

section
variable {P : Program} {ops : Array Oper} {Q : Exit → Act → World → Prop}

theorem phase_any {C : (Nat → Bool) → World → Prop} {G : Nat → World → World → Prop} {Γ : Nat → Value → World → Prop} {a0 : Act}
    (hs : shapeB ops a0.tmps.size = true)
    (hΓ : ∀ δ i j v w w', i ≠ j → Closed ops δ → δ j = true → δ i = false → C δ w → G i w w' → Γ j v w → Γ j v w')
    (hop : ∀ δ i o a w, ops[i]? = some o → δ i = false → Closed ops δ → Closed ops (upd δ i) → C δ w → SameBut ops a0 a → (∀ e ∈ o.after, Region.binds .any e = true → ∀ p d, ops[e.on]? = some p → p.dst = some d → Γ e.on (a.tmps.getD d undef) w) →
      wpOp P ops Q i (fun a' w' => ∃ v, a' = a.put o.dst v ∧ G i w w' ∧ C (upd δ i) w' ∧ Γ i v w') a w)
    (hend : ∀ δ a w, (∀ i, i < ops.size → δ i = true) → C δ w → SameBut ops a0 a → (∀ i o d, ops[i]? = some o → o.dst = some d → Γ i (a.tmps.getD d undef) w) → Q .normal a w) :
    ∀ (fuel : Nat) (listed : Array Bool) (δ : Nat → Bool) (a : Act) (w : World), toCome listed ops.size ≤ fuel → listed.size = ops.size → (∀ i, δ i = listed.getD i false) → Closed ops δ → C δ w → SameBut ops a0 a →
      (∀ i o d, δ i = true → ops[i]? = some o → o.dst = some d → Γ i (a.tmps.getD d undef) w) → wpAny P .any ops Q fuel listed a w := by
  have hready : ∀ (listed : Array Bool), listed.size = ops.size → Region.ready .any ops listed = [] → ∀ i, i < ops.size → listed.getD i false = true := by
    intro listed hsz hr i
    induction i using Nat.strongRecOn with
    | ind i ih =>
      intro hi
      cases hl : listed.getD i true with
      | true =>
        have hi' : i < listed.size := by omega
        simpa [Array.getD, hi'] using hl
      | false =>
        exfalso
        have hm : i ∈ Region.ready .any ops listed := by
          rw [mem_ready]
          refine ⟨hl, ops[i], by simp [hi], fun e he hb => ?_⟩
          have := (shape_spec hs (i := i) (o := ops[i]) (by simp [hi])).1 e he hb
          exact ih e.on this (by omega)
        rw [hr] at hm
        simp at hm
  intro fuel
  induction fuel with
  | zero =>
    intro listed δ a w hf hsz hδ hcl hc hsame hg
    have hall := toCome_zero (Nat.le_zero.1 hf)
    have hr : Region.ready .any ops listed = [] := by
      apply List.eq_nil_iff_forall_not_mem.2
      intro i hi
      rw [mem_ready] at hi
      obtain ⟨h0, o, ho, _⟩ := hi
      rw [hall i (Array.getElem?_eq_some_iff.1 ho).1] at h0
      simp at h0
    exact ⟨hr, hend δ a w (fun i hi => by rw [hδ]; exact hready listed hsz hr i hi) hc hsame fun i o d ho hd => hg i o d (by rw [hδ]; exact hready listed hsz hr i (Array.getElem?_eq_some_iff.1 ho).1) ho hd⟩
  | succ fuel ih =>
    intro listed δ a w hf hsz hδ hcl hc hsame hg
    refine ⟨fun hr => hend δ a w (fun i hi => by rw [hδ]; exact hready listed hsz hr i hi) hc hsame fun i o d ho hd => hg i o d (by rw [hδ]; exact hready listed hsz hr i (Array.getElem?_eq_some_iff.1 ho).1) ho hd, fun i hi => ?_⟩
    obtain ⟨h0, o, ho, hdep⟩ := mem_ready.1 hi
    have hlt : i < ops.size := (Array.getElem?_eq_some_iff.1 ho).1
    have hδi : δ i = false := by
      rw [hδ]
      have hi' : i < listed.size := by omega
      simpa [Array.getD, hi'] using h0
    have hcl' : Closed ops (upd δ i) := by
      intro j p hp hj e he hb
      by_cases hij : i = j
      · subst hij
        obtain rfl : o = p := by rw [ho] at hp; exact Option.some.inj hp
        unfold upd
        split
        · rfl
        · rw [hδ]; exact hdep e he hb
      · rw [upd_other _ hij] at hj
        have := hcl j p hp hj e he hb
        unfold upd
        split
        · rfl
        · exact this
    have hgive := hop δ i o a w ho hδi hcl hcl' hc hsame (fun e he hb p d hp hd => hg e.on p d (by rw [hδ]; exact hdep e he hb) hp hd)
    refine wpOp_mono (fun a' w' hk => ?_) hgive
    obtain ⟨v, rfl, hG, hc', hv⟩ := hk
    refine ih _ (upd δ i) _ _ ?_ (by simpa using hsz) ?_ hcl' hc' ?_ ?_
    · have := toCome_set (n := ops.size) hlt (by omega) h0
      omega
    · intro j
      by_cases hij : i = j
      · subst hij
        rw [upd_same]
        have hi' : i < listed.size := by omega
        simp [hi']
      · rw [upd_other _ hij, getD_set_ne false hij]; exact hδ j
    · refine ⟨by rw [put_defers]; exact hsame.1, by rw [put_size]; exact hsame.2.1, fun d hd => ?_⟩
      rw [put_getD_ne _ _ _ _ (hd i o ho)]
      exact hsame.2.2 d hd
    · intro j p d hj hp hd
      by_cases hij : i = j
      · subst hij
        obtain rfl : o = p := by rw [ho] at hp; exact Option.some.inj hp
        rw [hd, put_getD_same _ _ _ (by rw [hsame.2.1]; exact (shape_spec hs ho).2.1 d hd)]
        exact hv
      · rw [upd_other _ hij] at hj
        have hne : o.dst ≠ some d := by
          rcases Nat.lt_or_gt_of_ne hij with h | h
          · intro e; exact (shape_spec hs hp).2.2 i o d ho h hd e
          · intro e; exact (shape_spec hs ho).2.2 j p d hp h e hd
        rw [put_getD_ne _ _ _ _ hne]
        exact hΓ δ i j _ w w' hij hcl hj hδi hc hG (hg j p d hj hp hd)

/-- One operation alone leaves slot d. -/
def onlyB (ops : Array Oper) (d j : Nat) : Bool := (List.range ops.size).all fun i => match ops[i]? with | some o => decide (o.dst ≠ some d) || decide (i = j) | none => true
theorem only_spec {ops : Array Oper} {d j : Nat} (h : onlyB ops d j = true) {i : Nat} {o : Oper} (ho : ops[i]? = some o) (hd : o.dst = some d) : i = j := by
  have := List.all_eq_true.1 h i (List.mem_range.2 (Array.getElem?_eq_some_iff.1 ho).1)
  rw [ho] at this
  simpa [hd] using this

/-- The frame behind a region: the one ahead of it, but for the region's slots. -/
theorem foldl_put (a : Act) : ∀ (ds : List Nat) (x : Act), (ds.foldl (fun x d => x.put (some d) (a.eval (.tmp d))) x).tmps.size = x.tmps.size ∧ (ds.foldl (fun x d => x.put (some d) (a.eval (.tmp d))) x).defers = x.defers ∧
    ∀ d, d < x.tmps.size → (ds.foldl (fun x d => x.put (some d) (a.eval (.tmp d))) x).tmps.getD d undef = if ds.contains d then a.tmps.getD d undef else x.tmps.getD d undef
  | [], x => ⟨rfl, rfl, fun d _ => by simp⟩
  | e :: ds, x => by
    obtain ⟨h1, h2, h3⟩ := foldl_put a ds (x.put (some e) (a.eval (.tmp e)))
    refine ⟨h1.trans (put_size _ _ _), h2.trans (put_defers _ _ _), fun d hd => ?_⟩
    rw [List.foldl_cons, h3 d (by rw [put_size]; exact hd)]
    by_cases he : e = d
    · subst he
      rw [put_getD_same _ _ _ hd]
      simp [Act.eval]
    · rw [put_getD_ne _ _ _ _ (fun h => he (Option.some.inj h))]
      have hne : d ≠ e := fun h => he h.symm
      simp [hne]
theorem act_same {ops : Array Oper} {a0 a : Act} (h : SameBut ops a0 a) (ds : List Nat) (hds : ((List.range a0.tmps.size).all fun d => ds.contains d || outB ops d) = true) : a = ds.foldl (fun x d => x.put (some d) (a.eval (.tmp d))) a0 := by
  obtain ⟨h1, h2, h3⟩ := foldl_put a ds a0
  obtain ⟨g1, g2, g3⟩ := h
  have ht : a.tmps = (ds.foldl (fun x d => x.put (some d) (a.eval (.tmp d))) a0).tmps := by
    apply Array.ext
    · rw [h1]; exact g2
    · intro d hd1 hd2
      have hd0 : d < a0.tmps.size := by omega
      have e := h3 d hd0
      have e1 : a.tmps.getD d undef = a.tmps[d] := by simp [Array.getD, hd1]
      have e2 : (ds.foldl (fun x d => x.put (some d) (a.eval (.tmp d))) a0).tmps.getD d undef = (ds.foldl (fun x d => x.put (some d) (a.eval (.tmp d))) a0).tmps[d] := by simp [Array.getD, hd2]
      rw [← e1, ← e2, e]
      by_cases hc : ds.contains d = true
      · rw [if_pos hc]
      · rw [if_neg hc]
        have := List.all_eq_true.1 hds d (List.mem_range.2 hd0)
        rw [Bool.or_eq_true] at this
        rcases this with h | h
        · exact absurd h hc
        · refine g3 d fun i o ho hdo => ?_
          unfold outB at h
          rw [Array.all_eq_true] at h
          obtain ⟨hi, hio⟩ := Array.getElem?_eq_some_iff.1 ho
          have := h i hi
          rw [hio] at this
          simp [hdo] at this
  have hdf : a.defers = (ds.foldl (fun x d => x.put (some d) (a.eval (.tmp d))) a0).defers := by rw [h2]; exact g1
  generalize (ds.foldl (fun x d => x.put (some d) (a.eval (.tmp d))) a0) = z at ht hdf
  cases a; cases z
  simp only at ht hdf
  rw [ht, hdf]

/-- What an operation's result has to be. -/
def GivesP (P : Program) (post : Value → World → Prop) : Result Next → Prop
  | .ok (.value v) w' => post v w'
  | .ok .skip w' => post undef w'
  | .ok (.enter f args) w' => Calls P f args w' fun e w'' => ∃ v, e = .returned v ∧ post v w''
  | _ => False

/-- What is known at one operation. -/
structure KnownP (ops : Array Oper) (C : (Nat → Bool) → World → Prop) (T : Nat → Value → World → Prop) (a0 : Act) (i : Nat) (o : Oper) (δ : Nat → Bool) (a : Act) (w : World) : Prop where
  yet : δ i = false
  closed : Closed ops δ
  next : Closed ops (upd δ i)
  inv : C δ w
  slot : ∀ d, waitsB ops o d = true → T d (a.eval (.tmp d)) w
  old : ∀ d, outB ops d = true → a.eval (.tmp d) = a0.eval (.tmp d)
  lit : ∀ v, a.eval (.const v) = v
  fn : ∀ f, a.eval (.func f) = .func (.func f) #[] #[]

def tyP (T : Nat → Value → World → Prop) (o : Oper) : Value → World → Prop := match o.dst with | some d => T d | none => fun _ _ => True

theorem tyP_some {T : Nat → Value → World → Prop} {o : Oper} {d : Nat} (h : o.dst = some d) (v : Value) (w : World) : tyP T o v w = T d v w := by unfold tyP; rw [h]
theorem tyP_none {T : Nat → Value → World → Prop} {o : Oper} (h : o.dst = none) (v : Value) (w : World) : tyP T o v w := by unfold tyP; rw [h]; trivial

theorem ph_any {a0 : Act} {w : World} (C : (Nat → Bool) → World → Prop) (G : Nat → World → World → Prop) (T : Nat → Value → World → Prop)
    (hs : shapeB ops a0.tmps.size = true)
    (h0 : ∀ w', Below w.heap.size w w' → w'.heap = w.heap → C (fun _ => false) w')
    (hΓ : ∀ δ i j o v w w', ops[j]? = some o → i ≠ j → Closed ops δ → δ j = true → δ i = false → C δ w → G i w w' → tyP T o v w → tyP T o v w')
    (hop : OpsAll (fun n o => ∀ δ a wx, KnownP ops C T a0 n o δ a wx → Wanted ops o a ∧ GivesP P (fun v w' => G n wx w' ∧ C (upd δ n) w' ∧ tyP T o v w') ((execOp a.eval o).run P wx)) ops.toList 0)
    (hend : ∀ δ a wx, (∀ i, i < ops.size → δ i = true) → C δ wx → SameBut ops a0 a → (∀ d, outB ops d = false → T d (a.eval (.tmp d)) wx) → Q .normal a wx) :
    wpAny P .any ops Q ops.size (Array.replicate ops.size false) a0 { w with drawn := w.drawn + 1 } := by
  refine phase_any (C := C) (G := G) (Γ := fun i v wx => ∀ o, ops[i]? = some o → tyP T o v wx) hs ?_ ?_ ?_ _ _ (fun _ => false) _ _ ?_ (by simp) ?_ ?_ (h0 _ ⟨rfl, rfl, rfl, Nat.le_refl _, fun _ _ => rfl⟩ rfl) ⟨rfl, rfl, fun _ _ => rfl⟩ ?_
  · intro δ i j v w w' hij hcl hj hi hc hG h o ho
    exact hΓ δ i j o v w w' ho hij hcl hj hi hc hG (h o ho)
  · intro δ i o a wx ho hi hcl hcl' hc hsame hdep
    have hk : KnownP ops C T a0 i o δ a wx := by
      refine ⟨hi, hcl, hcl', hc, fun d hd => ?_, fun d hd => ?_, fun _ => rfl, fun _ => rfl⟩
      · unfold waitsB at hd
        rw [Array.any_eq_true] at hd
        obtain ⟨k, hk, he⟩ := hd
        rw [Bool.and_eq_true] at he
        obtain ⟨hb, hp⟩ := he
        split at hp
        · rename_i p hpp
          simp only [decide_eq_true_eq] at hp
          have := hdep _ (Array.getElem_mem hk) hb p d hpp hp p hpp
          unfold tyP at this
          rw [hp] at this
          exact this
        · exact absurd hp (by decide)
      · refine hsame.2.2 d fun j p hp hpd => ?_
        unfold outB at hd
        rw [Array.all_eq_true] at hd
        obtain ⟨hj, hjp⟩ := Array.getElem?_eq_some_iff.1 hp
        have := hd j hj
        rw [hjp] at this
        simp [hpd] at this
    have h := OpsAll.get _ _ hop i o (by simpa using ho) δ a wx (by rw [Nat.zero_add]; exact hk)
    unfold wpOp
    rw [ho]
    dsimp only
    rw [if_pos (show Region.wanted o (yielded ops a.tmps) = true from h.1)]
    refine Or.inl ?_
    unfold Oper.wp
    have h2 := h.2
    rw [Nat.zero_add] at h2
    generalize (execOp a.eval o).run P wx = r at h2
    have hgo : ∀ v w', (G i wx w' ∧ C (upd δ i) w' ∧ tyP T o v w') → ∃ v', a.put o.dst v = a.put o.dst v' ∧ G i wx w' ∧ C (upd δ i) w' ∧ ∀ o', some o = some o' → tyP T o' v' w' := by
      rintro v w' ⟨h1, h2, h3⟩
      refine ⟨v, rfl, h1, h2, fun o' ho' => ?_⟩
      obtain rfl : o = o' := Option.some.inj ho'
      exact h3
    match r, h2 with
    | .ok (.value v) w', h2 => exact hgo v w' h2
    | .ok .skip w', h2 => exact hgo undef w' h2
    | .ok (.enter f args) w', h2 =>
      refine Calls.mono h2 ?_
      rintro e w'' ⟨v, rfl, hv⟩
      exact hgo v w'' hv
  · intro δ a wx hall hc hsame hΓ
    refine hend δ a wx hall hc hsame fun d hd => ?_
    unfold outB at hd
    rw [Array.all_eq_false] at hd
    obtain ⟨j, hj, hp⟩ := hd
    have hpd : ops[j].dst = some d := by simpa using hp
    have := hΓ j ops[j] d (by simp [hj]) hpd ops[j] (by simp [hj])
    unfold tyP at this
    rw [hpd] at this
    exact this
  · exact Nat.le_trans (List.length_filter_le _ _) (by simp)
  · intro i; simp [Array.getD]
  · intro i o ho hi; exact absurd hi Bool.false_ne_true
  · intro i o d hl; exact absurd hl Bool.false_ne_true
theorem wp_region_ph {id : Nat} {a0 : Act} {w : World} (C : (Nat → Bool) → World → Prop) (G : Nat → World → World → Prop) (T : Nat → Value → World → Prop)
    (hm : P.follows .mixedOrders = true) (hs : shapeB ops a0.tmps.size = true)
    (h0 : ∀ w', Below w.heap.size w w' → w'.heap = w.heap → C (fun _ => false) w')
    (hΓ : ∀ δ i j o v w w', ops[j]? = some o → i ≠ j → Closed ops δ → δ j = true → δ i = false → C δ w → G i w w' → tyP T o v w → tyP T o v w')
    (hop : OpsAll (fun n o => ∀ δ a wx, KnownP ops C T a0 n o δ a wx → Wanted ops o a ∧ GivesP P (fun v w' => G n wx w' ∧ C (upd δ n) w' ∧ tyP T o v w') ((execOp a.eval o).run P wx)) ops.toList 0)
    (hend : ∀ δ a wx, (∀ i, i < ops.size → δ i = true) → C δ wx → SameBut ops a0 a → (∀ d, outB ops d = false → T d (a.eval (.tmp d)) wx) → Q .normal a wx) :
    (Code.region id ops true).wp P Q a0 w := wp_region_any hm (ph_any C G T hs h0 hΓ hop hend)

section
variable {P : Program} {w : World} {o : Oper} {ρ : Operand → Value} {post : Value → World → Prop}
theorem gp_run {v : Value} {w' : World} (hr : (execOp ρ o).run P w = .ok (.value v) w') (hp : post v w') : GivesP P post ((execOp ρ o).run P w) := by
  rw [hr]; exact hp
theorem gp_skip {w' : World} (hr : (execOp ρ o).run P w = .ok .skip w') (hp : post undef w') : GivesP P post ((execOp ρ o).run P w) := by
  rw [hr]; exact hp
theorem gp_move (x : Operand) (h : o.op = .move x) (hp : post (ρ x) w) : GivesP P post ((execOp ρ o).run P w) := by
  unfold execOp; rw [h]; exact hp
theorem gp_assign (x : Operand) (h : o.op = .assign x) (hp : post (ρ x) w) : GivesP P post ((execOp ρ o).run P w) := by
  unfold execOp; rw [h]; exact hp
theorem gp_call {f : FuncId} {xs : Array Operand} {ts : Array TypeId} (h : o.op = .call { callee := .value (.func f), args := xs, argTypes := ts }) (hf : ρ (.func f) = .func (.func f) #[] #[])
    (args : Array Value) (hcf : ∀ w, (callFunc f args).run P w = .ok (.enter f args) w) (ha : xs.map ρ = args) (hc : Calls P f args w fun e w'' => ∃ v, e = .returned v ∧ post v w'') : GivesP P post ((execOp ρ o).run P w) := by
  unfold execOp; rw [h]; dsimp only; unfold resolve; dsimp only; rw [hf, ha]
  have e : args ++ #[] = args := by simp
  have e2 : (invoke (.fn (.func f) #[]) args : Sem Next).run P w = .ok (.enter f args) w := by
    unfold invoke; dsimp only; rw [e]; exact hcf w
  simp only [Deferred.ofValue, Sem.run_bind, Sem.run_pure, Result.andThen, Array.empty_append, e2]
  exact hc
theorem gp_nil (x : Operand) (h : o.op = .nilCheck x) {a : Addr} (hx : ρ x = .pointer (some a)) (hp : post (.pointer (some a)) w) : GivesP P post ((execOp ρ o).run P w) := by
  refine gp_run (v := .pointer (some a)) (w' := w) ?_ hp
  unfold execOp; rw [h]; dsimp only; rw [hx]; simp [go_sem]
theorem gp_field {T : TypeId} {k : Nat} (x : Operand) (h : o.op = .fieldAddr T x k) {p v : Value} (hx : ρ x = p) (hr : ∀ w, (Instr.fieldAt T p k).run P w = .ok v w) (hp : post v w) : GivesP P post ((execOp ρ o).run P w) := by
  refine gp_run (v := v) (w' := w) ?_ hp
  unfold execOp; rw [h]; dsimp only; rw [hx, Sem.run_bind, hr]; rfl
theorem gp_load {T : TypeId} (x : Operand) (h : o.op = .load T x) {p v : Value} (hx : ρ x = p) (hr : (Instr.loadAt T p).run P w = .ok v w) (hp : post v w) : GivesP P post ((execOp ρ o).run P w) := by
  refine gp_run (v := v) (w' := w) ?_ hp
  unfold execOp; rw [h]; dsimp only; rw [hx, Sem.run_bind, hr]; rfl
theorem gp_index {T : TypeId} (x y : Operand) (h : o.op = .indexAddr T x y) {p q v : Value} (hx : ρ x = p) (hy : ρ y = q) (hr : (Instr.indexAt T p q).run P w = .ok v w) (hp : post v w) : GivesP P post ((execOp ρ o).run P w) := by
  refine gp_run (v := v) (w' := w) ?_ hp
  unfold execOp; rw [h]; dsimp only; rw [hx, hy, Sem.run_bind, hr]; rfl
theorem gp_store {T : TypeId} (x y : Operand) (h : o.op = .store T x y) {p v : Value} {w' : World} (hx : ρ x = p) (hy : ρ y = v) (hr : (Instr.storeAt T p v).run P w = .ok () w') (hp : post undef w') : GivesP P post ((execOp ρ o).run P w) := by
  refine gp_skip (w' := w') ?_ hp
  unfold execOp; rw [h]; dsimp only; rw [hx, hy, Sem.run_bind, hr]; rfl
theorem gp_bin {op : BinOp} {ty u : TypeId} {x y : Operand} (h : o.op = .binOp op ty x y u) {v1 v2 v : Value} (hx : ρ x = v1) (hy : ρ y = v2)
    (hr : ∀ w, (do eqGuard op ty x y v1 v2; binOp op ty v1 v2 : Sem Value).run P w = .ok v w) (hp : post v w) : GivesP P post ((execOp ρ o).run P w) := by
  refine gp_run (v := v) (w' := w) ?_ hp
  unfold execOp; rw [h]; dsimp only; rw [hx, hy]
  have := hr w
  generalize (do eqGuard op ty x y v1 v2; binOp op ty v1 v2 : Sem Value) = s at this
  rw [Sem.run_bind, this]; rfl
theorem gp_append {T E : TypeId} (hBT : ByteTypes P T E) (s x : Operand) (ho : o.op = .call { callee := .builtin .append, args := #[s, x], argTypes := #[T, T] }) {base : Nat}
    {a b : Option Addr} {l m : List UInt8} {cap c : Nat} (hown : Own E base w a l cap) (hm : Row w b m c) (hne : m ≠ []) (hlen : l.length + m.length ≤ 1000000000) (hbase : base ≤ w.heap.size)
    (hs : ρ s = .slice a l.length cap) (hx : ρ x = .slice b m.length c)
    (h : ∀ a' cap' w', Own E base w' a' (l ++ m) cap' → w.grownBy w' (blk a) → Near w.heap.size a a' → post (.slice a' (l ++ m).length cap') w') : GivesP P post ((execOp ρ o).run P w) := by
  obtain ⟨i, hi, hz0, hz1, hz2⟩ := info_parts hBT.info
  obtain ⟨g, off, rfl⟩ := hm.spot hne
  obtain ⟨g', cap', w', hr, hown', hgr, hat, hlt⟩ := run_append_lies (P := P) w T o.type base E i (.int .u8 0) 1 1 hBT.slice hi hz0 hz1 hz2 rfl (by decide) _ l.length (l.map vb) hown.row ⟨g, off, none⟩ m.length c (m.map vb) (by simp) (news_row hm) one_vb (List.length_pos_iff.2 hne) (by unfold maxLen; omega) (by omega) hbase w.heap.size rfl
  rw [ownBlock_slice] at hgr hat
  rw [← List.length_append, ← List.map_append] at hown'
  rw [← List.length_append] at hr
  refine gp_run (v := .slice (some ⟨g', 0, none⟩) (l ++ m).length cap') (w' := w') ?_ (h (some ⟨g', 0, none⟩) cap' w' ⟨hown'⟩ hgr (fun k hk => ?_))
  · unfold execOp
    simp only [ho, resolve, invoke, builtin, Sem.run_bind, Sem.run_pure, Result.andThen_ok, List.map_toArray, List.map_cons, List.map_nil, hs, hx, hr]
  · simp only [blk, Option.map_some, Option.some.injEq] at hk
    subst hk
    rcases hat with h1 | h1
    · exact .inl h1
    · exact .inr (by omega)
end
end
end Go.Cit

/- Arguments of any plain type (numbers, bools, strings, arrays, structs, slices of such), opened to cells. No condition. -/
namespace Go.Cit
open Go Go.RowKit Go.ChangeShapes Go.WideShapes Go.Deep

/-- A slice: where it lies, its capacity, its elements. -/
structure Sl (α : Type) where
  a : Option Addr
  c : Nat
  l : List α

/-- The shape of a type (false), of a struct's fields (true). -/
inductive Sh : Bool → Type where
  | i64 : Sh false
  | u8 : Sh false
  | u32 : Sh false
  | u64 : Sh false
  | bool : Sh false
  | str : Sh false
  | bytes : Sh false
  | arr (n : Nat) (s : Sh false) : Sh false
  | slice (s : Sh false) : Sh false
  | st (f : Sh true) : Sh false
  | nil : Sh true
  | cons (s : Sh false) (f : Sh true) : Sh true

@[reducible] def Sh.D : {b : Bool} → Sh b → Type
  | _, .i64 => Int
  | _, .u8 => UInt8
  | _, .u32 => UInt32
  | _, .u64 => UInt64
  | _, .bool => Bool
  | _, .str => ByteArray
  | _, .bytes => Sl UInt8
  | _, .arr _ s => List s.D
  | _, .slice s => Sl s.D
  | _, .st f => f.D
  | _, .nil => Unit
  | _, .cons s f => s.D × f.D

def Sh.size : {b : Bool} → Sh b → Nat
  | _, .i64 => 1
  | _, .u8 => 1
  | _, .u32 => 1
  | _, .u64 => 1
  | _, .bool => 1
  | _, .str => 1
  | _, .bytes => 1
  | _, .arr n s => n * s.size
  | _, .slice _ => 1
  | _, .st f => f.size
  | _, .nil => 0
  | _, .cons s f => s.size + f.size

/-- The cells. -/
def Sh.enc : {b : Bool} → (s : Sh b) → s.D → List Value
  | _, .i64, n => [.int .i64 n]
  | _, .u8, x => [vb x]
  | _, .u32, x => [vw x]
  | _, .u64, x => [vq x]
  | _, .bool, x => [.bool x]
  | _, .str, x => [.string x]
  | _, .bytes, d => [.slice d.a d.l.length d.c]
  | _, .arr _ s, l => l.flatMap s.enc
  | _, .slice _, d => [.slice d.a d.l.length d.c]
  | _, .st f, d => f.enc d
  | _, .nil, _ => []
  | _, .cons s f, d => s.enc d.1 ++ f.enc d.2

/-- What lies in memory. -/
def Sh.ok : {b : Bool} → (s : Sh b) → World → s.D → Prop
  | _, .i64, _, n => -9223372036854775808 ≤ n ∧ n ≤ 9223372036854775807
  | _, .u8, _, _ => True
  | _, .u32, _, _ => True
  | _, .u64, _, _ => True
  | _, .bool, _, _ => True
  | _, .str, _, s => s.size ≤ maxLen
  | _, .bytes, w, d => Row w d.a d.l d.c ∧ d.c ≤ 140737488351232
  | _, .arr n s, w, l => l.length = n ∧ ∀ x ∈ l, s.ok w x
  | _, .slice s, w, d => d.l.length ≤ d.c ∧ d.c ≤ 140737488351232 ∧ (d.a = none → d.c = 0) ∧ (d.l ≠ [] → ∃ b off, d.a = some ⟨b, off, none⟩) ∧
      ∀ i (h : i < d.l.length), (∀ j, j < s.size → w.cell? (ad d.a (i * s.size + j)) = (s.enc d.l[i])[j]?) ∧ s.ok w d.l[i]
  | _, .st f, w, d => f.ok w d
  | _, .nil, _, _ => True
  | _, .cons s f, w, d => s.ok w d.1 ∧ f.ok w d.2

def isInt (d : Option TypeDesc) (k : IntKind) : Bool := match d with | some (.int j) => decide (j = k) | _ => false
def isBool (d : Option TypeDesc) : Bool := match d with | some .bool => true | _ => false
def isStr (d : Option TypeDesc) : Bool := match d with | some .string => true | _ => false
theorem isInt_ {d : Option TypeDesc} {k : IntKind} (h : isInt d k = true) : d = some (.int k) := by
  unfold isInt at h; split at h
  · rw [of_decide_eq_true h]
  · exact absurd h (by decide)
theorem isBool_ {d : Option TypeDesc} (h : isBool d = true) : d = some .bool := by
  unfold isBool at h; split at h
  · rfl
  · exact absurd h (by decide)
theorem isStr_ {d : Option TypeDesc} (h : isStr d = true) : d = some .string := by
  unfold isStr at h; split at h
  · rfl
  · exact absurd h (by decide)

/-- Type t has the shape; the fields, from an offset on. -/
def Sh.fits (P : Program) : {b : Bool} → Sh b → TypeId → List Field → Nat → Bool
  | _, .i64, t, _, _ => isInt (P.underlying t) .i64
  | _, .u8, t, _, _ => isInt (P.underlying t) .u8
  | _, .u32, t, _, _ => isInt (P.underlying t) .u32
  | _, .u64, t, _, _ => isInt (P.underlying t) .u64
  | _, .bool, t, _, _ => isBool (P.underlying t)
  | _, .str, t, _, _ => isStr (P.underlying t)
  | _, .bytes, t, _, _ => match P.underlying t with
    | some (.slice e) => isInt (P.underlying e) .u8 && P.cellsOf e == 1 && P.bytesOf e == 1
    | _ => false
  | _, .arr n s, t, _, _ => match P.underlying t with
    | some (.array m e) => m == n && P.cellsOf e == s.size && s.fits P e [] 0 && P.cellsOf t == n * s.size
    | _ => false
  | _, .slice s, t, _, _ => match P.underlying t with
    | some (.slice e) => P.cellsOf e == s.size && decide (0 < s.size ∧ 0 < P.bytesOf e) && s.fits P e [] 0
    | _ => false
  | _, .st f, t, _, _ => match P.underlying t with
    | some (.struct fs) => P.cellsOf t == f.size && f.fits P 0 fs.toList 0
    | _ => false
  | _, .nil, _, fs, _ => fs.isEmpty
  | _, .cons s f, _, fs, off => match fs with
    | fd :: fs => fd.offset == off && P.cellsOf fd.type == s.size && s.fits P fd.type [] 0 && f.fits P 0 fs (off + s.size)
    | [] => false

theorem Sh.enc_length : {b : Bool} → (s : Sh b) → (w : World) → (d : s.D) → s.ok w d → (s.enc d).length = s.size
  | _, .i64, _, _, _ => rfl
  | _, .u8, _, _, _ => rfl
  | _, .u32, _, _, _ => rfl
  | _, .u64, _, _, _ => rfl
  | _, .bool, _, _, _ => rfl
  | _, .str, _, _, _ => rfl
  | _, .bytes, _, _, _ => rfl
  | _, .arr n s, w, l, h => by
    have : ∀ l : List s.D, (∀ x ∈ l, s.ok w x) → (l.flatMap s.enc).length = l.length * s.size := by
      intro l hl
      induction l with
      | nil => simp
      | cons x l ih => rw [List.flatMap_cons, List.length_append, s.enc_length w x (hl x (by simp)), ih (fun y hy => hl y (by simp [hy])), List.length_cons, Nat.succ_mul, Nat.add_comm]
    show (List.flatMap s.enc l).length = n * s.size
    rw [this l h.2, h.1]
  | _, .slice _, _, _, _ => rfl
  | _, .st f, w, d, h => f.enc_length w d h
  | _, .nil, _, _, _ => rfl
  | _, .cons s f, w, d, h => by
    show (s.enc d.1 ++ f.enc d.2).length = s.size + f.size
    rw [List.length_append, s.enc_length w d.1 h.1, f.enc_length w d.2 h.2]

theorem choose_lt' {α : Type} : ∀ (n : Nat) {p : Nat → α → Prop}, (∀ i, i < n → ∃ x, p i x) → ∃ l : List α, l.length = n ∧ ∀ i (h : i < l.length), p i l[i]
  | 0, _, _ => ⟨[], rfl, fun i h => by simp at h⟩
  | n + 1, p, h => by
    obtain ⟨l, hl, hp⟩ := choose_lt' n (p := p) (fun i hi => h i (by omega))
    obtain ⟨x, hx⟩ := h n (by omega)
    refine ⟨l ++ [x], by simp [hl], fun i hi => ?_⟩
    by_cases hin : i < l.length
    · rw [List.getElem_append_left hin]; exact hp i hin
    · have : i = n := by simp at hi; omega
      subst this
      rw [List.getElem_append_right (by omega)]
      simpa [hl] using hx

theorem flat_of_parts {α : Type} (k : Nat) (f : α → List Value) : ∀ (l : List α) (cs : List Value), cs.length = l.length * k → (∀ i (h : i < l.length), (cs.drop (i * k)).take k = f l[i]) → cs = l.flatMap f
  | [], cs, h, _ => by simp at h; simp [h]
  | x :: l, cs, h, hp => by
    have h0 := hp 0 (by simp)
    simp only [Nat.zero_mul, List.drop_zero, List.getElem_cons_zero] at h0
    have ih := flat_of_parts k f l (cs.drop k) (by simp at h ⊢; rw [h, Nat.succ_mul]; omega) (fun i hi => by
      have := hp (i + 1) (by simp; omega)
      rw [Nat.succ_mul, Nat.add_comm (i * k) k] at this
      simpa [List.drop_drop] using this)
    rw [List.flatMap_cons, ← h0, ← ih, List.take_append_drop]

section
variable {H : Type} {enc : TypeId × Value → H} {P : Program} {w : World} {base : Nat} {held : Bool}

theorem addr_ad {w : World} {a : Addr} {k : Nat} {v : Value} (h : w.cell? (a.add k) = some v) : a.add k = ad (some a) k ∧ (0 < k → True) := by
  refine ⟨?_, fun _ => trivial⟩
  have hs := World.cell?_spot h
  obtain ⟨b, off, sp⟩ := a
  unfold Addr.add ad at *
  by_cases h0 : k = 0
  · subst h0; simp at hs ⊢; simp [hs]
  · simp [h0]

theorem weights_mem_all : ∀ {e : TypeId} {ds : List (DataW H)} {j : Nat} {d : DataW H}, ds[j]? = some d → ∀ n ∈ d.weights P e, n ∈ DataW.weightsAll P e ds
  | e, d0 :: ds, 0, d, hd, n, hn => by
    simp only [List.getElem?_cons_zero, Option.some.injEq] at hd
    subst hd
    simp only [DataW.weightsAll, List.mem_append]
    exact Or.inl hn
  | e, d0 :: ds, j + 1, d, hd, n, hn => by
    simp only [List.getElem?_cons_succ] at hd
    simp only [DataW.weightsAll, List.mem_append]
    exact Or.inr (weights_mem_all hd n hn)
  | _, [], _, _, hd, _, _ => by simp at hd

/-- Each size is within the reach. -/
def Fine (P : Program) (t : TypeId) (d : DataW H) : Prop := ∀ n ∈ d.weights P t, n ≤ 140737488351232

mutual
theorem open_sh : (s : Sh false) → (t : TypeId) → (fs : List Field) → (off : Nat) → (fuel : Nat) → (cs : List Value) → (x : DataW H × List MemPlace) → s.fits P t fs off = true → DataW.trod enc P w base (fun _ => true) held fuel t cs = some x → Fine P t x.1 → ∃ d : s.D, cs = s.enc d ∧ s.ok w d
  | .i64, t, _, _, fuel, cs, x, hf, h, hz0 => by
    obtain ⟨n, rfl, _, hw⟩ := DataW.trod_int (isInt_ hf) h
    exact ⟨n, rfl, i64_of_wf hw⟩
  | .u8, t, _, _, fuel, cs, x, hf, h, hz0 => by
    obtain ⟨n, rfl, _, hw⟩ := DataW.trod_int (isInt_ hf) h
    obtain ⟨y, rfl⟩ := u8_of_wf hw
    exact ⟨y, rfl, trivial⟩
  | .u32, t, _, _, fuel, cs, x, hf, h, hz0 => by
    obtain ⟨n, rfl, _, hw⟩ := DataW.trod_int (isInt_ hf) h
    obtain ⟨y, rfl⟩ := u32_of_wf hw
    exact ⟨y, rfl, trivial⟩
  | .u64, t, _, _, fuel, cs, x, hf, h, hz0 => by
    obtain ⟨n, rfl, _, hw⟩ := DataW.trod_int (isInt_ hf) h
    obtain ⟨y, rfl⟩ := u64_of_wf hw
    exact ⟨y, rfl, trivial⟩
  | .bool, t, _, _, fuel, cs, x, hf, h, hz0 => by
    obtain ⟨y, rfl, _⟩ := DataW.trod_bool (isBool_ hf) h
    exact ⟨y, rfl, trivial⟩
  | .str, t, _, _, fuel, cs, x, hf, h, hz0 => by
    obtain ⟨y, rfl, _, hw⟩ := DataW.trod_string (isStr_ hf) h
    exact ⟨y, rfl, hw⟩
  | .bytes, t, _, _, fuel, cs, x, hf, h, hz0 => by
    unfold Sh.fits at hf
    split at hf
    · rename_i e he
      rw [Bool.and_eq_true, Bool.and_eq_true, beq_iff_eq, beq_iff_eq] at hf
      rcases open_ints he (isInt_ hf.1.1) hf.1.2 h with ⟨rfl, _⟩ | ⟨a, len, cap, zs, rfl, _, hl, hm, hz, rfl, hcell, hwz⟩
      · exact ⟨⟨none, 0, []⟩, rfl, Row.nil_ w, Nat.zero_le _⟩
      · have h1 : ((lits (H := H) .u8 (zs.take len)).length + (lits (H := H) .u8 (zs.drop len)).length) * P.bytesOf e ≤ 140737488351232 := hz0 _ (by simp [DataW.weights, he])
        have hcz : cap ≤ 140737488351232 := by
          rw [hf.2, Nat.mul_one] at h1
          simp [lits] at h1 hz
          omega
        obtain ⟨l, rfl, hr⟩ := row_of (w := w) (a := some a) (len := len) (cap := cap) (zs := zs) (.inr ⟨a, rfl, hl, hm, by simpa using hz, hcell, hwz⟩)
        exact ⟨⟨some a, cap, l⟩, rfl, hr, hcz⟩
    · exact absurd hf (by decide)
  | .arr n s, t, _, _, fuel, cs, x, hf, h, hz0 => by
    unfold Sh.fits at hf
    split at hf
    · rename_i m e he
      simp only [Bool.and_eq_true, beq_iff_eq] at hf
      obtain ⟨⟨⟨rfl, hsz⟩, hfe⟩, hC⟩ := hf
      obtain ⟨xs, k, _, hxe, hl, hxl, hx⟩ := DataW.trod_array he h
      obtain ⟨l, hll, hp⟩ := choose_lt' (α := s.D) m (p := fun i d => (cs.drop (i * s.size)).take s.size = s.enc d ∧ s.ok w d) (fun i hi => by
        have h1 := hx i hi
        rw [hsz, List.getElem?_eq_getElem (by omega)] at h1
        refine open_sh s e [] 0 k _ _ hfe h1 (fun n hn => hz0 n ?_)
        rw [hxe]
        simp only [DataW.weights, he]
        exact weights_mem_all (j := i) (by simp [hxl, hi]) n hn)
      refine ⟨l, ?_, hll, fun x hx => ?_⟩
      · exact flat_of_parts s.size s.enc l cs (by rw [hl, hC, hll]) (fun i hi => (hp i hi).1)
      · obtain ⟨i, hi, rfl⟩ := List.mem_iff_getElem.1 hx
        exact (hp i hi).2
    · exact absurd hf (by decide)
  | .slice s, t, _, _, fuel, cs, x, hf, h, hz0 => by
    unfold Sh.fits at hf
    split at hf
    · rename_i e he
      simp only [Bool.and_eq_true, beq_iff_eq, decide_eq_true_eq] at hf
      obtain ⟨⟨hsz, hpos, hby⟩, hfe⟩ := hf
      rcases open_slice he h with ⟨rfl, _⟩ | ⟨a, len, cap, m, n, D, Pl, rfl, _, hl, hm, hmm, rfl, hi⟩
      · exact ⟨⟨none, 0, []⟩, rfl, by refine ⟨Nat.le_refl _, Nat.zero_le _, fun _ => rfl, fun h => absurd rfl h, fun i h => by simp at h⟩⟩
      · have hlm : len ≤ m := by rw [hmm]; split <;> omega
        obtain ⟨l, hll, hp⟩ := choose_lt' (α := s.D) len (p := fun i d => (∀ j, j < s.size → w.cell? (a.add (i * s.size + j)) = (s.enc d)[j]?) ∧ s.ok w d) (fun i hii => by
          obtain ⟨cs', hc, ht'⟩ := hi i (by omega)
          rw [hsz] at hc
          obtain ⟨_, hcl, hat⟩ := World.cells?_some hc
          obtain ⟨d, rfl, hok⟩ := open_sh s e [] 0 n _ _ hfe ht' (fun n hn => hz0 n (by
            simp only [DataW.weights, he, List.mem_cons, List.mem_append]
            exact .inr (.inl (weights_mem_all (j := i) (by simp [hii]) n hn))))
          refine ⟨d, fun j hj => ?_, hok⟩
          have := hat j hj
          rwa [Go.Deep.add_add] at this)
        subst hll
        have hcell : ∀ i (h : i < l.length) j, j < s.size → ∃ v, w.cell? (a.add (i * s.size + j)) = some v := by
          intro i h j hj
          have := (hp i h).1 j hj
          rw [List.getElem?_eq_getElem (by rw [s.enc_length w _ (hp i h).2]; exact hj)] at this
          exact ⟨_, this⟩
        have hcz : cap ≤ 140737488351232 := by
          have h1 : (((List.range l.length).map D).length + ((List.range (m - l.length)).map fun j => D (l.length + j)).length) * P.bytesOf e ≤ 140737488351232 := hz0 _ (by simp [DataW.weights, he])
          have h2 := Nat.le_mul_of_pos_right (((List.range l.length).map D).length + ((List.range (m - l.length)).map fun j => D (l.length + j)).length) hby
          simp at h1 h2 hmm
          omega
        refine ⟨⟨some a, cap, l⟩, rfl, hl, hcz, fun h => by simp at h, fun hne => ?_, fun i h => ⟨fun j hj => ?_, (hp i h).2⟩⟩
        · have h0 : 0 < l.length := List.length_pos_iff.2 hne
          obtain ⟨v, hv⟩ := hcell 0 h0 0 hpos
          have := World.cell?_spot hv
          obtain ⟨b, off, sp⟩ := a
          simp [Addr.add] at this
          exact ⟨b, off, by rw [this]⟩
        · obtain ⟨v, hv⟩ := hcell i h j hj
          show w.cell? (ad (some a) _) = _
          rw [← (addr_ad hv).1]
          exact (hp i h).1 j hj
    · exact absurd hf (by decide)
  | .st f, t, _, _, fuel, cs, x, hf, h, hz0 => by
    unfold Sh.fits at hf
    split at hf
    · rename_i fs he
      simp only [Bool.and_eq_true, beq_iff_eq] at hf
      obtain ⟨xs, n, _, hxe, hl, hxl, hx⟩ := DataW.trod_struct he h
      obtain ⟨d, hd, hok⟩ := open_fs f fs.toList 0 n cs hf.2 (by rw [hl, hf.1]; omega) (fun i fd hfd => by
        have h1 := hx i fd (by simpa using hfd)
        have hi : i < xs.length := by rw [hxl]; have := (List.getElem?_eq_some_iff.1 hfd).1; simpa using this
        rw [List.getElem?_eq_getElem hi] at h1
        refine ⟨_, h1, fun n hn => hz0 n ?_⟩
        rw [hxe]
        simp only [DataW.weights, he]
        exact DataW.weights_mem_each (j := i) (by rw [List.getElem?_map, hfd]; rfl) (by simp [hi]) n hn)
      exact ⟨d, hd, hok⟩
    · exact absurd hf (by decide)
theorem open_fs : (f : Sh true) → (fs : List Field) → (off : Nat) → (n : Nat) → (cs : List Value) → f.fits P 0 fs off = true → cs.length = off + f.size →
    (∀ (i : Nat) (fd : Field), fs[i]? = some fd → ∃ y, DataW.trod enc P w base (fun _ => true) held n fd.type ((cs.drop fd.offset).take (P.cellsOf fd.type)) = some y ∧ Fine P fd.type y.1) → ∃ d : f.D, cs.drop off = f.enc d ∧ f.ok w d
  | .nil, fs, off, n, cs, _, hl, _ => by
    refine ⟨(), ?_, trivial⟩
    rw [List.drop_eq_nil_of_le (by rw [hl]; exact Nat.le_refl _)]; rfl
  | .cons s f, [], off, n, cs, hf, hl, hx => by
    exact absurd hf Bool.false_ne_true
  | .cons s f, fd :: fs, off, n, cs, hf, hl, hx => by
    unfold Sh.fits at hf
    simp only [Bool.and_eq_true, beq_iff_eq] at hf
    obtain ⟨⟨⟨rfl, hsz⟩, hfs⟩, hff⟩ := hf
    obtain ⟨y, hy, hyz⟩ := hx 0 fd rfl
    obtain ⟨d1, hd1, hok1⟩ := open_sh s fd.type [] 0 n _ _ hfs hy hyz
    obtain ⟨d2, hd2, hok2⟩ := open_fs f fs (fd.offset + s.size) n cs hff (by rw [hl]; show _ + (s.size + f.size) = _; omega) (fun i g hg => hx (i + 1) g (by simpa using hg))
    refine ⟨(d1, d2), ?_, hok1, hok2⟩
    show _ = s.enc d1 ++ f.enc d2
    rw [← hd1, ← hd2, hsz, ← List.drop_drop, List.take_append_drop]
end
end
end Go.Cit

/- An argument of any plain type, as a value, opened. No condition. -/
namespace Go.Cit
open Go Go.RowKit Go.ChangeShapes Go.WideShapes Go.Deep

/-- The value. -/
def Sh.val : (s : Sh false) → s.D → Value
  | .i64, n => .int .i64 n
  | .u8, x => vb x
  | .u32, x => vw x
  | .u64, x => vq x
  | .bool, x => .bool x
  | .str, x => .string x
  | .bytes, d => .slice d.a d.l.length d.c
  | .slice _, d => .slice d.a d.l.length d.c
  | .arr n s, d => .agg (Sh.enc (.arr n s) d).toArray
  | .st f, d => .agg (f.enc d).toArray

section
variable {H : Type} {enc : TypeId × Value → H} {P : Program} {w : World} {base : Nat} {held : Bool}
theorem okWide_array' {n : Nat} {e : TypeId} {r : Reach} {b0 : Nat} {t : TypeId} {v : Value} (ht : P.underlying t = some (.array n e)) (h : Value.okWide P w r b0 t v) : ∃ cs, v = .agg cs := by
  simp only [Value.okWide, ht] at h
  obtain ⟨cs, h1, _⟩ := h
  exact ⟨cs, h1⟩

theorem open_val (s : Sh false) {r : Reach} {b0 : Nat} {t : TypeId} {v : Value} {d : DataW H} {p : List MemPlace} (hf : s.fits P t [] 0 = true) (hv : Value.okWide P w r b0 t v) (h : DataW.Trod enc P w base (fun _ => true) held t v d p) (hz : Fine P t d) :
    ∃ e : s.D, v = s.val e ∧ s.ok w e := by
  obtain ⟨fuel, h⟩ := h
  obtain ⟨e, he, hok⟩ := open_sh s t [] 0 fuel _ _ hf h hz
  refine ⟨e, ?_, hok⟩
  cases s with
  | i64 => obtain ⟨n, rfl⟩ := okWide_int (isInt_ hf) hv; simpa [Value.cells, Sh.enc, Sh.val] using he
  | u8 => obtain ⟨n, rfl⟩ := okWide_int (isInt_ hf) hv; simpa [Value.cells, Sh.enc, Sh.val] using he
  | u32 => obtain ⟨n, rfl⟩ := okWide_int (isInt_ hf) hv; simpa [Value.cells, Sh.enc, Sh.val] using he
  | u64 => obtain ⟨n, rfl⟩ := okWide_int (isInt_ hf) hv; simpa [Value.cells, Sh.enc, Sh.val] using he
  | bool => obtain ⟨n, rfl⟩ := okWide_bool (isBool_ hf) hv; simpa [Value.cells, Sh.enc, Sh.val] using he
  | str => obtain ⟨n, rfl⟩ := okWide_string (isStr_ hf) hv; simpa [Value.cells, Sh.enc, Sh.val] using he
  | bytes =>
    unfold Sh.fits at hf
    split at hf
    · rename_i q hq
      obtain ⟨a, len, cap, rfl⟩ := okWide_slice hq hv
      simpa [Value.cells, Sh.enc, Sh.val] using he
    · exact absurd hf (by decide)
  | slice s =>
    unfold Sh.fits at hf
    split at hf
    · rename_i q hq
      obtain ⟨a, len, cap, rfl⟩ := okWide_slice hq hv
      simpa [Value.cells, Sh.enc, Sh.val] using he
    · exact absurd hf (by decide)
  | arr n s =>
    unfold Sh.fits at hf
    split at hf
    · rename_i m q hq
      obtain ⟨cs, rfl⟩ := okWide_array' hq hv
      have : cs.toList = Sh.enc (.arr n s) e := he
      show Value.agg cs = .agg _
      rw [← this]
    · exact absurd hf (by decide)
  | st f =>
    unfold Sh.fits at hf
    split at hf
    · rename_i fs hq
      obtain ⟨cs, rfl, _⟩ := okWide_struct hq hv
      have : cs.toList = f.enc e := he
      show Value.agg cs = .agg _
      rw [← this]
    · exact absurd hf (by decide)

theorem fine_of {ts : List TypeId} {ds : List (DataW H)} (h : (DataW.weightsEach P ts ds).all (· ≤ reachBytes) = true) {j : Nat} {t : TypeId} {d : DataW H} (ht : ts[j]? = some t) (hd : ds[j]? = some d) : Fine P t d := by
  intro n hn
  have := List.all_eq_true.1 h n (DataW.weights_mem_each ht hd n hn)
  have h2 := of_decide_eq_true this
  unfold reachBytes at h2
  omega
end
theorem val_words (n : Nat) (l : List UInt32) : Sh.val (.arr n .u32) l = .agg (l.map vw).toArray := by
  show Value.agg (l.flatMap fun x => [vw x]).toArray = _
  congr 2
  induction l with
  | nil => rfl
  | cons x l ih => rw [List.flatMap_cons, ih]; rfl
theorem val_bytes (n : Nat) (l : List UInt8) : Sh.val (.arr n .u8) l = .agg (l.map vb).toArray := by
  show Value.agg (l.flatMap fun x => [vb x]).toArray = _
  congr 2
  induction l with
  | nil => rfl
  | cons x l ih => rw [List.flatMap_cons, ih]; rfl
end Go.Cit

/- A range over a function that keeps its state in cells of its own. No condition on the program. -/
namespace Go.Cit
open Go Go.RowKit

/-- What the caller says of its own memory: the blocks of C may change, and from B on what holds no cells. -/
def Apart {β : Type} (B : Nat) (C : Nat → Prop) (I : β → World → Prop) : Prop :=
  ∀ s W W' row, I s W → W.grownBy W' row → (∀ r, row = some r → C r ∨ (B ≤ r ∧ ∃ o : Obj, W.heap[r]? = some o ∧ o.isCells = false)) → I s W'
theorem Apart.alloc {β : Type} {B : Nat} {C : Nat → Prop} {I : β → World → Prop} (h : Apart B C I) {s : β} {W : World} (o : Obj) (hs : I s W) : I s (W.alloc o) :=
  h s W _ none hs (World.grownBy_alloc W o none) (fun r e => by cases e)
theorem Apart.put {β : Type} {B : Nat} {C : Nat → Prop} {I : β → World → Prop} (h : Apart B C I) {s : β} {W : World} {l : Nat} {o : Obj} (o' : Obj) (hs : I s W) (hB : B ≤ l) (hl : W.heap[l]? = some o) (ho : o.isCells = false) : I s (W.putObj l o') :=
  h s W _ (some l) hs (grownBy_putObj' W l o') (fun r e => by cases e; exact .inr ⟨hB, o, hl, ho⟩)
/-- The same of a fact that names no list. -/
def Apart0 (B : Nat) (f : World → Prop) : Prop := ∀ (W : World) (l : Nat) (o o' : Obj), B ≤ l → W.heap[l]? = some o → o.isCells = false → f W → f (W.putObj l o')

/-- What an iterator gives whose blocks are C: to whatever rounds that keep Kp, all of a list, each element such that Fx. -/
def Gives1 {α : Type} (F : Fence) (n : Nat) (P : Program) (g : Nat) (lb : Array Value) (encs : α → Array Value) (C : Nat → Prop) (Kp : World → World → Prop) (Fx : α → World → Prop) (N : Nat) (S : List α → Prop) (w : World) : Prop :=
  ∀ (l : Nat) (J : List α → World → Prop) (W : World), Below w.heap.size w W →
    (∀ s A B row, J s A → A.grownBy B row → (∀ r, row = some r → C r) → J s B) →
    (∀ pre x W1, J pre W1 → pre.length < N → Fx x W1 → YieldAt F (n - 1) P l (encs x) W1 fun e W' => e = .returned (.bool true) ∧ J (pre ++ [x]) W' ∧ Kp W1 W') →
    J [] W →
    CallsIn F n P g (#[.func (.yield l) #[] #[]] ++ lb) W fun e W' => (∃ v, e = .returned v) ∧ ∃ xs, S xs ∧ J xs W'

/-- What is walked outside a round holds in it, operation by operation. -/
theorem op_in_round {L n : Nat} {P : Program} {o : Oper} {a : Act} {w : World} {K : Act → World → Prop} {Q : Exit → Act → World → Prop} (hd : ∀ c, o.op ≠ .defer c) (h : o.wp P a w K Q) : o.wpIn (Fence.wide.inRound L) n P a w K Q := by
  refine ⟨fun _ _ => trivial, ?_⟩
  rw [Oper.semAt_eq _ _ _ hd]
  unfold Oper.wp at h
  generalize (execOp a.eval o).run P w = r at h
  match r, h with
  | .ok (.value v) w', h => exact h
  | .ok .skip w', h => exact h
  | .ok (.defer d) w', h => exact h
  | .ok (.enter f args) w', h => exact ⟨fun h => (by cases h), CallsIn.inRound L ((callsIn_wide (n := n - 1)).2 h)⟩
  | .ok (.row row args) w', h => exact ⟨fun h => (by cases h), fun c cs _ => let ⟨v, w', r, s⟩ := h c cs; ⟨v, w', r, stepsIn_wide.2 s⟩⟩
  | .halt (.panic v) w', h => exact h
theorem any_in_round {L n : Nat} {P : Program} {md : Region.Mode} {ops : Array Oper} {Q : Exit → Act → World → Prop} (hd : ops.all (fun o => match o.op with | .defer _ => false | _ => true) = true) (hQ : ∀ a w, ¬ Q .outgrown a w) :
    ∀ (fuel : Nat) (listed : Array Bool) (a : Act) (w : World), wpAny P md ops Q fuel listed a w → wpAnyIn (Fence.wide.inRound L) n P md ops Q fuel listed a w
  | 0, _, _, _, h => h
  | fuel + 1, listed, a, w, h => by
    refine ⟨h.1, fun i hi => ?_⟩
    have h1 := h.2 i hi
    unfold wpOp at h1
    unfold wpOpIn
    cases ho : ops[i]? with
    | none => rw [ho] at h1; exact any_in_round hd hQ fuel _ _ _ h1
    | some o =>
      rw [ho] at h1
      dsimp only at h1 ⊢
      have hdo : ∀ c, o.op ≠ .defer c := by
        intro c e
        obtain ⟨hlt, rfl⟩ := Array.getElem?_eq_some_iff.1 ho
        have := (Array.all_eq_true.1 hd) i hlt
        rw [e] at this
        simp at this
      split at h1
      · rename_i hw
        rw [if_pos hw]
        refine op_in_round hdo ?_
        rcases h1 with h1 | ⟨_, a', w', h1⟩
        · exact Oper.wp_mono (fun a w h => any_in_round hd hQ fuel _ _ _ h) h1
        · exact absurd h1 (hQ a' w')
      · rename_i hw
        rw [if_neg hw]
        exact ⟨fun _ _ => trivial, any_in_round hd hQ fuel _ _ _ h1⟩
theorem region_in_round {L n id : Nat} {P : Program} {ops : Array Oper} {Q : Exit → Act → World → Prop} {a : Act} {w : World} (hm : P.follows .mixedOrders = true) (hd : ops.all (fun o => match o.op with | .defer _ => false | _ => true) = true) (hQ : ∀ a w, ¬ Q .outgrown a w)
    (h : wpAny P .any ops Q ops.size (Array.replicate ops.size false) a { w with drawn := w.drawn + 1 }) : (Code.region id ops true).wpIn (Fence.wide.inRound L) n P Q a w :=
  wpIn_region_any hm (any_in_round hd hQ _ _ _ _ h)

variable {F : Fence} {n : Nat} {P : Program}

theorem wpIn_range_cells {α : Type} {g : Operand} {ps : Array Tmp} {assign body : Code} {Q : Exit → Act → World → Prop} {a : Act} {w : World}
    (hro : F.round = none) (h1 : 1 ≤ n) {gf : Nat} {lb : Array Value} (hg : a.eval g = .func (.func gf) #[] lb) (hFg : F.fn gf) (eg : ∀ args w, (callFunc gf args).run P w = .ok (.enter gf args) w)
    {encs : α → Array Value} {C : Nat → Prop} {Kp : World → World → Prop} {Fx : α → World → Prop} {N : Nat} {S : List α → Prop} (hC : ∀ c, C c → c < w.heap.size) (hseq : Gives1 F (n - 1) P gf lb encs C Kp Fx N S w)
    (hKt : ∀ {A B C : World}, Kp A B → Kp B C → Kp A C) (hKb : ∀ (W : World) (l : Nat) (o o' : Obj), w.heap.size ≤ l → W.heap[l]? = some o → o.isCells = false → Kp W (W.putObj l o')) (hps : ∀ x, (encs x).size = ps.size)
    (hFx : ∀ x, Apart0 w.heap.size (Fx x)) (I : List α → World → Prop) (hI : Apart w.heap.size C I) (h0 : I [] w) (a₁ : α → Act)
    (hassign : ∀ (l : Nat) (x : α) (W : World) (K : Act → World → Prop), K (a₁ x) W →
      assign.wpIn (F.inRound l) (n - 1 - 1) P (Exit.then K (fun _ _ _ => False)) { tmps := (ps.zip (encs x)).foldl (fun t (p, v) => t.setIfInBounds p v) a.tmps, defers := [] } W)
    (hbody : ∀ (l : Nat) (pre : List α) (x : α) (W : World), I pre W → pre.length < N → Fx x W → body.wpIn (F.inRound l) (n - 1 - 1) P (Exit.then (fun _ W' => KeepsOthers W W' ∧ Kp W W' ∧ I (pre ++ [x]) W') (fun _ _ _ => False)) (a₁ x) W)
    (hdone : ∀ (D : Nat) (xs : List α) (W : World), w.heap.size ≤ D → S xs → I xs W → W.heap[D]? = some (.deferred (some [])) → Q .normal { a with defers := { target := .collected D, args := #[] } :: a.defers } W) :
    (Code.rangeFunc g ps assign body).wpIn F n P Q a w := by
  refine wpIn_rangeFunc fun fn hfn => ?_
  rw [hro]
  obtain ⟨rec, hrec⟩ : ∃ rec : LoopState → Loop, rec = fun st => { state := st, pending := none, fn, tmps := a.tmps, params := ps, assign, body, defers := w.heap.size } := ⟨_, rfl⟩
  have hlen : (w.alloc (.deferred (some []))).heap.size = w.heap.size + 1 := by simp
  have hR : ((w.alloc (.deferred (some []))).alloc (.loop (rec .ready))).heap[w.heap.size + 1]? = some (.loop (rec .ready)) := by
    have := World.alloc_heap_new (w.alloc (.deferred (some []))) (.loop (rec .ready)); rwa [hlen] at this
  have hD : ((w.alloc (.deferred (some []))).alloc (.loop (rec .ready))).heap[w.heap.size]? = some (.deferred (some [])) :=
    (Below.heap_alloc _ _ _ (by simp)).trans (World.alloc_heap_new w _)
  have hi1 := hI.alloc (.loop (rec .ready)) (hI.alloc (.deferred (some [])) h0)
  have hb1 : Below w.heap.size w ((w.alloc (.deferred (some []))).alloc (.loop (rec .ready))) := ((Below.refl _ w).alloc (Nat.le_refl _) _).alloc (by simp) _
  have hent : (Instr.enterLoop fn a.tmps ps assign body none).run P w = .ok (w.heap.size + 1, [{ target := .collected w.heap.size, args := #[] }]) ((w.alloc (.deferred (some []))).alloc (.loop (rec .ready))) := by rw [hrec]; exact run_enterLoop_outer _ _ _ _ _
  generalize (w.alloc (.deferred (some []))).alloc (.loop (rec .ready)) = W1 at hR hD hi1 hb1 hent
  refine ⟨w.heap.size + 1, [{ target := .collected w.heap.size, args := #[] }], W1, { target := .fn (.func gf) lb, args := #[.func (.yield (w.heap.size + 1)) #[] #[]] }, W1, gf,
    #[.func (.yield (w.heap.size + 1)) #[] #[]] ++ lb, W1, hent, ?_, ?_, ?_, fun _ => h1, ?_⟩
  · simp only [resolve, hg]
    simp [go_sem]
  · intro f' hf'; simp [Target.leads] at hf'; subst hf'; exact hFg
  · simp [invoke, go_sem, eg]
  · refine (hseq (w.heap.size + 1) (fun pre W => I pre W ∧ W.heap[w.heap.size + 1]? = some (.loop (rec .ready)) ∧ W.heap[w.heap.size]? = some (.deferred (some []))) _ hb1 ?_ ?_ ⟨hi1, hR, hD⟩).mono ?_
    · rintro s A B row ⟨h1, h2, h3⟩ hg' hr
      have hne : ∀ k, w.heap.size ≤ k → some k ≠ row := fun k hk e => by have := hC k (hr k e.symm); omega
      exact ⟨hI s A B row h1 hg' (fun r e => .inl (hr r e)), (hg'.block _ (Array.getElem?_eq_some_iff.1 h2).1 (hne _ (by omega))).trans h2, (hg'.block _ (Array.getElem?_eq_some_iff.1 h3).1 (hne _ (by omega))).trans h3⟩
    · rintro pre x W ⟨hi, hl, hk⟩ hN hx
      have hlt : w.heap.size + 1 < W.heap.size := (Array.getElem?_eq_some_iff.1 hl).1
      have hy := run_yield (P := P) (args := encs x) hl (by rw [hrec]; exact hps x)
      rw [hrec] at hy
      refine ⟨fn, _, assign, body, hy, roundIn_of_wpIn hfn (hassign _ x W _ ⟨_, run_beginRound hl (by rw [hrec]), ?_⟩)⟩
      have hl2 : (W.putObj (w.heap.size + 1) (.loop { rec .ready with state := .busy })).heap[w.heap.size + 1]? = some (.loop { rec .ready with state := .busy }) := World.putObj_heap_same hlt
      have hk2 : (W.putObj (w.heap.size + 1) (.loop { rec .ready with state := .busy })).heap[w.heap.size]? = some (.deferred (some [])) := (World.putObj_heap_other (by omega)).trans hk
      have hw2 : Kp W (W.putObj (w.heap.size + 1) (.loop { rec .ready with state := .busy })) := hKb _ _ _ _ (by omega) hl rfl
      refine wpIn_mono (hbody _ pre x _ (hI.put _ hi (by omega) hl rfl) hN (hFx x W _ _ _ (by omega) hl rfl hx)) ?_
      rintro e a3 W3 hp
      cases e with
      | normal =>
        obtain ⟨hk3, hkp3, hi3⟩ := hp
        have hl3 := hk3.same _ _ hl2 rfl
        have hend := run_endRound (P := P) none hl3
        refine ⟨_, _, hend, rfl, ⟨hI.put _ hi3 (by omega) hl3 rfl, ?_, (World.putObj_heap_other (by omega)).trans (hk3.same _ _ hk2 rfl)⟩, hKt (hKt hw2 hkp3) (hKb _ _ _ _ (by omega) hl3 rfl)⟩
        rw [World.putObj_heap_same (Array.getElem?_eq_some_iff.1 hl3).1, hrec]
        rfl
      | ret => exact hp.elim
      | exit id => exact hp.elim
      | goto t => exact hp.elim
      | panic ch => exact hp.elim
      | outgrown => exact hp.elim
    · rintro e W2 ⟨⟨v, rfl⟩, xs, hS, hi, hl, hk⟩
      have hend := run_endLoop (P := P) hl (by rw [hrec]; simp)
      have hp : (rec .ready).pending = none := by rw [hrec]
      rw [hp] at hend
      exact ⟨none, _, hend, hdone _ xs _ (Nat.le_refl _) hS (hI.put _ hi (by omega) hl rfl) ((World.putObj_heap_other (by omega)).trans hk)⟩

/-- append of one-cell elements to a slice of the call's own, as an operation of a region that draws its order. -/
theorem gp_append_own {P : Program} {w : World} {o : Oper} {ρ : Operand → Value} {post : Value → World → Prop} (s x : Operand) (t : TypeId) (ho : o.op = Op.call { callee := Callee.builtin Builtin.append, args := #[s, x], argTypes := #[t, t] })
    (base : Nat) (e : TypeId) (z : Value) (size bytes : Nat) (h1 : P.underlying t = some (.slice e)) (hinfo : (P.info? e).map (fun i => (i.zero, i.size, i.bytes)) = some (some z, size, bytes)) (h6 : z.cells.size = size) (h7 : 0 < size)
    {v : Value} {k : Nat} {xs : List Value} (hs : ρ s = v) (hown : w.ownsRow base e size v k xs) {ad : Addr} {m c : Nat} {news : List Value} (hx : ρ x = .slice (some ad) m c) (hn : news.length = m * size)
    (hc : ∀ j u, news[j]? = some u → w.cell? (ad.add j) = some u) (h1c : ∀ u ∈ news, u.oneCell' = true) (b1 : k + m ≤ maxLen) (b2 : (k + m) * bytes ≤ 140737488355328) (b3 : base ≤ w.heap.size)
    (hp : ∀ v' w', w'.ownsRow base e size v' (k + m) (xs ++ news) → w.grownBy w' v.ownBlock → post v' w') : GivesP P post ((execOp ρ o).run P w) := by
  obtain ⟨i, h2, h3, h4, h5⟩ := info_parts hinfo
  obtain ⟨v', w', hrun, r1, r2, _⟩ := run_append_own (P := P) w base t o.type e i z size bytes h1 h2 h3 h4 h5 h6 h7 v k xs hown ad m c news hn hc h1c b1 b2 b3
  refine gp_run (v := v') (w' := w') ?_ (hp v' w' r1 r2)
  simp [execOp, ho, resolve, invoke, builtin, hs, hx, hrun, Result.andThen]
end Go.Cit

/- words.Cut: its iterator (which keeps what is left in a cell of its own), and the call. -/
namespace Go.Proofs.YtofagofpeedfcaaGreat
open Go Go.RowKit Go.Cit Go.Shelf
attribute [local go_sem] Oper.semAt_some

/-- bytes.Clone. -/
theorem clone_calls (w : World) (a : Option Addr) (l : List UInt8) (c : Nat) (h : Row w a l c) (hl : l.length ≤ 1000000000) :
    Calls Tryz.prog 53 #[.slice a l.length c] w fun e w' => ∃ a' c', e = .returned (.slice a' l.length c') ∧ Go.Cit.Own 5 w.heap.size w' a' l c' ∧ Below w.heap.size w w' := by
  cases a with
  | none =>
    have h0 := h.nil rfl
    have h1 := h.le
    obtain rfl : l = [] := List.eq_nil_of_length_eq_zero (by omega)
    refine (Tryz.bytes_Clone_nil _ _ _).mono ?_
    rintro e w' ⟨rfl, rfl⟩
    exact ⟨none, 0, rfl, Go.Cit.Own.nil _ _ _, Below.refl _ _⟩
  | some x =>
    refine (Tryz.bytes_Clone_at x l.length c (l.map fun y => (y.toNat : Int)) w (by simp) (by omega) (fun i hi => ?_)).mono ?_
    · obtain ⟨b, o, e⟩ := h.spot (by intro h0; simp [h0] at hi)
      injection e with e
      subst e
      have ea : (⟨b, o, none⟩ : Addr).add i = ad (some ⟨b, o, none⟩) i := by unfold Addr.add ad; split <;> simp_all
      rw [ea, h.cell i hi]
      simp [hi]
    · rintro e w' ⟨v', rfl, ho, _, hb⟩
      have hv : ∃ a' c', v' = .slice a' l.length c' := by
        rcases ho.2 with ⟨hv, hn⟩ | ⟨g, c', cur, hv, _⟩
        · exact ⟨none, 0, by rw [hv, hn]⟩
        · exact ⟨_, _, hv⟩
      obtain ⟨a', c', rfl⟩ := hv
      refine ⟨a', c', rfl, ⟨?_⟩, hb⟩
      have e : List.map (Value.int .u8) (l.map fun y => (y.toNat : Int)) = l.map vb := by rw [List.map_map]; rfl
      rwa [e] at ho

/-- The pieces of n bytes. -/
def pieceL (n : Nat) (l : List UInt8) (k : Nat) : List UInt8 := (l.drop (k * n)).take n
def cutN (n : Nat) (l : List UInt8) : Nat := (l.length + n - 1) / n
def cutL (n : Nat) (l : List UInt8) : List (List UInt8) := (List.range (cutN n l)).map (pieceL n l)
theorem cutN_end {n : Nat} (hn : 1 ≤ n) {l : List UInt8} {k : Nat} (h1 : l.length ≤ k * n) (h2 : k = 0 ∨ (k - 1) * n < l.length) : k = cutN n l := by
  unfold cutN
  symm
  rcases h2 with rfl | h2
  · rw [Nat.zero_mul] at h1; exact Nat.div_eq_of_lt (by omega)
  · rcases Nat.eq_zero_or_pos k with rfl | hk
    · rw [Nat.zero_mul] at h1; exact Nat.div_eq_of_lt (by omega)
    · obtain ⟨j, rfl⟩ : ∃ j, k = j + 1 := ⟨k - 1, by omega⟩
      rw [Nat.add_sub_cancel] at h2
      rw [Nat.add_mul, Nat.one_mul] at h1
      rw [Nat.div_eq_iff (by omega)]
      rw [Nat.mul_comm, Nat.mul_add, Nat.mul_one, Nat.mul_comm] at *
      omega

/-- What the rounds keep: what lay below n₀, but for the block lb. -/
def KpC (n₀ lb : Nat) : World → World → Prop := Save (fun k => k < n₀ ∧ k ≠ lb)

/-- The measure of the iterator's loop: the bytes that are left. -/
def leftC (cb : Nat) (w : World) : Nat := match w.cell? ⟨cb, 0, none⟩ with | some (.slice _ n _) => n | _ => 0
theorem leftC_eq {cb : Nat} {w : World} {a : Option Addr} {n c : Nat} (h : w.cell? ⟨cb, 0, none⟩ = some (.slice a n c)) : leftC cb w = n := by simp [leftC, h]

set_option maxRecDepth 100000 in
set_option maxHeartbeats 2000000 in
theorem pieces_gives (m : Nat) (w : World) (cb cn lb n₀ : Nat) (a : Option Addr) (l : List UInt8) (c n : Nat) (hn : 1 ≤ n) (hn9 : n ≤ 9223372036854775807) (hne : cn ≠ cb) (hb9 : cb < n₀) (hn0 : cn < n₀) (hlb1 : cb ≠ lb) (hlb2 : cn ≠ lb) 
    (hb : w.heap[cb]? = some (.cells #[.slice a l.length c] 31 (0, 0))) (hc : w.heap[cn]? = some (.cells #[.int .i64 n] 3 (0, 0))) (r : Row w a l c) (hg : l ≠ [] → ∀ g, Go.Cit.blk a = some g → (g < n₀ ∧ g ≠ lb) ∧ g ≠ cb) :
    Gives1 Fence.wide m Tryz.prog 91 #[.pointer (some ⟨cb, 0, none⟩), .pointer (some ⟨cn, 0, none⟩)] (fun x : Sl UInt8 => #[.slice x.a x.l.length x.c]) (· = cb) (KpC n₀ lb) (fun x W => Row W x.a x.l x.c ∧ x.l.length ≤ l.length) l.length
      (fun xs => xs.map (·.l) = cutL n l) w := by
  intro L J W hW hJ hY h0
  have hb := (hW.block cb (Array.getElem?_eq_some_iff.1 hb).1).trans hb
  have hc := (hW.block cn (Array.getElem?_eq_some_iff.1 hc).1).trans hc
  have r := r.stay hW
  have hW := hW.size
  have HG := Lib.hid hg
  have HJ := Lib.hid hJ
  have HY := Lib.hid hY
  clear hg hJ hY
  refine callsIn_of_wp Tryz.func91 rfl trivial ?_ rfl
  simp only [Tryz.ntmps91, List.size_toArray, List.length_cons, List.length_nil, Nat.reduceAdd, Nat.reduceSub, Array.replicate_succ, Array.replicate_zero, List.push_toArray, List.append_toArray, List.nil_append, List.cons_append]
  gi_wp2
  gi_loopw [4] (fun p wr => ∃ (k : Nat) (a' : Option Addr) (rest : List UInt8) (c' : Nat) (pre : List (Sl UInt8)), p = .bool true ∧ Hid (rest = l.drop (k * n)) ∧ Hid (k = 0 ∨ (k - 1) * n < l.length) ∧ Hid (pre.map (·.l) = (List.range k).map (pieceL n l)) ∧
      wr.heap[cb]? = some (.cells #[.slice a' rest.length c'] 31 (0, 0)) ∧ wr.heap[cn]? = some (.cells #[.int .i64 n] 3 (0, 0)) ∧ Row wr a' rest c' ∧ Hid (rest ≠ [] → Go.Cit.blk a' = Go.Cit.blk a) ∧ J pre wr)
    (fun _ wr => leftC cb wr)
  case atStart => exact ⟨0, a, l, c, [], rfl, by simp [Hid], .inl rfl, rfl, hb, hc, r, fun _ => rfl, h0⟩
  case round =>
    clear hb hc r h0
    obtain ⟨k, a', rest, c', pre, rfl, HR, HK, HP, hb, hc, r, HB, hJ⟩ := hrel
    have hcb := cell_of_one hb
    have hfb := free_of_one hb
    have hcn := cell_of_one hc
    by_cases hr : rest = []
    · have HX : Hid (pre.map (·.l) = cutL n l) := by
        rw [Hid, HP.out, cutL, ← cutN_end hn (k := k) (List.drop_eq_nil_iff.1 (HR.out ▸ hr)) HK.out]
      subst hr
      gi_wp2
      go_end0
      exact ⟨⟨_, rfl⟩, pre, HX.out, hJ⟩
    · have hlen : 0 < rest.length := List.length_pos_iff.2 hr
      obtain ⟨kk, hkk⟩ : ∃ kk, kk = min n rest.length := ⟨_, rfl⟩
      have hk1 : kk ≤ rest.length := by omega
      have hmin : min (n : Int) (rest.length : Int) = (kk : Int) := by omega
      obtain ⟨a1, m1, c1, hm1, hrun1, r1, hb1⟩ := r.upto2 bt.slice bt.sz kk hk1
      obtain ⟨a2, m2, c2, hm2, hrun2, r2, hb2⟩ := r.from2 bt.slice bt.sz kk hk1
      have HM1 : Hid (m1 = pieceL n l k) := by
        rw [Hid, hm1, pieceL, ← HR.out, hkk]
        rcases Nat.le_total n rest.length with h | h
        · rw [Nat.min_eq_left h]
        · rw [Nat.min_eq_right h, List.take_length, List.take_of_length_le h]
      have HM2 : Hid (m2 = l.drop ((k + 1) * n)) := by
        rw [Hid, hm2, Nat.add_mul, Nat.one_mul, ← List.drop_drop, ← HR.out, hkk]
        rcases Nat.le_total n rest.length with h | h
        · rw [Nat.min_eq_left h]
        · rw [Nat.min_eq_right h, List.drop_length, List.drop_of_length_le h]
      have HN : Hid (m2.length < rest.length) := by rw [Hid, hm2, List.length_drop]; omega
      have HK2 : Hid (k + 1 = 0 ∨ (k + 1 - 1) * n < l.length) := .inr (by
        have := hlen; rw [HR.out, List.length_drop] at this
        rw [Nat.add_sub_cancel]; omega)
      have HB1 : Hid (Go.Cit.blk a1 = Go.Cit.blk a) := hb1.trans (HB.out hr)
      have HB2 : Hid (Go.Cit.blk a2 = Go.Cit.blk a) := hb2.trans (HB.out hr)
      have HL : Hid (l ≠ []) := by intro h; apply hr; rw [HR.out, h, List.drop_nil]
      have HN2 : Hid (pre.length < l.length) := by
        have h1 := congrArg List.length HP.out
        simp only [List.length_map, List.length_range] at h1
        have h2 := hlen
        rw [HR.out, List.length_drop] at h2
        have h3 := Nat.le_mul_of_pos_right k (show 0 < n by omega)
        rw [Hid]; omega
      have HX9 : Hid (m1.length ≤ l.length) := by
        have := hk1; have h3 := congrArg List.length HR.out
        rw [List.length_drop] at h3
        rw [Hid, hm1, List.length_take]; omega
      have HLC : Hid (leftC cb wr = rest.length) := leftC_eq hcb
      clear hm1 hm2 hkk hb1 hb2 hr HR HK
      obtain ⟨fn, tmps, assign, body, hy, hR⟩ := HY.out pre ⟨a1, c1, m1⟩ wr hJ HN2.out ⟨r1, HX9.out⟩
      dsimp only at hy
      gi_wp2
      refine ⟨fun h => (by cases h), hR.mono ?_⟩
      rintro e W3 ⟨rfl, hJ3, hk3⟩
      have hb3 : W3.heap[cb]? = some (.cells #[.slice a' rest.length c'] 31 (0, 0)) := (hk3.block _ (Array.getElem?_eq_some_iff.1 hb).1 ⟨hb9, hlb1⟩).trans hb
      have hc3 : W3.heap[cn]? = some (.cells #[.int .i64 n] 3 (0, 0)) := (hk3.block _ (Array.getElem?_eq_some_iff.1 hc).1 ⟨hn0, hlb2⟩).trans hc
      have r3 : Row W3 a2 m2 c2 := r2.save' hk3 (fun _ g hg => (HG.out HL.out g (HB2.out ▸ hg)).1)
      have hcb3 := cell_of_one hb3
      have hfb3 := free_of_one hb3
      clear hb hc hcb hfb hcn r r1 r2 hR hk3
      gi_wp2
      go_roundw
      case rel =>
        refine ⟨k + 1, a2, m2, c2, pre ++ [⟨a1, c1, m1⟩], rfl, HM2, HK2, ?_, one_setCell hb3, ?_, ?_, fun _ => HB2.out, ?_⟩
        · rw [Hid, List.map_append, HP.out, List.range_succ, List.map_append]; show _ ++ [m1] = _ ++ [pieceL n l k]; rw [HM1.out]
        · exact (Below.heap_setCell _ _ _ _ hne).trans hc3
        · exact r3.save' Save.set (fun _ g hg => (HG.out HL.out g (HB2.out ▸ hg)).2)
        · exact HJ.out _ _ _ (some cb) hJ3 (grownBy_setCell' W3 cb _) (fun r e => by cases e; rfl)
      case measure =>
        rw [leftC_eq (cell_of_one (one_setCell hb3)), HLC.out]
        exact HN.out

theorem piecesf_calls (w : World) (a : Option Addr) (k c : Nat) (n : Int) :
    Calls Tryz.prog 80 #[.slice a k c, .int .i64 n] w fun e w' => e = .returned (.func (.func 91) #[] #[.pointer (some ⟨w.heap.size, 0, none⟩), .pointer (some ⟨w.heap.size + 1, 0, none⟩)]) ∧
      w' = (w.alloc (.cells #[.slice a k c] 31)).alloc (.cells #[.int .i64 n] 3) := by
  go_enter Tryz.func80, Tryz.ntmps80
  go_wp2
  go_ret
  exact ⟨rfl, rfl⟩

/-- A slice of rows that reads as ds. -/
structure Rows (w : World) (a : Option Addr) (ds : List (Sl UInt8)) (cap : Nat) : Prop where
  le : ds.length ≤ cap
  top : cap ≤ maxLen
  nil : a = none → cap = 0
  spot : ds ≠ [] → ∃ b off, a = some ⟨b, off, none⟩
  cell : ∀ i (h : i < ds.length), w.cell? (ad a i) = some (.slice ds[i].a ds[i].l.length ds[i].c)
  row : ∀ d ∈ ds, Row w d.a d.l d.c

theorem Rows.len_le {w : World} {a : Option Addr} {ds : List (Sl UInt8)} {cap : Nat} (h : Rows w a ds cap) : ds.length ≤ 9223372036854775807 := by
  have h1 := h.le; have h2 := h.top; unfold maxLen at h2; omega
theorem Rows.blk {w : World} {a : Option Addr} {ds : List (Sl UInt8)} {cap : Nat} (h : Rows w a ds cap) {i : Nat} (hi : i < ds.length) : (ad a i).block < w.heap.size :=
  World.block_lt_of_cell? w _ (h.cell i hi)
theorem Rows.stay {w w' : World} {a : Option Addr} {ds : List (Sl UInt8)} {cap : Nat} (h : Rows w a ds cap) (hb : Below w.heap.size w w') : Rows w' a ds cap :=
  ⟨h.le, h.top, h.nil, h.spot, fun i hi => (hb.cell (h.blk hi)).trans (h.cell i hi), fun d hd => (h.row d hd).stay hb⟩
theorem Rows.drewN {w : World} {a : Option Addr} {ds : List (Sl UInt8)} {cap : Nat} (h : Rows w a ds cap) (n : Nat) : Rows (w.drewN n) a ds cap :=
  ⟨h.le, h.top, h.nil, h.spot, fun i hi => h.cell i hi, fun d hd => (h.row d hd).drewN n⟩
theorem Rows.save {S : Nat → Prop} {w w' : World} {a : Option Addr} {ds : List (Sl UInt8)} {cap : Nat} (h : Rows w a ds cap) (hs : Save S w w') (ha : ∀ g, Go.Cit.blk a = some g → S g) (hd : ∀ d ∈ ds, ∀ g, Go.Cit.blk d.a = some g → S g) : Rows w' a ds cap := by
  refine ⟨h.le, h.top, h.nil, h.spot, fun i hi => (hs.cell (h.blk hi) ?_).trans (h.cell i hi), fun d hm => (h.row d hm).save hs (hd d hm)⟩
  obtain ⟨b, off, rfl⟩ := h.spot (by intro h0; simp [h0] at hi)
  have := ha b rfl
  simpa [ad] using this
theorem szRow : ∀ w, (sizeOf 31).run Tryz.prog w = .ok 1 w := by intro w; kernel_rfl
theorem Rows.index {w : World} {a : Option Addr} {ds : List (Sl UInt8)} {cap : Nat} (h : Rows w a ds cap) (i : Nat) (hi : i < ds.length) :
    ∀ w, (Instr.indexAt 105 (.slice a ds.length cap) (.int .i64 (i : Int))).run Tryz.prog w = .ok (.pointer (some (ad a i))) w := by
  intro w
  obtain ⟨b, off, rfl⟩ := h.spot (by intro h0; simp [h0] at hi)
  have hT : Tryz.prog.underlying 105 = some (.slice 31) := Tryz.underlying105
  have he : Tryz.prog.elem 105 = 31 := by simp [Program.elem, hT]
  rw [run_indexAt_slice w _ _ _ _ _ _ (by rw [he]; exact hT), if_pos (by omega), he, szRow]
  simp only [Result.andThen, ad, Addr.add]
  by_cases h0 : i = 0
  · subst h0; simp
  · simp [h0]

@[reducible] def sv (d : Sl UInt8) : Value := .slice d.a d.l.length d.c

/-- What words.Cut holds between two rounds. -/
def CutI (w : World) (pre : List (Sl UInt8)) (W : World) : Prop := ∃ (v : Value) (ds : List (Sl UInt8)), Boxed W w.heap.size 105 v ∧ W.ownsRow (w.heap.size + 3) 31 1 v pre.length (ds.map sv) ∧ ds.map (·.l) = pre.map (·.l) ∧
  (∀ d ∈ ds, Go.Cit.Own 5 (w.heap.size + 3) W d.a d.l d.c) ∧ Below w.heap.size w W ∧ w.heap.size + 3 ≤ W.heap.size

theorem ownsRow_apart {W W' : World} {row : Option Nat} {base e size : Nat} {v : Value} {k : Nat} {xs : List Value} (h : W.ownsRow base e size v k xs) (hg : W.grownBy W' row)
    (hr : ∀ r, row = some r → r < base ∨ (∃ o : Obj, W.heap[r]? = some o ∧ o.isCells = false)) : W'.ownsRow base e size v k xs := by
  refine h.kept hg ?_
  rcases h.2 with ⟨rfl, _⟩ | ⟨g, cap, cur, rfl, hb, hh, _⟩
  · exact .inl rfl
  · refine .inr fun e => ?_
    rcases hr g e.symm with h1 | ⟨o, ho, hc⟩
    · omega
    · rw [hh] at ho; cases ho; simp [Obj.isCells] at hc

theorem cutI_apart (w : World) : Apart (w.heap.size + 3) (· = w.heap.size + 1) (CutI w) := by
  rintro s W W' row ⟨v, ds, hv, hrow, hds, hown, hB, hsz⟩ hg hr
  have hr2 : ∀ r, row = some r → r < w.heap.size + 3 ∨ (∃ o : Obj, W.heap[r]? = some o ∧ o.isCells = false) := fun r e => by
    rcases hr r e with rfl | ⟨_, h⟩
    · exact .inl (by omega)
    · exact .inr h
  refine ⟨v, ds, hv.kept hg ?_, ownsRow_apart hrow hg hr2, hds, fun d hd => ⟨ownsRow_apart (hown d hd).row hg hr2⟩, hB.grown hg hB.size (fun k e => ?_), Nat.le_trans hsz hg.size⟩
  · intro e
    rcases hr _ e.symm with h | ⟨h, _⟩ <;> omega
  · rcases hr _ e with h | ⟨h, _⟩ <;> omega

theorem keeps_below {W W' : World} (h : Below W.heap.size W W') : KeepsOthers W W' :=
  ⟨h.size, fun k o hk _ => (h.block k (Array.getElem?_eq_some_iff.1 hk).1).trans hk⟩

/-- What is known within a round of words.Cut, while its one statement is carried out in whatever order: of the world .. -/
def rdC (W : World) (lb n₀ k : Nat) (v0 : Value) (ds : List (Sl UInt8)) (x : Sl UInt8) (δ : Nat → Bool) (wx : World) : Prop :=
  (Save (fun j => j < W.heap.size ∧ j ≠ lb ∧ v0.ownBlock ≠ some j) W wx ∧ (δ 4 = false → Below W.heap.size W wx)) ∧ KeepsOthers W wx ∧ (δ 5 = false → Boxed wx lb 105 v0) ∧ (δ 4 = false → wx.ownsRow n₀ 31 1 v0 k (ds.map sv)) ∧
    (δ 5 = true → ∃ v' d, Boxed wx lb 105 v' ∧ wx.ownsRow n₀ 31 1 v' (k + 1) (ds.map sv ++ [sv d]) ∧ Go.Cit.Own 5 W.heap.size wx d.a d.l d.c ∧ d.l = x.l)
/-- .. of each operation .. -/
def rdG (lb : Nat) (v0 : Value) (i : Nat) (wx w' : World) : Prop :=
  if i = 4 then wx.grownBy w' v0.ownBlock else if i = 5 then ∃ v', w' = wx.setCell ⟨lb, 0, none⟩ v' else Below wx.heap.size wx w'
/-- .. of the slots. -/
def rdT (W : World) (n₀ k : Nat) (v0 : Value) (ds : List (Sl UInt8)) (x : Sl UInt8) (d : Nat) (v : Value) (wx : World) : Prop :=
  if d = 13 then v = v0 else if d = 14 then v = sv x
  else if d = 15 then ∃ y : Sl UInt8, v = sv y ∧ y.l = x.l ∧ Go.Cit.Own 5 W.heap.size wx y.a y.l y.c
  else if d = 16 then ∃ (y : Sl UInt8) (g : Nat), v = .slice (some ⟨g, 0, none⟩) 1 1 ∧ W.heap.size ≤ g ∧ g < wx.heap.size ∧ wx.cell? ⟨g, 0, none⟩ = some (sv y) ∧ y.l = x.l ∧ Go.Cit.Own 5 W.heap.size wx y.a y.l y.c
  else if d = 17 then ∃ y : Sl UInt8, wx.ownsRow n₀ 31 1 v (k + 1) (ds.map sv ++ [sv y]) ∧ y.l = x.l ∧ Go.Cit.Own 5 W.heap.size wx y.a y.l y.c
  else True

theorem rdG_save {W : World} {lb : Nat} {v0 : Value} {i : Nat} {wx w' : World} (hlb : lb < W.heap.size) (hv : ∀ g, v0.ownBlock = some g → g < W.heap.size) (h : rdG lb v0 i wx w') : Save (fun j => W.heap.size ≤ j) wx w' := by
  unfold rdG at h
  split at h
  · exact (Save.grown h).less fun k _ hk e => by have := hv k e.symm; omega
  · split at h
    · obtain ⟨v', rfl⟩ := h
      exact Save.set.less fun k _ hk => by omega
    · exact Save.of h
theorem rdT_stay {W : World} {lb n₀ k : Nat} {v0 : Value} {ds : List (Sl UInt8)} {x : Sl UInt8} {i d : Nat} {v : Value} {wx w' : World} (hlb : lb < n₀) (hn : n₀ ≤ W.heap.size) (hv : ∀ g, v0.ownBlock = some g → g < W.heap.size) (hi : d = 17 → i ≠ 4)
    (h : rdG lb v0 i wx w') (ht : rdT W n₀ k v0 ds x d v wx) : rdT W n₀ k v0 ds x d v w' := by
  have hs := rdG_save (by omega) hv h
  have ho : ∀ {y : Sl UInt8}, Go.Cit.Own 5 W.heap.size wx y.a y.l y.c → Go.Cit.Own 5 W.heap.size w' y.a y.l y.c := fun h => h.save hs fun g hg => (h.blk_ge hg).1
  unfold rdT at ht ⊢
  by_cases h13 : d = 13
  · rw [if_pos h13] at ht ⊢; exact ht
  rw [if_neg h13] at ht ⊢
  by_cases h14 : d = 14
  · rw [if_pos h14] at ht ⊢; exact ht
  rw [if_neg h14] at ht ⊢
  by_cases h15 : d = 15
  · rw [if_pos h15] at ht ⊢
    obtain ⟨y, h1, h2, h3⟩ := ht
    exact ⟨y, h1, h2, ho h3⟩
  rw [if_neg h15] at ht ⊢
  by_cases h16 : d = 16
  · rw [if_pos h16] at ht ⊢
    obtain ⟨y, g, h1, h2, h3, h4, h5, h6⟩ := ht
    exact ⟨y, g, h1, h2, Nat.lt_of_lt_of_le h3 hs.size, (hs.cell (p := ⟨g, 0, none⟩) h3 h2).trans h4, h5, ho h6⟩
  rw [if_neg h16] at ht ⊢
  by_cases h17 : d = 17
  · rw [if_pos h17] at ht ⊢
    obtain ⟨y, h1, h2, h3⟩ := ht
    refine ⟨y, ?_, h2, ho h3⟩
    unfold rdG at h
    rw [if_neg (hi h17)] at h
    by_cases h5 : i = 5
    · rw [if_pos h5] at h
      obtain ⟨v', rfl⟩ := h
      refine h1.kept (grownBy_setCell' wx lb v') ?_
      cases hb : v.ownBlock with
      | none => exact .inl rfl
      | some g => right; have := (h1.lt g hb).1; simp; omega
    · rw [if_neg h5] at h
      exact h1.kept (row := none) ⟨h.os, h.tape, h.output, h.size, fun k hk _ => h.block k hk⟩ (by cases v.ownBlock <;> simp)
  rw [if_neg h17]; trivial

theorem build_one {ρ : Operand → Value} {o : Oper} (x : Operand) (h : o.op = .buildSlice 105 1 #[(0, x)]) {y : Sl UInt8} (hx : ρ x = sv y) (wx : World) :
    (execOp ρ o).run Tryz.prog wx = .ok (.value (.slice (some ⟨wx.heap.size, 0, none⟩) 1 1)) (wx.alloc (.cells #[sv y] 31)) := by
  unfold execOp
  rw [h]
  dsimp only
  go_simp

theorem row_keeps {w w' : World} {base e size : Nat} {v : Value} {k : Nat} {xs : List Value} (h : w.ownsRow base e size v k xs) (hg : w.grownBy w' v.ownBlock) : KeepsOthers w w' := by
  refine KeepsOthers.of_grownBy hg fun j _ ej hj => ?_
  rcases h.2 with ⟨rfl, _⟩ | ⟨g', cap, cur', rfl, _, hg', _⟩
  · simp [Value.ownBlock] at ej
  · simp only [Value.ownBlock, Option.some.injEq] at ej
    subst ej
    rw [hg'] at hj; cases hj; rfl

theorem cut_final {w W wx : World} {v : Value} {ds pre : List (Sl UInt8)} {x : Sl UInt8} {δ : Nat → Bool} (hrow : W.ownsRow (w.heap.size + 3) 31 1 v pre.length (ds.map sv))
    (hds : ds.map (·.l) = pre.map (·.l)) (hown : ∀ d ∈ ds, Go.Cit.Own 5 (w.heap.size + 3) W d.a d.l d.c) (hB : Below w.heap.size w W) (hsz : w.heap.size + 3 ≤ W.heap.size)
    (hC : rdC W w.heap.size (w.heap.size + 3) pre.length v ds x δ wx) (h5 : δ 5 = true) :
    KeepsOthers W wx ∧ KpC (w.heap.size + 3) w.heap.size W wx ∧ CutI w (pre ++ [x]) wx := by
  obtain ⟨⟨hs, _⟩, hk, _, _, h⟩ := hC
  obtain ⟨v', d, hv', hrow', hd, hdl⟩ := h h5
  have hvb : ∀ k, v.ownBlock = some k → w.heap.size + 3 ≤ k := fun k e => (hrow.lt k e).1
  refine ⟨hk, hs.less fun k hk1 hk2 => ⟨hk1, hk2.2, fun e => ?_⟩, v', ds ++ [d], hv', by rw [List.map_append, List.length_append]; exact hrow', by simp [hds, hdl], fun y hy => ?_, ?_, Nat.le_trans hsz hs.size⟩
  · have := hvb k e; omega
  · rcases List.mem_append.1 hy with hy | hy
    · have ho := hown y hy
      refine ho.save hs fun g hg => ⟨(ho.blk_ge hg).2, by have := (ho.blk_ge hg).1; omega, fun e => ?_⟩
      rcases ho.form with ⟨hn, _, _⟩ | ⟨g1, cur, hn, _, hg1, _⟩
      · rw [hn] at hg; simp [Go.Cit.blk] at hg
      · rw [hn] at hg
        simp [Go.Cit.blk] at hg
        subst hg
        rcases hrow.2 with ⟨rfl, _⟩ | ⟨g', cap, cur', rfl, _, hg', _⟩
        · simp [Value.ownBlock] at e
        · simp only [Value.ownBlock, Option.some.injEq] at e
          subst e
          rw [hg1] at hg'
          cases hg'
    · obtain rfl : y = d := by simpa using hy
      exact hd.low hsz
  · refine hB.trans (hs.below (by omega) fun k hk => ⟨by omega, by omega, fun e => ?_⟩)
    have := hvb k e; omega

theorem rdC_pure {W : World} {lb n₀ k : Nat} {v0 : Value} {ds : List (Sl UInt8)} {x : Sl UInt8} {δ : Nat → Bool} {i : Nat} {wx : World} (h : rdC W lb n₀ k v0 ds x δ wx) (h4 : i ≠ 4) (h5 : i ≠ 5) : rdC W lb n₀ k v0 ds x (upd δ i) wx := by
  unfold rdC at h ⊢
  rw [upd_other δ h4, upd_other δ h5]; exact h
theorem rdC_below {W : World} {lb n₀ k : Nat} {v0 : Value} {ds : List (Sl UInt8)} {x : Sl UInt8} {δ : Nat → Bool} {i : Nat} {wx w' : World} (hb : Below wx.heap.size wx w') (h : rdC W lb n₀ k v0 ds x δ wx) (d5 : δ 5 = false) (h4 : i ≠ 4) (h5 : i ≠ 5) : rdC W lb n₀ k v0 ds x (upd δ i) w' := by
  unfold rdC at h ⊢
  rw [upd_other δ h4, upd_other δ h5]
  have hg : wx.grownBy w' none := ⟨hb.os, hb.tape, hb.output, hb.size, fun k hk _ => hb.block k hk⟩
  exact ⟨⟨h.1.1.trans (Save.of hb), fun h' => (h.1.2 h').trans (hb.mono h.1.1.size)⟩, h.2.1.trans (keeps_below hb), fun h' => (h.2.2.1 h').kept hg (by simp), fun h' => (h.2.2.2.1 h').kept hg (by cases v0.ownBlock <;> simp), fun h' => by rw [d5] at h'; exact absurd h' Bool.false_ne_true⟩
theorem infoRow : (Tryz.prog.info? 31).map (fun i => (i.zero, i.size, i.bytes)) = some (some (.slice none 0 0), 1, 24) := by kernel_rfl

/-- The rows, and the slice of them, lie in blocks from B on. -/
def RowsNew (B : Nat) (a : Option Addr) (ds : List (Sl UInt8)) : Prop := (∀ g, Go.Cit.blk a = some g → B ≤ g) ∧ ∀ d ∈ ds, ∀ g, Go.Cit.blk d.a = some g → B ≤ g

set_option maxRecDepth 100000 in
set_option maxHeartbeats 2000000 in
theorem cut_own (w : World) (a : Option Addr) (l : List UInt8) (c n : Nat) (r : Row w a l c) (hn : 1 ≤ n) (hn9 : n ≤ 9223372036854775807) (hl : l.length ≤ 100000000) :
    Calls Tryz.prog 66 #[.slice a l.length c, .int .i64 n] w fun e w' => ∃ a' ds cp, e = .returned (.slice a' ds.length cp) ∧ ds.map (·.l) = cutL n l ∧ Rows w' a' ds cp ∧ RowsNew w.heap.size a' ds ∧ Below w.heap.size w w' := by
  have t1 : decide ((n : Int) < 1) = false := by simp; omega
  refine (callsIn_wide (n := 3)).1 ?_
  refine callsIn_of_wp_marks Tryz.func66 rfl trivial ?_ rfl
  simp only [Tryz.ntmps66, List.size_toArray, List.length_cons, List.length_nil, Nat.reduceAdd, Nat.reduceSub, Array.replicate_succ, Array.replicate_zero, List.push_toArray, List.append_toArray, List.nil_append, List.cons_append]
  gi_wp2_with (refine ⟨trivial, ?_⟩; gi_at_call 80; refine (callsIn_wide.2 (piecesf_calls _ _ _ _ _)).mono ?_; rintro e w' ⟨rfl, rfl⟩)
  have hmix : Tryz.prog.follows .mixedOrders = true := by kernel_rfl
  have bL := Boxed.new w 105 (.slice none 0 0)
  have hB0 : Below w.heap.size w (((w.alloc (.cells #[.slice none 0 0] 105)).alloc (.cells #[.slice a l.length c] 31)).alloc (.cells #[.int .i64 n] 3)) :=
    (((Below.refl _ w).alloc (Nat.le_refl _) _).alloc (by simp) _).alloc (by simp; omega) _
  have hsz : (((w.alloc (.cells #[.slice none 0 0] 105)).alloc (.cells #[.slice a l.length c] 31)).alloc (.cells #[.int .i64 n] 3)).heap.size = w.heap.size + 3 := by simp
  have bC : (((w.alloc (.cells #[.slice none 0 0] 105)).alloc (.cells #[.slice a l.length c] 31)).alloc (.cells #[.int .i64 n] 3)).heap[w.heap.size + 1]? = some (.cells #[.slice a l.length c] 31 (0, 0)) := by
    have := Boxed.new (w.alloc (.cells #[.slice none 0 0] 105)) 31 (.slice a l.length c)
    rw [World.size_alloc] at this
    exact this.alloc _
  have bN : (((w.alloc (.cells #[.slice none 0 0] 105)).alloc (.cells #[.slice a l.length c] 31)).alloc (.cells #[.int .i64 n] 3)).heap[w.heap.size + 2]? = some (.cells #[.int .i64 n] 3 (0, 0)) := by
    have := Boxed.new ((w.alloc (.cells #[.slice none 0 0] 105)).alloc (.cells #[.slice a l.length c] 31)) 3 (.int .i64 n)
    rw [World.size_alloc, World.size_alloc] at this
    exact this
  have bL := (bL.alloc (.cells #[.slice a l.length c] 31)).alloc (.cells #[.int .i64 n] 3)
  generalize (((w.alloc (.cells #[.slice none 0 0] 105)).alloc (.cells #[.slice a l.length c] 31)).alloc (.cells #[.int .i64 n] 3)) = w0 at hB0 hsz bC bN bL
  have hg : l ≠ [] → ∀ g, Go.Cit.blk a = some g → (g < w.heap.size + 3 ∧ g ≠ w.heap.size) ∧ g ≠ w.heap.size + 1 := by
    intro hne g e
    obtain ⟨b, off, rfl⟩ := r.spot hne
    have := r.blk (i := 0) (List.length_pos_iff.2 hne)
    simp [Go.Cit.blk] at e
    simp [ad] at this
    omega
  refine wpIn_range_cells rfl (by decide) (gf := 91) (lb := #[.pointer (some ⟨w.heap.size + 1, 0, none⟩), .pointer (some ⟨w.heap.size + 1 + 1, 0, none⟩)]) rfl trivial (enters_of Tryz.func91 (by kernel_rfl) rfl)
    (C := (· = w.heap.size + 1)) (fun c hc => by omega)
    (pieces_gives (3 - 1) w0 (w.heap.size + 1) (w.heap.size + 1 + 1) w.heap.size (w.heap.size + 3) a l c n hn hn9 (by omega) (by omega) (by omega) (by omega) (by omega) bC bN (r.stay hB0) hg)
    (fun h k => Save.trans h k) (fun W L o o' hL ho hc => ⟨rfl, rfl, rfl, by simp, fun k _ hk => World.putObj_heap_other (by omega)⟩) (fun x => rfl)
    (fun x W L o o' hL ho hc hx => ?fx) (CutI w) (by rw [hsz]; exact cutI_apart w) ?h0
    (fun x => { tmps := #[.slice a l.length c, .int .i64 n, undef, undef, .slice none 0 0, .pointer (some ⟨w.heap.size, 0, none⟩), sv x, .int .i64 n, .bool false, .slice a l.length c, .int .i64 n,
      .func (.func 91) #[] #[.pointer (some ⟨w.heap.size + 1, 0, none⟩), .pointer (some ⟨w.heap.size + 1 + 1, 0, none⟩)], sv x, undef, undef, undef, undef, undef, undef], defers := [] }) ?assign ?body ?done
  case fx =>
    refine ⟨?_, hx.2⟩
    replace hx := hx.1
    refine ⟨hx.le, hx.top, hx.nil, hx.spot, fun i hi => ?_⟩
    rw [World.cell?_of_block (w := W)]
    · exact hx.cell i hi
    · refine World.putObj_heap_other fun e => ?_
      have h1 := hx.cell i hi
      rw [World.cell?, e, ho] at h1
      cases o <;> simp_all [Obj.isCells]
  case h0 => exact ⟨_, [], bL, World.ownsRow_nil _ _ _ _, rfl, fun d hd => by simp at hd, hB0, by omega⟩
  case assign =>
    intro L x W K hK
    gi_wp2
    exact hK
  case body =>
    rintro L pre x W ⟨v, ds, hv, hrow, hds, hown, hB, hsW⟩ hN ⟨rx, hx9⟩
    have hc := hv.cell
    replace hx9 : x.l.length ≤ 1000000000 := by omega
    have HDS := Lib.hid hds
    have HOWN := Lib.hid hown
    clear hds hown
    gi_wp2
    have hvb : ∀ g, v.ownBlock = some g → g < W.heap.size := fun g e => (hrow.lt g e).2
    refine region_in_round hmix (by kernel_rfl) (fun _ _ h => h) (ph_any (rdC W w.heap.size (w.heap.size + 3) pre.length v ds x) (rdG w.heap.size v) (rdT W (w.heap.size + 3) pre.length v ds x) (by kernel_rfl) ?_ ?_ ?_ ?_)
    · intro w' hb hh
      refine ⟨⟨Save.of hb, fun _ => hb⟩, keeps_below hb, fun _ => ?_, fun _ => ?_, fun h => absurd h Bool.false_ne_true⟩
      · exact (by rw [hh] : w'.heap[w.heap.size]? = W.heap[w.heap.size]?).trans hv
      · exact hrow.kept (row := none) ⟨hb.os, hb.tape, hb.output, hb.size, fun k hk _ => hb.block k hk⟩ (by cases v.ownBlock <;> simp)
    · intro δ i j o u wx w' ho hij _ hj hi hc hG hT
      rcases hd : o.dst with _ | d
      · exact tyP_none hd _ _
      · rw [tyP_some hd] at hT ⊢
        refine rdT_stay (by omega) hsW hvb (fun h17 e4 => ?_) hG hT
        subst h17
        have := only_spec (d := 17) (j := 4) (by kernel_rfl) ho hd
        omega
    · refine opsAll_cons ?_ (opsAll_cons ?_ (opsAll_cons ?_ (opsAll_cons ?_ (opsAll_cons ?_ (opsAll_cons ?_ opsAll_nil)))))
      all_goals intro δ wa wx hk
      · have hbx := hk.inv.2.2.1 (hk.closed.yet 7 5 0 (by kernel_rfl) hk.yet)
        refine ⟨wanted_free rfl, gp_load (.tmp 5) rfl (hk.old 5 (by kernel_rfl)) (by simp [go_sem, hbx.cell]) ⟨Below.refl _ _, rdC_pure hk.inv (by decide) (by decide), rfl⟩⟩
      · exact ⟨wanted_free rfl, gp_move (.tmp 6) rfl ⟨Below.refl _ _, rdC_pure hk.inv (by decide) (by decide), hk.old 6 (by kernel_rfl)⟩⟩
      · have h4 := hk.closed.yet 7 4 2 (by kernel_rfl) hk.yet
        have h5 := hk.closed.yet 7 5 2 (by kernel_rfl) hk.yet
        have rx' := rx.stay (hk.inv.1.2 h4)
        refine ⟨wanted_free rfl, gp_call rfl (hk.fn _) #[sv x] (fun w => by kernel_rfl) (by simp [show wa.eval (.tmp 14) = sv x from hk.slot 14 (by kernel_rfl)]) ((clone_calls wx _ _ _ rx' hx9).mono ?_)⟩
        rintro e w'' ⟨a', c', rfl, ho, hb⟩
        exact ⟨_, rfl, hb, rdC_below hb hk.inv h5 (by decide) (by decide), ⟨a', c', x.l⟩, rfl, rfl, ho.low hk.inv.1.1.size⟩
      · have h4 := hk.closed.yet 7 4 3 (by kernel_rfl) hk.yet
        have h5 := hk.closed.yet 7 5 3 (by kernel_rfl) hk.yet
        obtain ⟨y, hy, hyl, hyo⟩ := hk.slot 15 (by kernel_rfl)
        have hb := (Below.refl wx.heap.size wx).alloc (Nat.le_refl _) (.cells #[sv y] 31)
        refine ⟨wanted_free rfl, gp_run (v := .slice (some ⟨wx.heap.size, 0, none⟩) 1 1) (w' := wx.alloc (.cells #[sv y] 31)) ?_ ⟨hb, rdC_below hb hk.inv h5 (by decide) (by decide), y, wx.heap.size, rfl, hk.inv.1.1.size, by simp, (Boxed.new wx 31 (sv y)).cell, hyl, hyo.alloc _⟩⟩
        exact build_one (.tmp 15) rfl hy wx
      · have h5 := hk.closed.yet 7 5 4 (by kernel_rfl) hk.yet
        obtain ⟨y, g, hy, hg1, hg2, hyc, hyl, hyo⟩ := hk.slot 16 (by kernel_rfl)
        refine ⟨wanted_free rfl, gp_append_own (.tmp 13) (.tmp 16) 105 rfl (w.heap.size + 3) 31 (.slice none 0 0) 1 24 Tryz.underlying105 infoRow rfl (by decide) (hk.slot 13 (by kernel_rfl)) (hk.inv.2.2.2.1 hk.yet) hy (news := [sv y]) rfl ?_ ?_ ?_ ?_ ?_ ?_⟩
        · intro j u hu
          match j with
          | 0 => simp at hu; subst hu; simpa [Addr.add] using hyc
          | j + 1 => simp at hu
        · intro u hu; simp at hu; subst hu; rfl
        · unfold maxLen; omega
        · omega
        · exact Nat.le_trans hsW hk.inv.1.1.size
        · intro v' w' hown' hgr
          refine ⟨hgr, ⟨⟨hk.inv.1.1.trans ((Save.grown hgr).less fun j _ hj => Ne.symm hj.2.2), fun h => absurd h (by rw [upd_same]; decide)⟩, hk.inv.2.1.trans ?_, fun h => (hk.inv.2.2.1 h5).kept hgr ?_, fun h => absurd h (by rw [upd_same]; decide), fun h => ?_⟩, y, hown', hyl, ?_⟩
          · exact row_keeps (hk.inv.2.2.2.1 hk.yet) hgr
          · intro e; have := (hrow.lt _ e.symm).1; omega
          · rw [upd_other δ (by decide), h5] at h; exact absurd h Bool.false_ne_true
          · exact hyo.save (Save.grown hgr) fun g hg e => by have := hvb g e.symm; have := (hyo.blk_ge hg).1; omega
      · obtain ⟨y, hown', hyl, hyo⟩ := hk.slot 17 (by kernel_rfl)
        have hbx := hk.inv.2.2.1 hk.yet
        have hcell := hbx.cell
        have hfree := hbx.frozen
        obtain ⟨g', cap', hv'⟩ := ownsRow_succ hown'
        refine ⟨wanted_free rfl, gp_store (.tmp 5) (.tmp 17) rfl (hk.old 5 (by kernel_rfl)) hv' (w' := wx.setCell ⟨w.heap.size, 0, none⟩ (.slice (some ⟨g', 0, none⟩) (pre.length + 1) cap')) (by simp [go_sem, hcell, hfree]) ⟨⟨_, rfl⟩, ⟨⟨hk.inv.1.1.trans (Save.set.less fun k _ hk => hk.2.1), fun h => ?_⟩, hk.inv.2.1.trans (KeepsOthers.setCell _ _ _), fun h => absurd h (by rw [upd_same]; decide), fun h => ?_, fun _ => ⟨_, y, hbx.set _, ?_, ?_, hyl⟩⟩, trivial⟩⟩
        · rw [upd_other δ (by decide)] at h
          have := hk.next.needs 7 5 4 (by kernel_rfl) (upd_same _ _)
          rw [upd_other δ (by decide), h] at this; exact absurd this Bool.false_ne_true
        · rw [upd_other δ (by decide)] at h
          have := hk.next.needs 7 5 4 (by kernel_rfl) (upd_same _ _)
          rw [upd_other δ (by decide), h] at this; exact absurd this Bool.false_ne_true
        · rw [hv'] at hown'
          refine hown'.kept (grownBy_setCell' wx w.heap.size _) (.inr ?_)
          have := (hown'.lt g' rfl).1
          simp [Value.ownBlock]; omega
        · exact hyo.save (S := (· ≠ w.heap.size)) Save.set fun g hg => by have := (hyo.blk_ge hg).1; omega
    · intro δ wa wx hall hc hsame hT
      exact cut_final hrow HDS.out HOWN.out hB hsW hc (hall 5 (by decide))
  case done =>
    rintro D xs W hD hS ⟨v, ds, hv, hrow, hds, hown, hB, hsW⟩ hK
    have hc := hv.cell
    gi_wp2
    refine ⟨by simp, .inl ⟨_, _, rfl, run_takeDeferred hK, ?_⟩⟩
    have hdl : xs.length = ds.length := by have := congrArg List.length hds; simpa using this.symm
    rw [hdl] at hrow
    have hrow := ownsRow_apart hrow (grownBy_putObj' W D (.deferred none)) (fun r e => by cases e; exact .inr ⟨_, hK, rfl⟩)
    have hown2 : ∀ d ∈ ds, Go.Cit.Own 5 (w.heap.size + 3) (W.putObj D (.deferred none)) d.a d.l d.c := fun d hd => ⟨ownsRow_apart (hown d hd).row (grownBy_putObj' W D (.deferred none)) (fun r e => by cases e; exact .inr ⟨_, hK, rfl⟩)⟩
    have hv2 : ∃ a' cp, v = .slice a' ds.length cp ∧ Rows (W.putObj D (.deferred none)) a' ds cp ∧ RowsNew w.heap.size a' ds := by
      rcases hrow.2 with ⟨rfl, h0⟩ | ⟨g, cap, cur, rfl, hge, hg, hle, htop, hsz2, htk⟩
      · obtain rfl : ds = [] := List.eq_nil_of_length_eq_zero h0
        exact ⟨none, 0, rfl, ⟨Nat.le_refl _, Nat.zero_le _, fun _ => rfl, fun h => absurd rfl h, fun i h => by simp at h, fun d hd => by simp at hd⟩, fun g h => by simp [Go.Cit.blk] at h, fun d hd => by simp at hd⟩
      · refine ⟨_, _, rfl, ⟨hle, htop, fun h => by simp at h, fun _ => ⟨g, 0, rfl⟩, fun i hi => ?_, fun d hd => (hown2 d hd).isRow⟩, fun k h => by simp [Go.Cit.blk] at h; omega, fun d hd k h => by have := ((hown2 d hd).blk_ge h).1; omega⟩
        have := hrow.cells (g := g) rfl i (sv ds[i]) (by simp [hi])
        have ea : (⟨g, 0, none⟩ : Addr).add i = ad (some ⟨g, 0, none⟩) i := by unfold Addr.add ad; split <;> simp_all
        rw [← ea]; exact this
    obtain ⟨a', cp, rfl, hrows, hnew⟩ := hv2
    exact ⟨_, results_tmp rfl _ _ _, a', ds, cp, rfl, hds.trans hS, hrows, hnew, hB.trans (belowK_b (w := w) (Nat.le_refl _) W D _ _ (by omega) hK rfl rfl)⟩

theorem cut_calls (w : World) (a : Option Addr) (l : List UInt8) (c n : Nat) (r : Row w a l c) (hn : 1 ≤ n) (hn9 : n ≤ 9223372036854775807) (hl : l.length ≤ 100000000) :
    Calls Tryz.prog 66 #[.slice a l.length c, .int .i64 n] w fun e w' => ∃ a' ds cp, e = .returned (.slice a' ds.length cp) ∧ ds.map (·.l) = cutL n l ∧ Rows w' a' ds cp ∧ Below w.heap.size w w' :=
  (cut_own w a l c n r hn hn9 hl).mono fun _ _ ⟨a', ds, cp, he, hl, hr, _, hb⟩ => ⟨a', ds, cp, he, hl, hr, hb⟩
end Go.Proofs.YtofagofpeedfcaaGreat

/- bytes.Repeat of one byte, words.Padded: walked. -/
namespace Go.Proofs.YtofagofpeedfcaaGreat
open Go Go.RowKit Go.Cit

/-- copy(nb[bp:], nb[:ch]): the buffer nb is filled up to bp, with one byte over and over. -/
theorem copy_self {P : Program} (w0 wr : World) (h N bp ch C : Nat) (x : UInt8) (t ty e : TypeId) (hu : P.underlying t = some (.slice e)) (hs : (P.info? e).map (·.size) = some 1)
    (hb : Lib.Buf w0 wr h N (List.replicate bp x)) (hch : ch ≤ bp) (hlt : bp < N) :
    ∃ wr', (Builtin.copy_ #[t, t] ty #[Lib.tailV h N bp, .slice (some ⟨h, 0, none⟩) ch C]).run P wr = .ok (.int .i64 ((min ch (N - bp) : Nat) : Int)) wr' ∧ Lib.Buf w0 wr' h N (List.replicate (bp + min ch (N - bp)) x) := by
  obtain ⟨m, hm⟩ : ∃ m, min ch (N - bp) = m := ⟨_, rfl⟩
  have hr := run_copy_cells (P := P) wr t t ty e h bp (N - bp) (N - bp) ⟨h, 0, none⟩ ch C (List.replicate m (vb x)) hu hs (by rw [List.length_replicate, ← hm])
    (fun j v hj => by
      have hjm : j < m := by have := (List.getElem?_eq_some_iff.1 hj).1; simpa using this
      have hv : v = vb x := by
        rw [List.getElem?_replicate, if_pos hjm] at hj; exact (Option.some.inj hj).symm
      have ea : (⟨h, 0, none⟩ : Addr).add j = ⟨h, j, none⟩ := by unfold Addr.add; split <;> simp_all
      rw [ea, hv]
      exact hb.holds j x (by rw [List.getElem?_replicate, if_pos (by omega)]))
    (fun j hj => by rw [List.length_replicate] at hj; exact hb.there _ (by omega)) (fun j hj => by rw [List.length_replicate] at hj; exact hb.free _ (by omega))
    (fun u hu' => by rw [List.eq_of_mem_replicate hu']; rfl)
  rw [List.length_replicate] at hr
  rw [hm]
  refine ⟨_, by unfold Lib.tailV; rw [if_neg (by omega)]; exact hr, ?_⟩
  have hin := World.cell?_setCells_in h (List.replicate m (vb x)) bp wr (fun j hj => by rw [List.length_replicate] at hj; exact hb.there _ (by omega))
  have hout := World.cell?_setCells_out h (List.replicate m (vb x)) bp wr
  refine ⟨Lib.below_setCells h (Nat.le_refl _) _ _ hb.below, fun j hj => ?_, fun j hj => by rw [World.frozen?_setCells]; exact hb.free j hj, fun j y hy => ?_, by rw [List.length_replicate]; omega⟩
  · by_cases h1 : bp ≤ j ∧ j < bp + m
    · obtain ⟨d, rfl⟩ : ∃ d, j = bp + d := ⟨j - bp, by omega⟩
      rw [hin d (by rw [List.length_replicate]; omega)]
      rfl
    · rw [hout ⟨h, j, none⟩ (fun _ _ => by rw [List.length_replicate]; show j < _ ∨ _ ≤ j; omega)]
      exact hb.there j hj
  · have hjm : j < bp + m := by have := (List.getElem?_eq_some_iff.1 hy).1; simpa using this
    have hyx : y = x := by rw [List.getElem?_replicate, if_pos hjm] at hy; exact (Option.some.inj hy).symm
    subst hyx
    by_cases h1 : j < bp
    · rw [hout ⟨h, j, none⟩ (fun _ _ => Or.inl h1)]
      exact hb.holds j y (by rw [List.getElem?_replicate, if_pos h1])
    · obtain ⟨d, rfl⟩ : ∃ d, j = bp + d := ⟨j - bp, by omega⟩
      rw [hin d (by rw [List.length_replicate]; omega)]
      simp

theorem buf_drew {w0 wr : World} {h N : Nat} {acc : List UInt8} (hb : Lib.Buf w0 wr h N acc) : Lib.Buf w0 wr.drew h N acc :=
  ⟨hb.below.trans (below_drewN _ _ 1), hb.there, hb.free, hb.holds, hb.fits⟩

theorem step_copy_run {P : Program} {w : World} {ops : Array Oper} {o : Oper} {act : Act} {K : Act → World → Prop} {Q : Exit → Act → World → Prop} {F : Prop} (hgd : o.guard = none) (d s : Operand) (t t' : TypeId)
    (ho : o.op = .call { callee := .builtin .copy, args := #[d, s], argTypes := #[t, t'] }) (v u : Value) (hd : act.eval d = v) (hs : act.eval s = u) {v' : Value} {w' : World}
    (hr : (Builtin.copy_ #[t, t'] o.type #[v, u]).run P w = .ok v' w') (h : K (act.put o.dst v') w') : if Region.wanted o (yielded ops act.tmps) = true then Oper.wp P o act w K Q else F := by
  rw [if_pos (by simp [Region.wanted, hgd])]
  exact Lib.wp_copy_run w d s t t' ho v u hd hs hr h

/-- A row and noughts behind it. -/
def padL (l : List UInt8) (n : Int) : List UInt8 := l ++ List.replicate (max (min n 65536 - l.length) 0).toNat 0

end Go.Proofs.YtofagofpeedfcaaGreat

/- Variables that hold a whole array or struct: making, loading, storing them; a result that lies in one. No condition. -/
namespace Go.Cit
open Go Go.RowKit

theorem setRow_same {w : World} {b : Nat} {C C' : Array Value} {T : TypeId} {fr : Nat × Nat} (h : w.heap[b]? = some (.cells C T fr)) : (w.setRow b C').heap[b]? = some (.cells C' T fr) := by
  simp [World.setRow, Array.getElem?_modify, h]
theorem setRow_save (w : World) (b : Nat) (C' : Array Value) : Save (· ≠ b) w (w.setRow b C') := by
  refine ⟨rfl, rfl, rfl, by simp [World.setRow], fun k _ hk => ?_⟩
  simp [World.setRow, Array.getElem?_modify, Ne.symm hk]

section
variable {P : Program} {ops : Array Oper} {rest : List Oper} {o : Oper} {act : Act} {w w' : World} {Q : Exit → Act → World → Prop}
theorem wpList_value {v : Value} (hgd : o.guard = none) (hr : (execOp act.eval o).run P w = .ok (.value v) w')
    (h : wpList P ops Q rest (act.put o.dst v) w') : wpList P ops Q (o :: rest) act w := by
  refine wpList_plain hgd fun K hK => ?_
  unfold Oper.wp
  rw [hr]
  exact hK _ _ h
theorem wpList_skip (hgd : o.guard = none) (hr : (execOp act.eval o).run P w = .ok .skip w')
    (h : wpList P ops Q rest (act.put o.dst undef) w') : wpList P ops Q (o :: rest) act w := by
  refine wpList_plain hgd fun K hK => ?_
  unfold Oper.wp
  rw [hr]
  exact hK _ _ h

/-- A type whose values are rows of n cells. -/
structure RowType (P : Program) (T : TypeId) (n : Nat) : Prop where
  desc : ∃ d, P.underlying T = some d ∧ d.isRow = true
  info : (P.info? T).map (·.size) = some n

theorem run_loadB {T E : TypeId} {b : Nat} {C : Array Value} {fr : Nat × Nat} {d : TypeDesc} (hu : P.underlying T = some d) (hd : d.isRow = true) (hi : (P.info? T).map (·.size) = some C.size) (hb : w.heap[b]? = some (.cells C E fr)) :
    (loadVar T ⟨b, 0, none⟩).run P w = .ok (.agg C) w := by
  have := run_loadVar_mid (P := P) w b 0 T C.toList d (fun j v hv => by
    have hv' : C[j]? = some v := by simpa using hv
    rw [Nat.zero_add, World.cell?, hb]
    exact hv') hu hd (by simpa using hi)
  simpa using this
theorem wpList_loadB {T E : TypeId} {n b : Nat} {C : Array Value} {fr : Nat × Nat} (hT : RowType P T n) (x : Operand) (hgd : o.guard = none) (ho : o.op = .load T x) (hx : act.eval x = .pointer (some ⟨b, 0, none⟩)) (hb : w.heap[b]? = some (.cells C E fr)) (hn : C.size = n)
    (h : wpList P ops Q rest (act.put o.dst (.agg C)) w) : wpList P ops Q (o :: rest) act w := by
  obtain ⟨⟨d, hu, hd⟩, hi⟩ := hT
  have hr := run_loadB (P := P) hu hd (by rw [hi, hn]) hb
  refine wpList_value (w' := w) (v := .agg C) hgd ?_ h
  unfold execOp
  simp only [ho, hx, Sem.run_bind, Instr.loadAt, Instr.sureAddr, Sem.run_pure, Result.andThen, hr]
theorem wpList_storeB {T E : TypeId} {n b : Nat} {C C' : Array Value} (hT : RowType P T n) (x y : Operand) (hgd : o.guard = none) (ho : o.op = .store T x y) (hd : o.dst = none) (hx : act.eval x = .pointer (some ⟨b, 0, none⟩)) (hy : act.eval y = .agg C') (hb : w.heap[b]? = some (.cells C E (0, 0)))
    (hn : C.size = n) (hn' : C'.size = n) (h1 : C'.all (·.oneCell') = true)
    (h : ∀ w', w'.heap[b]? = some (.cells C' E (0, 0)) → Save (· ≠ b) w w' → wpList P ops Q rest act w') : wpList P ops Q (o :: rest) act w := by
  have hr := run_storeVar_row (P := P) w b E T C C' hb (by rw [hT.info, hn']) (by rw [hn, hn']) h1
  refine wpList_skip (w' := w.setRow b C') hgd ?_ ?_
  · unfold execOp
    simp only [ho, hx, hy, Sem.run_bind, Instr.storeAt, Instr.sureAddr, Sem.run_pure, Result.andThen, hr]
  · rw [hd]; exact h _ (setRow_same hb) (setRow_save _ _ _)
end

section
variable {P : Program} {w : World} {fn : Func} {tmps : Array Value}
theorem resB1 {T E : TypeId} {n b a : Nat} {C : Array Value} {fr : Nat × Nat} (hT : RowType P T n) (hf : fn.results = #[.cell a T]) (ha : tmps.getD a undef = .pointer (some ⟨b, 0, none⟩)) (hb : w.heap[b]? = some (.cells C E fr)) (hn : C.size = n) :
    (results fn tmps).run P w = .ok (.agg C) w := by
  obtain ⟨⟨d, hu, hd⟩, hi⟩ := hT
  have hr := run_loadB (P := P) hu hd (by rw [hi, hn]) hb
  have ha2 : tmps[a]?.getD undef = .pointer (some ⟨b, 0, none⟩) := by rw [← Array.getD_eq_getD_getElem?]; exact ha
  simp [results, hf, ha2, asAddr, hr]
theorem resB2 {T E : TypeId} {n b a t : Nat} {C : Array Value} {fr : Nat × Nat} (hT : RowType P T n) (hf : fn.results = #[.cell a T, .tmp t]) (ha : tmps.getD a undef = .pointer (some ⟨b, 0, none⟩)) (hb : w.heap[b]? = some (.cells C E fr)) (hn : C.size = n) :
    (results fn tmps).run P w = .ok (.tuple #[.agg C, tmps.getD t undef]) w := by
  obtain ⟨⟨d, hu, hd⟩, hi⟩ := hT
  have hr := run_loadB (P := P) hu hd (by rw [hi, hn]) hb
  have ha2 : tmps[a]?.getD undef = .pointer (some ⟨b, 0, none⟩) := by rw [← Array.getD_eq_getD_getElem?]; exact ha
  simp [results, hf, ha2, asAddr, hr]
end
end Go.Cit

