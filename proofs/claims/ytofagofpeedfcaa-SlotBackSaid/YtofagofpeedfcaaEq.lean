/- Arrays of bytes, of words, compared. No condition. -/
import Derived.Test.YtofagofpeedfcaaGa
import Derived.DeepKeys
import Derived.Laws.StructEq
namespace Go.Cit
open Go Go.RowKit

theorem mapM_some {α β : Type} {f : α → Option β} {g : α → β} : ∀ l : List α, (∀ i ∈ l, f i = some (g i)) → l.mapM f = some (l.map g)
  | [], _ => rfl
  | i :: l, h => by
    rw [List.mapM_cons, h i (by simp), mapM_some l (fun j hj => h j (by simp [hj]))]
    rfl
section
variable {P : Program} {T E : TypeId} {n : Nat} {k : IntKind}
/-- T is an array of n numbers of kind k. -/
structure IntsType (P : Program) (T E : TypeId) (n : Nat) (k : IntKind) : Prop where
  arr : P.underlying T = some (.array n E)
  int : P.underlying E = some (.int k)
  cells : P.cellsOf T = n
  one : P.cellsOf E = 1
  key : P.keyTypeAt 2 T = true
  guard : P.eqGuardType P.depth T = false

theorem keyLits_ints (h : IntsType P T E n k) (zs : List Int) (hl : zs.length = n) (hw : ∀ z ∈ zs, (Lit.int k z).wf = true) : P.keyLits 2 T (zs.map (Value.int k)) = some (zs.map (Lit.int k)) := by
  unfold Program.keyLits
  simp only [h.arr]
  rw [if_pos (by rw [List.length_map, h.cells, hl])]
  have e : (List.range n).mapM (fun i => P.keyLits 1 E (((zs.map (Value.int k)).drop (i * P.cellsOf E)).take (P.cellsOf E))) = some ((List.range n).map fun i => [Lit.int k (zs.getD i 0)]) := by
    refine mapM_some _ fun i hi => ?_
    have hi' : i < zs.length := by rw [hl]; exact List.mem_range.1 hi
    rw [h.one, Nat.mul_one, List.drop_eq_getElem_cons (by simpa using hi'), List.take_succ_cons, List.take_zero]
    unfold Program.keyLits
    simp only [h.int]
    rw [List.getElem_map]
    simp only [hw _ (List.getElem_mem hi'), and_self, if_true]
    simp [hi']
  rw [e]
  simp only [Option.map_some, Option.some.injEq]
  have hfl : ∀ l : List Nat, (l.map fun i => [Lit.int k (zs.getD i 0)]).flatten = l.map fun i => Lit.int k (zs.getD i 0) := by
    intro l
    induction l with
    | nil => rfl
    | cons a l ih => rw [List.map_cons, List.flatten_cons, ih]; rfl
  rw [hfl]
  apply List.ext_getElem
  · simp [hl]
  · intro i h1 h2
    have hi : i < zs.length := by simpa using h2
    simp [hi]
theorem run_eq_ints (h : IntsType P T E n k) (zs ys : List Int) (hl : zs.length = n) (hm : ys.length = n) (hw : ∀ z ∈ zs, (Lit.int k z).wf = true) (hv : ∀ z ∈ ys, (Lit.int k z).wf = true) (w : World) :
    (Op.equalIn 10000 T (.agg (zs.map (Value.int k)).toArray) (.agg (ys.map (Value.int k)).toArray)).run P w = .ok (decide (zs = ys)) w := by
  have hf : ∀ l : List Int, l.length = n → (Value.agg (l.map (Value.int k)).toArray).formed P T = true := by
    intro l hl
    simp [Value.formed, h.arr, h.cells, hl]
  obtain ⟨r, hr, hiff⟩ := run_equalIn_deep (P := P) 9998 2 T h.key w 2 2 _ _ _ _ (hf zs hl) (hf ys hm) (by simpa [Value.cells] using keyLits_ints h zs hl hw) (by simpa [Value.cells] using keyLits_ints h ys hm hv)
  have hinj : (zs.map (Lit.int k) = ys.map (Lit.int k)) ↔ zs = ys := by
    constructor
    · intro e
      exact (List.map_inj_right (by intro a b hab; injection hab)).1 e
    · rintro rfl; rfl
  rw [hinj] at hiff
  rw [hr]
  congr 1
  rw [Bool.eq_iff_iff, decide_eq_true_iff]; exact hiff
end
section
variable {P : Program} {T E : TypeId} {n : Nat}
theorem run_eq_bytes (h : IntsType P T E n .u8) (l m : List UInt8) (hl : l.length = n) (hm : m.length = n) (w : World) :
    (Op.equalIn 10000 T (.agg (l.map vb).toArray) (.agg (m.map vb).toArray)).run P w = .ok (decide (l = m)) w := by
  have wf : ∀ l : List UInt8, ∀ z ∈ l.map (fun x => (x.toNat : Int)), (Lit.int .u8 z).wf = true := by
    intro l z hz
    obtain ⟨x, _, rfl⟩ := List.mem_map.1 hz
    have := b_lt x
    simp [Lit.wf, IntKind.min, IntKind.max, IntKind.bits, IntKind.signed]; omega
  have := run_eq_ints h (l.map fun x => (x.toNat : Int)) (m.map fun x => (x.toNat : Int)) (by simpa using hl) (by simpa using hm) (wf l) (wf m) w
  rw [List.map_map, List.map_map] at this
  refine this.trans ?_
  congr 1
  rw [Bool.eq_iff_iff, decide_eq_true_iff, decide_eq_true_iff]
  exact List.map_inj_right (by intro a b hab; exact UInt8.toNat_inj.1 (by omega))
theorem run_eq_words (h : IntsType P T E n .u32) (l m : List UInt32) (hl : l.length = n) (hm : m.length = n) (w : World) :
    (Op.equalIn 10000 T (.agg (l.map vw).toArray) (.agg (m.map vw).toArray)).run P w = .ok (decide (l = m)) w := by
  have wf : ∀ l : List UInt32, ∀ z ∈ l.map (fun x => (x.toNat : Int)), (Lit.int .u32 z).wf = true := by
    intro l z hz
    obtain ⟨x, _, rfl⟩ := List.mem_map.1 hz
    have := w_lt x
    simp [Lit.wf, IntKind.min, IntKind.max, IntKind.bits, IntKind.signed]; omega
  have := run_eq_ints h (l.map fun x => (x.toNat : Int)) (m.map fun x => (x.toNat : Int)) (by simpa using hl) (by simpa using hm) (wf l) (wf m) w
  rw [List.map_map, List.map_map] at this
  refine this.trans ?_
  congr 1
  rw [Bool.eq_iff_iff, decide_eq_true_iff, decide_eq_true_iff]
  exact List.map_inj_right (by intro a b hab; exact UInt32.toNat_inj.1 (by omega))
end
section
variable {P : Program} {T : TypeId} {C D : Array Value} {r : Bool}
/-- == and != of two aggregates. -/
theorem run_eql_op (hg : P.eqGuardType P.depth T = false) (x y : Operand) (h : ∀ w, (Op.equalIn 10000 T (.agg C) (.agg D)).run P w = .ok r w) : ∀ w, (do eqGuard .eql T x y (.agg C) (.agg D); binOp .eql T (.agg C) (.agg D) : Sem Value).run P w = .ok (.bool r) w := by
  intro w
  rw [Sem.run_bind, run_eqGuard_agg w .eql T x y C D hg]
  simp only [Result.andThen_ok, run_eql_struct, h]
theorem run_neq_op (hg : P.eqGuardType P.depth T = false) (x y : Operand) (h : ∀ w, (Op.equalIn 10000 T (.agg C) (.agg D)).run P w = .ok r w) : ∀ w, (do eqGuard .neq T x y (.agg C) (.agg D); binOp .neq T (.agg C) (.agg D) : Sem Value).run P w = .ok (.bool (!r)) w := by
  intro w
  rw [Sem.run_bind, run_eqGuard_agg w .neq T x y C D hg]
  simp only [Result.andThen_ok, run_neq_struct, h]
theorem exec_bin {op : BinOp} {ty : TypeId} {v1 v2 v : Value} {ρ : Operand → Value} {o : Oper} {x y : Operand} (ho : o.op = .binOp op T x y ty) (hx : ρ x = v1) (hy : ρ y = v2) (hr : ∀ w, (do eqGuard op T x y v1 v2; binOp op T v1 v2 : Sem Value).run P w = .ok v w) (w : World) :
    (execOp ρ o).run P w = .ok (.value v) w := by
  have := hr w
  unfold execOp
  simp only [ho, hx, hy]
  generalize (do eqGuard op T x y v1 v2; binOp op T v1 v2 : Sem Value) = s at this
  simp only [Sem.run_bind, this, Result.andThen_ok, Sem.run_pure]
end
end Go.Cit
