/- Variables that hold a whole array or struct: making, loading, storing them; a result that lies in one. No condition. -/
import Derived.Test.YtofagofpeedfcaaSave
import Derived.Deep.WholeRow
import Derived.Deep.MidRow
import Derived.Laws.Tables
namespace Go.Cit
open Go Go.RowKit

theorem setRow_same {w : World} {b : Nat} {C C' : Array Value} {T : TypeId} {fr : Nat × Nat} (h : w.heap[b]? = some (.cells C T fr)) : (w.setRow b C').heap[b]? = some (.cells C' T fr) := by
  simp [World.setRow, Array.getElem?_modify, h]
theorem setRow_save (w : World) (b : Nat) (C' : Array Value) : Save (· ≠ b) w (w.setRow b C') := by
  refine ⟨rfl, rfl, rfl, by simp [World.setRow], fun k _ hk => ?_⟩
  simp [World.setRow, Array.getElem?_modify, Ne.symm hk]

section
variable {P : Program} {ops : Array Oper} {rest : List Oper} {o : Oper} {act : Act} {w w' : World} {Q : Exit → Act → World → Prop}
theorem wpList_value {v : Value} (hgd : o.guard = none) (hr : (execOp act.eval o).run P w = .ok (.value v) w')
    (h : wpList P ops Q rest (act.put o.dst v) w') : wpList P ops Q (o :: rest) act w := by
  refine wpList_plain hgd fun K hK => ?_
  unfold Oper.wp
  rw [hr]
  exact hK _ _ h
theorem wpList_skip (hgd : o.guard = none) (hr : (execOp act.eval o).run P w = .ok .skip w')
    (h : wpList P ops Q rest (act.put o.dst undef) w') : wpList P ops Q (o :: rest) act w := by
  refine wpList_plain hgd fun K hK => ?_
  unfold Oper.wp
  rw [hr]
  exact hK _ _ h

/-- A type whose values are rows of n cells. -/
structure RowType (P : Program) (T : TypeId) (n : Nat) : Prop where
  desc : ∃ d, P.underlying T = some d ∧ d.isRow = true
  info : (P.info? T).map (·.size) = some n

theorem run_loadB {T E : TypeId} {b : Nat} {C : Array Value} {fr : Nat × Nat} {d : TypeDesc} (hu : P.underlying T = some d) (hd : d.isRow = true) (hi : (P.info? T).map (·.size) = some C.size) (hb : w.heap[b]? = some (.cells C E fr)) :
    (loadVar T ⟨b, 0, none⟩).run P w = .ok (.agg C) w := by
  have := run_loadVar_mid (P := P) w b 0 T C.toList d (fun j v hv => by
    have hv' : C[j]? = some v := by simpa using hv
    rw [Nat.zero_add, World.cell?, hb]
    exact hv') hu hd (by simpa using hi)
  simpa using this
theorem wpList_loadB {T E : TypeId} {n b : Nat} {C : Array Value} {fr : Nat × Nat} (hT : RowType P T n) (x : Operand) (hgd : o.guard = none) (ho : o.op = .load T x) (hx : act.eval x = .pointer (some ⟨b, 0, none⟩)) (hb : w.heap[b]? = some (.cells C E fr)) (hn : C.size = n)
    (h : wpList P ops Q rest (act.put o.dst (.agg C)) w) : wpList P ops Q (o :: rest) act w := by
  obtain ⟨⟨d, hu, hd⟩, hi⟩ := hT
  have hr := run_loadB (P := P) hu hd (by rw [hi, hn]) hb
  refine wpList_value (w' := w) (v := .agg C) hgd ?_ h
  unfold execOp
  simp only [ho, hx, Sem.run_bind, Instr.loadAt, Instr.sureAddr, Sem.run_pure, Result.andThen, hr]
theorem wpList_storeB {T E : TypeId} {n b : Nat} {C C' : Array Value} (hT : RowType P T n) (x y : Operand) (hgd : o.guard = none) (ho : o.op = .store T x y) (hd : o.dst = none) (hx : act.eval x = .pointer (some ⟨b, 0, none⟩)) (hy : act.eval y = .agg C') (hb : w.heap[b]? = some (.cells C E (0, 0)))
    (hn : C.size = n) (hn' : C'.size = n) (h1 : C'.all (·.oneCell') = true)
    (h : ∀ w', w'.heap[b]? = some (.cells C' E (0, 0)) → Save (· ≠ b) w w' → wpList P ops Q rest act w') : wpList P ops Q (o :: rest) act w := by
  have hr := run_storeVar_row (P := P) w b E T C C' hb (by rw [hT.info, hn']) (by rw [hn, hn']) h1
  refine wpList_skip (w' := w.setRow b C') hgd ?_ ?_
  · unfold execOp
    simp only [ho, hx, hy, Sem.run_bind, Instr.storeAt, Instr.sureAddr, Sem.run_pure, Result.andThen, hr]
  · rw [hd]; exact h _ (setRow_same hb) (setRow_save _ _ _)
end

section
variable {P : Program} {w : World} {fn : Func} {tmps : Array Value}
theorem resB1 {T E : TypeId} {n b a : Nat} {C : Array Value} {fr : Nat × Nat} (hT : RowType P T n) (hf : fn.results = #[.cell a T]) (ha : tmps.getD a undef = .pointer (some ⟨b, 0, none⟩)) (hb : w.heap[b]? = some (.cells C E fr)) (hn : C.size = n) :
    (results fn tmps).run P w = .ok (.agg C) w := by
  obtain ⟨⟨d, hu, hd⟩, hi⟩ := hT
  have hr := run_loadB (P := P) hu hd (by rw [hi, hn]) hb
  have ha2 : tmps[a]?.getD undef = .pointer (some ⟨b, 0, none⟩) := by rw [← Array.getD_eq_getD_getElem?]; exact ha
  simp [results, hf, ha2, asAddr, hr]
theorem resB2 {T E : TypeId} {n b a t : Nat} {C : Array Value} {fr : Nat × Nat} (hT : RowType P T n) (hf : fn.results = #[.cell a T, .tmp t]) (ha : tmps.getD a undef = .pointer (some ⟨b, 0, none⟩)) (hb : w.heap[b]? = some (.cells C E fr)) (hn : C.size = n) :
    (results fn tmps).run P w = .ok (.tuple #[.agg C, tmps.getD t undef]) w := by
  obtain ⟨⟨d, hu, hd⟩, hi⟩ := hT
  have hr := run_loadB (P := P) hu hd (by rw [hi, hn]) hb
  have ha2 : tmps[a]?.getD undef = .pointer (some ⟨b, 0, none⟩) := by rw [← Array.getD_eq_getD_getElem?]; exact ha
  simp [results, hf, ha2, asAddr, hr]
end
end Go.Cit
