/- Whole arrays in a region that draws its order; a box made. No condition. -/
import Derived.Test.YtofagofpeedfcaaBox
import Derived.Test.YtofagofpeedfcaaPhaseSt
namespace Go.Cit
open Go Go.RowKit

section
variable {P : Program} {ops : Array Oper} {rest : List Oper} {o : Oper} {act : Act} {w w' : World} {Q : Exit → Act → World → Prop} {ρ : Operand → Value} {post : Value → World → Prop}
theorem run_boxB {T : TypeId} {C : Array Value} (x : Operand) (ho : o.op = .box T x) (hx : ρ x = .agg C) : (execOp ρ o).run P w = .ok (.value (.pointer (some ⟨w.heap.size, 0, none⟩))) (w.alloc (.cells C T)) := by
  unfold execOp
  simp only [ho, Sem.run_bind, Instr.box, newVar, newRow, run_newObj_alloc, Sem.run_pure, Result.andThen_ok, hx]
  rfl
theorem wpList_boxB {T : TypeId} {C : Array Value} (x : Operand) (hgd : o.guard = none) (ho : o.op = .box T x) (hx : act.eval x = .agg C)
    (h : wpList P ops Q rest (act.put o.dst (.pointer (some ⟨w.heap.size, 0, none⟩))) (w.alloc (.cells C T))) : wpList P ops Q (o :: rest) act w :=
  wpList_value hgd (run_boxB x ho hx) h
theorem gp_loadB {T E : TypeId} {n b : Nat} {C : Array Value} {fr : Nat × Nat} (hT : RowType P T n) (x : Operand) (ho : o.op = .load T x) (hx : ρ x = .pointer (some ⟨b, 0, none⟩)) (hb : w.heap[b]? = some (.cells C E fr)) (hn : C.size = n)
    (h : post (.agg C) w) : GivesP P post ((execOp ρ o).run P w) := by
  obtain ⟨⟨d, hu, hd⟩, hi⟩ := hT
  have hr := run_loadB (P := P) hu hd (by rw [hi, hn]) hb
  refine gp_run (w' := w) (v := .agg C) ?_ h
  unfold execOp
  simp only [ho, hx, Sem.run_bind, Instr.loadAt, Instr.sureAddr, Sem.run_pure, Result.andThen, hr]
theorem gp_storeB {T E : TypeId} {n b : Nat} {C C' : Array Value} (hT : RowType P T n) (x y : Operand) (ho : o.op = .store T x y) (hx : ρ x = .pointer (some ⟨b, 0, none⟩)) (hy : ρ y = .agg C') (hb : w.heap[b]? = some (.cells C E (0, 0)))
    (hn : C.size = n) (hn' : C'.size = n) (h1 : C'.all (·.oneCell') = true)
    (h : ∀ w', w'.heap[b]? = some (.cells C' E (0, 0)) → Save (· ≠ b) w w' → post undef w') : GivesP P post ((execOp ρ o).run P w) := by
  have hr := run_storeVar_row (P := P) w b E T C C' hb (by rw [hT.info, hn']) (by rw [hn, hn']) h1
  refine gp_skip (w' := w.setRow b C') ?_ (h _ (setRow_same hb) (setRow_save _ _ _))
  unfold execOp
  simp only [ho, hx, hy, Sem.run_bind, Instr.storeAt, Instr.sureAddr, Sem.run_pure, Result.andThen, hr]
theorem gp_copy {t t' : TypeId} {v u v' : Value} {w' : World} (d s : Operand) (ho : o.op = .call { callee := .builtin .copy, args := #[d, s], argTypes := #[t, t'] }) (hd : ρ d = v) (hs : ρ s = u)
    (hr : (Builtin.copy_ #[t, t'] o.type #[v, u]).run P w = .ok v' w') (h : post v' w') : GivesP P post ((execOp ρ o).run P w) := by
  refine gp_run (w' := w') (v := v') ?_ h
  unfold execOp
  simp only [ho, resolve, invoke, builtin, Sem.run_bind, Sem.run_pure, Result.andThen_ok, List.map_toArray, List.map_cons, List.map_nil, hd, hs, hr]
theorem gp_slice' {ty : TypeId} {x : Operand} {lo hi mx : Option Operand} (h : o.op = .slice ty x lo hi mx) {vx v : Value} {vl vh vm : Option Value} (hx : ρ x = vx) (hl : lo.map ρ = vl) (hh : hi.map ρ = vh) (hm : mx.map ρ = vm)
    (hr : (Instr.sliceAt ty vx vl vh vm).run P w = .ok v w) (hp : post v w) : GivesP P post ((execOp ρ o).run P w) := by
  refine gp_run (w' := w) (v := v) ?_ hp
  unfold execOp
  simp only [h, hx, hl, hh, hm, Sem.run_bind, hr, Result.andThen, Sem.run_pure]
end
end Go.Cit
