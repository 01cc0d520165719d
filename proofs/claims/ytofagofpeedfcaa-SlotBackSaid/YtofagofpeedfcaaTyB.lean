/- Whole arrays, rows of any elements in a region told by kind; guarded operations. No condition. -/
import Derived.Test.YtofagofpeedfcaaGc
import Derived.Test.YtofagofpeedfcaaVec
import Derived.Test.YtofagofpeedfcaaEq
namespace Go.Cit
open Go Go.RowKit

theorem Vec.grow {α : Type} {f : α → List Value} {n : Nat} {w w' : World} {a : Option Addr} {l : List α} {cap : Nat} (h : Vec f n w a l cap) (hf : ∀ x, (f x).length = n) (g : Grow w w') : Vec f n w' a l cap := by
  refine ⟨h.le, h.top, h.nil, h.spot, fun i hi j hj => ?_⟩
  have := h.cell i hi j hj
  have hj' : j < (f l[i]).length := by rw [hf]; exact hj
  rw [List.getElem?_eq_getElem hj'] at this ⊢
  exact g.cell _ _ this
/-- A slice of m elements that reads as l. -/
def tyVec {α : Type} (f : α → List Value) (n : Nat) (hf : ∀ x, (f x).length = n) (l : List α) (m : Nat) : Ty :=
  .pr (fun v w => ∃ a c, v = .slice a m c ∧ Vec f n w a l c) (fun _ _ _ g ⟨a, c, h, k⟩ => ⟨a, c, h, k.grow hf g⟩)

section
variable {P : Program} {B : Nat} {w w' : World} {t : Ty} {o : Oper} {ρ : Operand → Value}
theorem exec_loadB {T E : TypeId} {n b : Nat} {C : Array Value} {fr : Nat × Nat} (hT : RowType P T n) (x : Operand) (ho : o.op = .load T x) (hx : ρ x = .pointer (some ⟨b, 0, none⟩)) (hb : w.heap[b]? = some (.cells C E fr)) (hn : C.size = n) :
    (execOp ρ o).run P w = .ok (.value (.agg C)) w := by
  obtain ⟨⟨d, hu, hd⟩, hi⟩ := hT
  have hr := run_loadB (P := P) hu hd (by rw [hi, hn]) hb
  unfold execOp
  simp only [ho, hx, Sem.run_bind, Instr.loadAt, Instr.sureAddr, Sem.run_pure, Result.andThen, hr]
theorem g_loadB {T E : TypeId} {n b : Nat} {C : Array Value} {fr : Nat × Nat} (hT : RowType P T n) (x : Operand) (ho : o.op = .load T x) (hx : ρ x = .pointer (some ⟨b, 0, none⟩)) (hb : w.heap[b]? = some (.cells C E fr)) (hn : C.size = n)
    (hv : t.ok (.agg C) w) : Gives P B w t ((execOp ρ o).run P w) := by
  rw [exec_loadB hT x ho hx hb hn]
  exact ⟨Below.refl _ _, Grow.refl _, hv⟩
/-- An operation that yields a value and leaves the world. -/
theorem g_value (v : Value) (hrun : (execOp ρ o).run P w = .ok (.value v) w) (hv : t.ok v w) : Gives P B w t ((execOp ρ o).run P w) := by
  rw [hrun]; exact ⟨Below.refl _ _, Grow.refl _, hv⟩
end
section
variable {P : Program} {ops : Array Oper} {rest : List Oper} {o : Oper} {act : Act} {w w' : World} {Q : Exit → Act → World → Prop}
theorem wpList_value_gd {v : Value} (hgd : Region.wanted o (yielded ops act.tmps) = true) (hr : (execOp act.eval o).run P w = .ok (.value v) w')
    (h : wpList P ops Q rest (act.put o.dst v) w') : wpList P ops Q (o :: rest) act w := by
  unfold wpList
  rw [if_pos hgd]
  left
  unfold Oper.wp
  rw [hr]
  exact h
end
end Go.Cit
