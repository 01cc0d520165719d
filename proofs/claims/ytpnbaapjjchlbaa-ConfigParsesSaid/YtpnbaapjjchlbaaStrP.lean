/- A plain region: bytes to a string, a guarded value. -/
import Derived.Test.YtpnbaapjjchlbaaGt
namespace Go.Cit
open Go Go.RowKit
section
variable {P : Program} {ops : Array Oper} {rest : List Oper} {o : Oper} {act : Act} {w w' : World} {Q : Exit → Act → World → Prop}
theorem wpList_value_gd {v : Value} (hgd : Region.wanted o (yielded ops act.tmps) = true) (hr : (execOp act.eval o).run P w = .ok (.value v) w')
    (h : wpList P ops Q rest (act.put o.dst v) w') : wpList P ops Q (o :: rest) act w := by
  unfold wpList
  rw [if_pos hgd]
  left
  unfold Oper.wp
  rw [hr]
  exact h
end
end Go.Cit
namespace Go.Proofs.Ytpnbaapjjchlbaa
open Go Go.RowKit Go.Cit
theorem exec_conv {w : World} {o : Oper} {ρ : Operand → Value} {x : Operand} {a : Option Addr} {l : List UInt8} {n c : Nat} (h : o.op = .convert 41 9 x) (hx : ρ x = .slice a n c) (hn : l.length = n) (hr : Row w a l c) :
    (execOp ρ o).run Try.prog w = .ok (.value (.string ⟨l.toArray⟩)) w := by
  subst hn
  unfold execOp; rw [h]; dsimp only; rw [hx]
  rw [Sem.run_bind, row_str hr]; rfl
theorem small_can {V : CfgV} (h : canV V = true) : SmallV V := by
  obtain ⟨h1, h2, h3, h4⟩ := can_spec h
  refine ⟨by omega, by omega, by omega, fun x hx => ?_⟩
  have := List.any_eq_false.1 h4 x hx
  simp only [longP, decide_eq_true_eq] at this
  omega
end Go.Proofs.Ytpnbaapjjchlbaa
