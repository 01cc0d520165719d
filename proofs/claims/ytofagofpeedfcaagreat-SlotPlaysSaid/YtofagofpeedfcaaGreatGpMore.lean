/- A region that draws its order, told slot by slot: pick, not, len. No condition. -/
import Derived.Test.YtofagofpeedfcaaGreatGg
namespace Go.Cit
open Go Go.RowKit

section
variable {P : Program} {w : World} {o : Oper} {ρ : Operand → Value} {post : Value → World → Prop}
theorem gp_pick {c x y : Operand} (h : o.op = .pick c x y) (b : Bool) (hc : ρ c = .bool b) (hp : post (if b then ρ x else ρ y) w) : GivesP P post ((execOp ρ o).run P w) := by
  refine gp_run (v := if b then ρ x else ρ y) (w' := w) ?_ hp
  unfold execOp; rw [h]; dsimp only; rw [hc]; rfl
theorem gp_not {ty : TypeId} {x : Operand} (h : o.op = .unOp .not ty x) (b : Bool) (hx : ρ x = .bool b) (hp : post (.bool !b) w) : GivesP P post ((execOp ρ o).run P w) := by
  refine gp_run (v := .bool !b) (w' := w) ?_ hp
  unfold execOp; rw [h]; dsimp only; rw [hx]; rfl
theorem gp_len {ty : TypeId} {x : Operand} (h : o.op = .call { callee := .builtin .len, args := #[x], argTypes := #[ty] }) (hty : P.underlying ty = some (.slice (P.elem ty))) {a : Option Addr} {n c : Nat} (hx : ρ x = .slice a n c) (hp : post (.int .i64 n) w) : GivesP P post ((execOp ρ o).run P w) := by
  refine gp_run (v := .int .i64 n) (w' := w) ?_ hp
  unfold execOp; rw [h]; dsimp only; unfold resolve; dsimp only
  simp [hx, invoke, run_len_slice w ty o.type a n c hty, Result.andThen, go_sem, builtin]
end
end Go.Cit
