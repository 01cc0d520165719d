/- A region that draws its order, whose operations only read, and whose callees leave alone what lay there: walked once, in the order of the text. No condition. -/
import Derived.Test.YtofagofpeedfcaaGa
namespace Go.Cit
open Go Go.RowKit

/-- A world in which what lay in w lies as it lay. -/
structure After (w : World) where
  to : World
  bel : Below w.heap.size w to

instance (w : World) : Inhabited (After w) := ⟨⟨w, Below.refl _ _⟩⟩
/-- What is still to be walked (a name that nothing unfolds). -/
structure Wq (P : Program) (ops : Array Oper) (C : World → Prop) (Q : Act → Prop) (l : List Oper) (a : Act) : Prop where
  out : wpQuiet P ops C Q l a
theorem wq_step {P : Program} {ops : Array Oper} {C : World → Prop} {Q : Act → Prop} {a : Act} {o : Oper} {rest : List Oper}
    (h : ∀ K : Act → Prop, (∀ a, Wq P ops C Q rest a → K a) → if Region.wanted o (yielded ops a.tmps) then o.quiet P a C K else K (a.put o.dst undef)) : Wq P ops C Q (o :: rest) a :=
  ⟨wpQuiet_step fun K hK => h K fun a ha => hK a ha.out⟩
theorem wq_nil {P : Program} {ops : Array Oper} {C : World → Prop} {Q : Act → Prop} {a : Act} (h : Q a) : Wq P ops C Q [] a := ⟨wpQuiet_nil h⟩
theorem wp_region_after {P : Program} {id : Nat} {Q : Exit → Act → World → Prop} {a : Act} {w : World} {l : List Oper} (hm : P.follows .mixedOrders = true) (hB : Region.lexB .any l.toArray = true)
    (h : Wq P l.toArray (fun w' => ∃ q : After w, w' = q.to) (fun a' => ∀ w', (∃ q : After w, w' = q.to) → Q .normal a' w') l a) : (Code.region id l.toArray true).wp P Q a w :=
  wp_region_quiet (C := fun w' => ∃ q : After w, w' = q.to) hm hB ⟨⟨_, (Below.refl _ w).drew⟩, rfl⟩ (by simpa using h.out)
theorem after_calls {P : Program} {f : FuncId} {args : Array Value} {w : World} {q : After w} {v : Value}
    (h : Calls P f args q.to fun e w' => e = .returned v ∧ Below q.to.heap.size q.to w') : Calls P f args q.to fun e w'' => e = .returned v ∧ ∃ p : After w, w'' = p.to :=
  h.mono fun _ _ ⟨he, hb⟩ => ⟨he, ⟨_, q.bel.trans (hb.mono q.bel.size)⟩, rfl⟩
theorem After.cell {w : World} {p : Addr} {v : Value} (h : w.cell? p = some v) (q : After w) : q.to.cell? p = some v := (q.bel.cell (World.block_lt_of_cell? w _ h)).trans h
theorem keep {w w' : World} {p : Addr} {v : Value} (hb : Below w.heap.size w w') (h : w.cell? p = some v) : w'.cell? p = some v := (hb.cell (World.block_lt_of_cell? w _ h)).trans h
theorem keepA {w : World} {p : Addr} {v : Value} (o : Obj) (h : w.cell? p = some v) : (w.alloc o).cell? p = some v := keep ((Below.refl _ w).alloc (Nat.le_refl _) o) h
end Go.Cit
