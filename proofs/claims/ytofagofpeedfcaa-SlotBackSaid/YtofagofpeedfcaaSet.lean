/- One cell of an element is stored into, in a slice whose block is told; a region with one store. No condition. -/
import Derived.Test.YtofagofpeedfcaaTwo
import Derived.Test.YtofagofpeedfcaaDel
import Derived.Laws.OwnMore
namespace Go.Cit
open Go Go.RowKit

section
variable {P : Program} {ops : Array Oper} {Q : Exit → Act → World → Prop}
def oneC (w : World) (iS : Nat) (Fin : World → Prop) (δ : Nat → Bool) (_ : Act) (wx : World) : Prop :=
  (δ iS = false → Alike w wx) ∧ (δ iS = true → Fin wx)
def OnceOp (P : Program) (ops : Array Oper) (w : World) (X : Nat → Value) (iS : Nat) (Fin : World → Prop) (n : Nat) (o : Oper) (a : Act) : Prop :=
  Wanted ops o a ∧
  ((n = iS ∧ ∀ wx, Alike w wx → GivesP P (fun v w' => Fin w' ∧ tyX X o v) ((execOp a.eval o).run P wx)) ∨
   (n ≠ iS ∧ ∀ wx, (needsB ops ops.size iS n = true → Alike w wx) → GivesP P (fun v w' => w' = wx ∧ tyX X o v) ((execOp a.eval o).run P wx)))
theorem wp_region_once {id : Nat} {a0 : Act} {w : World} (X Y : Nat → Value) (olds : List Nat) (iS : Nat) (Fin : World → Prop)
    (hm : P.follows .mixedOrders = true) (hs : shapeB ops a0.tmps.size = true) (hiS : iS < ops.size) (hY : OldIs a0 Y olds)
    (hop : OpsAll (fun n o => ∀ a, KnowsT ops X Y olds o a → OnceOp P ops w X iS Fin n o a) ops.toList 0)
    (hend : ∀ a wx, Fin wx → SameBut ops a0 a → (∀ d, outB ops d = false → a.eval (.tmp d) = X d) → Q .normal a wx) :
    (Code.region id ops true).wp P Q a0 w := by
  refine wp_region_st (oneC w iS Fin) (fun _ _ _ => True) (fun d v _ => v = X d) hm hs (fun w' hb hh => ⟨fun _ => ⟨hb, hh⟩, fun h => absurd h (by simp)⟩) ?_ ?_ ?_
  · intro δ i j o v a w1 w2 _ _ _ _ _ _ _ h
    rcases hd : o.dst with _ | d
    · exact tyP_none hd _ _
    · rw [tyP_some hd] at h ⊢; exact h
  · refine OpsAll.imp2 (fun n o hall => ?_) ops.toList 0 hop
    intro δ a wx hk
    have hkt : KnowsT ops X Y olds o a := ⟨fun d hd => hk.slot d hd, fun d hd => by
      rw [Bool.and_eq_true] at hd
      exact (hk.old d hd.1).trans (hY.get d hd.2)⟩
    obtain ⟨hw, h⟩ := hall a hkt
    refine ⟨hw, ?_⟩
    rcases h with ⟨rfl, h⟩ | ⟨h2, h⟩
    · exact gives_two (fun v w' hv => ⟨trivial, ⟨fun h0 => absurd h0 (by rw [upd_same]; decide), fun _ => hv.1⟩, tyP_X hv.2⟩) (h wx (hk.inv.1 hk.yet))
    · refine gives_two (fun v w' hv => ?_) (h wx (fun hn => hk.inv.1 (hk.closed.yet _ _ _ hn hk.yet)))
      obtain ⟨rfl, hv⟩ := hv
      exact ⟨trivial, ⟨fun h0 => hk.inv.1 (by rwa [upd_other _ h2] at h0), fun h0 => hk.inv.2 (by rwa [upd_other _ h2] at h0)⟩, tyP_X hv⟩
  · intro δ a wx hall hc hsame hslots
    exact hend a wx (hc.2 (hall _ hiS)) hsame fun d hd => hslots d hd
end

section
variable {α : Type} {f : α → List Value} {n : Nat} {E : TypeId}
/-- A slice that lies at the head of a block without marks. -/
structure Held (f : α → List Value) (n : Nat) (E : TypeId) (w : World) (g : Nat) (l : List α) (cap : Nat) : Prop where
  vec : Vec f n w (some ⟨g, 0, none⟩) l cap
  blk : ∃ cs, w.heap[g]? = some (.cells cs E (0, 0))
theorem VOwn.held {B : Nat} {w : World} {g : Nat} {l : List α} {cap : Nat} (hf : ∀ x, (f x).length = n) (h : VOwn f n E B w (some ⟨g, 0, none⟩) l cap) : Held f n E w g l cap :=
  ⟨h.vec hf, by
    rcases h.row.2 with ⟨hv, _⟩ | ⟨g', c', cur, hv, _, hc, _⟩
    · simp at hv
    · simp only [Value.slice.injEq, Option.some.injEq, Addr.mk.injEq, and_true, true_and] at hv
      obtain ⟨rfl, _⟩ := hv
      exact ⟨cur, hc⟩⟩
theorem Held.stay {w w' : World} {g : Nat} {l : List α} {cap : Nat} (hf : ∀ x, (f x).length = n) (h : Held f n E w g l cap) (hb : Below w.heap.size w w') : Held f n E w' g l cap := by
  obtain ⟨h1, cs, h2⟩ := h
  exact ⟨h1.stay hf hb, cs, (hb.block _ (Array.getElem?_eq_some_iff.1 h2).1).trans h2⟩
theorem Held.save {S : Nat → Prop} {w w' : World} {g : Nat} {l : List α} {cap : Nat} (hf : ∀ x, (f x).length = n) (h : Held f n E w g l cap) (hs : Save S w w') (hg : S g) : Held f n E w' g l cap := by
  obtain ⟨h1, cs, h2⟩ := h
  exact ⟨h1.save hf hs (fun _ j hj => by simp [Go.Cit.blk] at hj; rw [← hj]; exact hg), cs, (hs.block _ (Array.getElem?_eq_some_iff.1 h2).1 hg).trans h2⟩
theorem Held.free {w : World} {g : Nat} {l : List α} {cap : Nat} (h : Held f n E w g l cap) (j : Nat) : w.frozen? ⟨g, j, none⟩ = false := by
  obtain ⟨_, cs, h2⟩ := h
  simp [World.frozen?, h2]
theorem setCell_blk' {w : World} {b i : Nat} {cs : Array Value} {fr : Nat × Nat} (v : Value) (h : w.heap[b]? = some (.cells cs E fr)) : (w.setCell ⟨b, i, none⟩ v).heap[b]? = some (.cells (cs.setIfInBounds i v) E fr) := by
  simp [World.setCell, Array.getElem?_modify, h]
/-- The cell j of element k becomes v. -/
theorem Held.set {w : World} {g : Nat} {l : List α} {cap : Nat} (h : Held f n E w g l cap) (hf : ∀ x, (f x).length = n) {k j : Nat} (hk : k < l.length) (hj : j < n) {x : α} {v : Value} (hx : f x = (f l[k]).set j v) :
    Held f n E (w.setCell ⟨g, k * n + j, none⟩ v) g (l.set k x) cap := by
  obtain ⟨h1, cs, h2⟩ := h
  refine ⟨⟨by rw [List.length_set]; exact h1.le, h1.top, h1.nil, fun _ => ⟨g, 0, rfl⟩, fun i hi q hq => ?_⟩, _, setCell_blk' v h2⟩
  rw [List.length_set] at hi
  rw [ad_some, cell_of_row _ g (i * n + q) _ E (0, 0) (setCell_blk' v h2)]
  have hc := h1.cell i hi q hq
  rw [ad_some, cell_of_row _ g (i * n + q) _ E (0, 0) h2] at hc
  have hkc := h1.cell k hk j hj
  rw [ad_some, cell_of_row _ g (k * n + j) _ E (0, 0) h2] at hkc
  have hlt : k * n + j < cs.size := by
    have hj' : j < (f l[k]).length := by rw [hf]; exact hj
    rw [List.getElem?_eq_getElem hj'] at hkc
    exact (Array.getElem?_eq_some_iff.1 hkc).1
  rw [List.getElem_set]
  by_cases hik : k = i
  · subst hik
    rw [if_pos rfl, hx, List.getElem?_set]
    by_cases hjq : j = q
    · subst hjq
      have hj' : j < (f l[k]).length := by rw [hf]; exact hj
      simp [hlt, hj']
    · rw [if_neg hjq, Array.getElem?_setIfInBounds_ne (by omega)]
      exact hc
  · rw [if_neg hik, Array.getElem?_setIfInBounds_ne ?_]
    · exact hc
    · intro e
      have h3 : k < i ∨ i < k := by omega
      rcases h3 with h3 | h3
      · have := Nat.mul_le_mul_right n (show k + 1 ≤ i by omega)
        rw [Nat.add_mul] at this; omega
      · have := Nat.mul_le_mul_right n (show i + 1 ≤ k by omega)
        rw [Nat.add_mul] at this; omega
end
theorem gp_make {P : Program} {T E : TypeId} (hBT : ByteTypes P T E) {w : World} {o : Oper} {ρ : Operand → Value} {post : Value → World → Prop} (x y : Operand)
    (ho : o.op = .makeSlice T x y) (n : Nat) {k1 k2 : IntKind} (hx : ρ x = .int k1 (n : Int)) (hy : ρ y = .int k2 (n : Int)) (hn : n ≤ 1000000000)
    (h : ∀ w', Cit.Own E w.heap.size w' (some ⟨w.heap.size, 0, none⟩) (List.replicate n 0) n → w.grownBy w' none → post (.slice (some ⟨w.heap.size, 0, none⟩) n n) w') : GivesP P post ((execOp ρ o).run P w) := by
  obtain ⟨i, hi, hz0, hz1, hz2⟩ := info_parts hBT.info
  obtain ⟨w', hr, hown, hgr⟩ := run_make_full (P := P) w w.heap.size T E i (.int .u8 0) 1 hBT.slice hi hz0 hz1 k1 k2 n (by rw [hz2]; omega) (by unfold maxLen; omega) (Nat.le_refl _)
  have e1 : (madeCells (Value.int .u8 0).cells (n * 1)).toList = (List.replicate n (0 : UInt8)).map vb := by
    rw [show (Value.int .u8 0).cells = #[.int .u8 0] from rfl, toList_madeCells_one, Nat.mul_one, List.map_replicate]; rfl
  rw [e1] at hown
  refine gp_run (w' := w') (v := .slice (some ⟨w.heap.size, 0, none⟩) n n) ?_ (h w' ⟨by simpa using hown⟩ hgr)
  unfold execOp
  rw [ho]
  dsimp only
  rw [hx, hy, Sem.run_bind, hr]
  rfl
end Go.Cit
