/- Texts of the proof, one behind the other: Same11, Boxes, Copied, PartBox. No condition but those that each names. -/
import Derived.Test.YtlholdllibghbaaGreatG13
import Derived.Test.YtlholdllibghbaaGreatG10
import Derived.Test.YtlholdllibghbaaGreatG07
import Derived.Test.YtlholdllibghbaaGreatG11
import Derived.Test.YtlholdllibghbaaGreatG09
/- The reference's Same; chapter 12's is: walked. -/
namespace Go.Proofs.YtlholdllibghbaaGreat
open Go Go.RowKit Go.Cit

theorem take_next {α : Type} (l m : List α) (k : Nat) (hl : k < l.length) (hm : k < m.length) (h : l.take k = m.take k) (he : l[k] = m[k]) : l.take (k + 1) = m.take (k + 1) := by
  rw [List.take_succ_eq_append_getElem hl, List.take_succ_eq_append_getElem hm, h, he]
theorem win_eq_iff (x y : Win) : x = y ↔ x.len.1 = y.len.1 ∧ x.part.1 = y.part.1 := by
  obtain ⟨a, b⟩ := x; obtain ⟨c, d⟩ := y
  simp only [Win.mk.injEq, Subtype.ext_iff]
theorem ch_eq_iff (x y : Ch) : x = y ↔ x.id.1 = y.id.1 ∧ x.src.1 = y.src.1 ∧ x.dst.1 = y.dst.1 ∧ x.cap.1 = y.cap.1 ∧ x.size.1 = y.size.1 := by
  obtain ⟨a, b, c, d, e⟩ := x; obtain ⟨a', b', c', d', e'⟩ := y
  simp only [Ch.mk.injEq, Subtype.ext_iff]
theorem cfg_eq_iff (V U : CfgV) : V.cfg = U.cfg ↔ V.ws = U.ws ∧ V.ps.map PtV.pt = U.ps.map PtV.pt ∧ V.cs = U.cs := by
  simp only [CfgV.cfg, Cfg.mk.injEq]
end Go.Proofs.YtlholdllibghbaaGreat

/- A region that draws its order, in which variables of their own are laid and stored into: told once, whatever the order. No condition on the program. -/
namespace Go.Cit
open Go Go.RowKit

structure Boxes where
  nb : Nat
  ia : Nat → Nat
  is_ : Nat → Nat
  d : Nat → Nat
  ty : Nat → TypeId
  z : Nat → Array Value
def Boxes.wf (b : Boxes) (ops : Array Oper) (n : Nat) : Bool := (List.range b.nb).all fun j => needsB ops ops.size (b.is_ j) (b.ia j) && decide (b.d j < n) &&
  ((List.range b.nb).all fun i => decide (b.ia j ≠ b.is_ i) && (decide (i = j) || (decide (b.d i ≠ b.d j) && decide (b.ia i ≠ b.ia j) && decide (b.is_ i ≠ b.is_ j))))
theorem Boxes.spec {b : Boxes} {ops : Array Oper} {n : Nat} (h : b.wf ops n = true) {j : Nat} (hj : j < b.nb) : needsB ops ops.size (b.is_ j) (b.ia j) = true ∧ b.d j < n ∧ (∀ i, i < b.nb → b.ia j ≠ b.is_ i ∧ (i ≠ j → b.d i ≠ b.d j ∧ b.ia i ≠ b.ia j ∧ b.is_ i ≠ b.is_ j)) := by
  have h1 := List.all_eq_true.1 h j (List.mem_range.2 hj)
  simp only [Bool.and_eq_true, decide_eq_true_eq] at h1
  refine ⟨h1.1.1, h1.1.2, fun i hi => ?_⟩
  have h2 := List.all_eq_true.1 h1.2 i (List.mem_range.2 hi)
  simp only [Bool.and_eq_true, Bool.or_eq_true, decide_eq_true_eq] at h2
  refine ⟨h2.1, fun hne => ?_⟩
  rcases h2.2 with e | e
  · exact absurd e hne
  · exact ⟨e.1.1, e.1.2, e.2⟩

def bxG (b : Boxes) (W w w' : World) : Prop := Below w.heap.size w w' ∨ ∃ g j C, j < b.nb ∧ W.heap.size ≤ g ∧ w.heap[g]? = some (.cells C (b.ty j) (0, 0)) ∧ Save (· ≠ g) w w'
def bxC (b : Boxes) (Bx : Nat → Array Value → World → Prop) (W : World) (δ : Nat → Bool) (a : Act) (wx : World) : Prop := Below W.heap.size W wx ∧ ∀ j, j < b.nb → δ (b.ia j) = true →
  ∃ g C, a.tmps.getD (b.d j) undef = .pointer (some ⟨g, 0, none⟩) ∧ W.heap.size ≤ g ∧ wx.heap[g]? = some (.cells C (b.ty j) (0, 0)) ∧ C.size = (b.z j).size ∧ (δ (b.is_ j) = true → Bx j C wx) ∧
    ∀ i, i < b.nb → i ≠ j → δ (b.ia i) = true → a.tmps.getD (b.d i) undef ≠ .pointer (some ⟨g, 0, none⟩)

section
variable {P : Program} {ops : Array Oper} {Q : Exit → Act → World → Prop}
def BxOp (P : Program) (b : Boxes) (Bx : Nat → Array Value → World → Prop) (T : Nat → Value → World → Prop) (ops : Array Oper) (n : Nat) (o : Oper) (a : Act) (wx : World) : Prop :=
  (Wanted ops o a ∧ (∀ j, j < b.nb → n ≠ b.ia j ∧ n ≠ b.is_ j ∧ o.dst ≠ some (b.d j)) ∧ GivesP P (fun v w' => Below wx.heap.size wx w' ∧ tyP T o v w') ((execOp a.eval o).run P wx)) ∨
  (∃ j, j < b.nb ∧ n = b.ia j ∧ o.dst = some (b.d j) ∧ o.guard = none ∧ (execOp a.eval o).run P wx = .ok (.value (.pointer (some ⟨wx.heap.size, 0, none⟩))) (wx.alloc (.cells (b.z j) (b.ty j))) ∧ ∀ v w, T (b.d j) v w) ∨
  (∃ j C', j < b.nb ∧ n = b.is_ j ∧ o.dst = none ∧ o.guard = none ∧ Bx j C' wx ∧ C'.size = (b.z j).size ∧
    ∀ g C, a.eval (.tmp (b.d j)) = .pointer (some ⟨g, 0, none⟩) → wx.heap[g]? = some (.cells C (b.ty j) (0, 0)) → C.size = C'.size → ∃ w', (execOp a.eval o).run P wx = .ok .skip w' ∧ w'.heap[g]? = some (.cells C' (b.ty j) (0, 0)) ∧ Save (· ≠ g) wx w')

theorem OpsAll.imp {p q : Nat → Oper → Prop} (h : ∀ n o, True → p n o → q n o) : ∀ (os : List Oper) (n : Nat), OpsAll p os n → OpsAll q os n
  | [], _, _ => trivial
  | _ :: os, n, hs => ⟨h n _ trivial hs.1, OpsAll.imp h os (n + 1) hs.2⟩
theorem gives_imp {p q : Value → World → Prop} {r : Result Next} (h : ∀ v w, p v w → q v w) (hr : GivesP P p r) : GivesP P q r := by
  match r, hr with
  | .ok (.value v) w', hr => exact h _ _ hr
  | .ok .skip w', hr => exact h _ _ hr
  | .ok (.enter f args) w', hr => exact Calls.mono hr fun e w'' ⟨v, he, hp⟩ => ⟨v, he, h _ _ hp⟩
theorem bx_below {b : Boxes} {W w w' : World} (h : bxG b W w w') (hW : Below W.heap.size W w) : Below W.heap.size W w' := by
  rcases h with h | ⟨g, j, C, _, hg, hc, hs⟩
  · exact hW.trans (h.mono hW.size)
  · exact hW.trans (hs.below hW.size (fun k hk => by omega))

theorem wp_region_boxes {id : Nat} {a0 : Act} {w : World} (b : Boxes) (Bx : Nat → Array Value → World → Prop) (T : Nat → Value → World → Prop)
    (hm : P.follows .mixedOrders = true) (hs : shapeB ops a0.tmps.size = true) (hwf : b.wf ops a0.tmps.size = true)
    (hT : ∀ d v w1 w2, bxG b w w1 w2 → T d v w1 → T d v w2) (hX : ∀ j C w1 w2, bxG b w w1 w2 → Bx j C w1 → Bx j C w2)
    (hop : OpsAll (fun n o => ∀ δ a wx, KnownS ops (bxC b Bx w) T a0 n o δ a wx → BxOp P b Bx T ops n o a wx) ops.toList 0)
    (hend : ∀ a wx, Below w.heap.size w wx → SameBut ops a0 a → (∀ d, outB ops d = false → T d (a.eval (.tmp d)) wx) →
      (∀ j, j < b.nb → ∃ g C, a.eval (.tmp (b.d j)) = .pointer (some ⟨g, 0, none⟩) ∧ w.heap.size ≤ g ∧ wx.heap[g]? = some (.cells C (b.ty j) (0, 0)) ∧ Bx j C wx ∧ ∀ i, i < b.nb → i ≠ j → a.eval (.tmp (b.d i)) ≠ .pointer (some ⟨g, 0, none⟩)) → Q .normal a wx)
    (hin : ∀ j, j < b.nb → b.ia j < ops.size ∧ b.is_ j < ops.size) :
    (Code.region id ops true).wp P Q a0 w := by
  refine wp_region_st (bxC b Bx w) (fun _ w1 w2 => bxG b w w1 w2) T hm hs (fun w' hb hh => ⟨hb, fun j _ h => absurd h Bool.false_ne_true⟩) ?_ ?_ ?_
  · intro δ i j o v a w1 w2 _ _ _ _ _ _ hG h
    rcases hd : o.dst with _ | d
    · exact tyP_none hd _ _
    · rw [tyP_some hd] at h ⊢
      exact hT _ _ _ _ hG h
  · refine OpsAll.imp (fun n o ho hall => ?_) ops.toList 0 hop
    intro δ a wx hk
    obtain ⟨hW, hB⟩ := hk.inv
    have hsz : a.tmps.size = a0.tmps.size := hk.same.2.1
    rcases hall δ a wx hk with ⟨hw, hne, hg⟩ | ⟨j, hj, rfl, hd, hgd, hrun, hTd⟩ | ⟨j, C', hj, rfl, hd, hgd, hBx, hsz', hst⟩
    · refine ⟨hw, gives_imp (fun v w' hv => ⟨.inl hv.1, ⟨bx_below (b := b) (.inl hv.1) hW, fun i hi hδ => ?_⟩, hv.2⟩) hg⟩
      have hb := hv.1
      have hn := hne i hi
      rw [upd_other δ hn.1] at hδ
      obtain ⟨g, C, e1, e2, e3, e4, e5, e6⟩ := hB i hi hδ
      refine ⟨g, C, ?_, e2, (hb.block g (Array.getElem?_eq_some_iff.1 e3).1).trans e3, e4, fun h => ?_, fun k hk' hki hδk => ?_⟩
      · rw [put_getD_ne _ _ _ _ hn.2.2]; exact e1
      · rw [upd_other δ hn.2.1] at h
        exact hX _ _ _ _ (.inl hb) (e5 h)
      · have hnk := hne k hk'
        rw [upd_other δ hnk.1] at hδk
        rw [put_getD_ne _ _ _ _ hnk.2.2]
        exact e6 k hk' hki hδk
    · have hsp := Boxes.spec hwf hj
      have hb : Below wx.heap.size wx (wx.alloc (.cells (b.z j) (b.ty j))) := (Below.refl _ wx).alloc (Nat.le_refl _) _
      have hyet : δ (b.is_ j) = false := hk.closed.yet ops.size _ _ hsp.1 hk.yet
      refine ⟨wanted_free hgd, ?_⟩
      rw [hrun]
      refine ⟨.inl hb, ⟨bx_below (b := b) (.inl hb) hW, fun i hi hδ => ?_⟩, by rw [tyP_some hd]; exact hTd _ _⟩
      by_cases hij : i = j
      · subst hij
        refine ⟨wx.heap.size, b.z i, by rw [hd]; exact put_getD_same _ _ _ (by rw [hsz]; exact hsp.2.1), hW.size, heap_alloc_new _ _, rfl, fun h => ?_, fun k hk' hki hδk => ?_⟩
        · rw [upd_other δ (hsp.2.2 i hi).1, hyet] at h; exact absurd h (by decide)
        · have hq := (hsp.2.2 k hk').2 hki
          rw [upd_other δ (Ne.symm hq.2.1)] at hδk
          obtain ⟨g, C, e1, e2, e3, _⟩ := hB k hk' hδk
          rw [hd, put_getD_ne _ _ _ _ (fun e => hq.1 (Option.some.inj e).symm), e1]
          intro e
          simp only [Value.pointer.injEq, Option.some.injEq, Addr.mk.injEq, and_true] at e
          have := (Array.getElem?_eq_some_iff.1 e3).1
          omega
      · have hq := (hsp.2.2 i hi).2 hij
        rw [upd_other δ (Ne.symm hq.2.1)] at hδ
        obtain ⟨g, C, e1, e2, e3, e4, e5, e6⟩ := hB i hi hδ
        refine ⟨g, C, ?_, e2, (hb.block g (Array.getElem?_eq_some_iff.1 e3).1).trans e3, e4, fun h => ?_, fun k hk' hki hδk => ?_⟩
        · rw [hd, put_getD_ne _ _ _ _ (fun e => hq.1 (Option.some.inj e).symm)]; exact e1
        · rw [upd_other δ (hsp.2.2 i hi).1] at h
          exact hX _ _ _ _ (.inl hb) (e5 h)
        · by_cases hkj : k = j
          · subst hkj
            rw [hd, put_getD_same _ _ _ (by rw [hsz]; exact hsp.2.1)]
            intro e
            simp only [Value.pointer.injEq, Option.some.injEq, Addr.mk.injEq, and_true] at e
            have := (Array.getElem?_eq_some_iff.1 e3).1
            omega
          · have hq2 := (hsp.2.2 k hk').2 hkj
            rw [upd_other δ (Ne.symm hq2.2.1)] at hδk
            rw [hd, put_getD_ne _ _ _ _ (fun e => hq2.1 (Option.some.inj e).symm)]
            exact e6 k hk' hki hδk
    · have hsp := Boxes.spec hwf hj
      have hia : δ (b.ia j) = true := by
        have h1 := hk.next.needs ops.size _ _ hsp.1 (upd_same _ _)
        rwa [upd_other δ (Ne.symm (hsp.2.2 j hj).1)] at h1
      obtain ⟨g, C, e1, e2, e3, e4, e5, e6⟩ := hB j hj hia
      obtain ⟨w', hrun, hc', hsv⟩ := hst g C (by simpa [Act.eval] using e1) e3 (by rw [e4, hsz'])
      have hG : bxG b w wx w' := .inr ⟨g, j, C, hj, e2, e3, hsv⟩
      refine ⟨wanted_free hgd, ?_⟩
      rw [hrun]
      refine ⟨hG, ⟨bx_below hG hW, fun i hi hδ => ?_⟩, tyP_none hd _ _⟩
      have hne : b.is_ j ≠ b.ia i := Ne.symm ((Boxes.spec hwf hi).2.2 j hj).1
      rw [upd_other δ hne] at hδ
      by_cases hij : i = j
      · subst hij
        refine ⟨g, C', by rw [hd]; exact e1, e2, hc', hsz', fun _ => hX _ _ _ _ hG hBx, fun k hk' hki hδk => ?_⟩
        rw [upd_other δ (Ne.symm ((Boxes.spec hwf hk').2.2 i hj).1)] at hδk
        rw [hd]; exact e6 k hk' hki hδk
      · obtain ⟨g', D, f1, f2, f3, f4, f5, f6⟩ := hB i hi hδ
        have hgg : g' ≠ g := by
          intro e; subst e
          exact e6 i hi hij hδ f1
        refine ⟨g', D, by rw [hd]; exact f1, f2, (hsv.block g' (Array.getElem?_eq_some_iff.1 f3).1 hgg).trans f3, f4, fun h => ?_, fun k hk' hki hδk => ?_⟩
        · rw [upd_other δ (Ne.symm ((hsp.2.2 i hi).2 hij).2.2)] at h
          exact hX _ _ _ _ hG (f5 h)
        · rw [upd_other δ (Ne.symm ((Boxes.spec hwf hk').2.2 j hj).1)] at hδk
          rw [hd]; exact f6 k hk' hki hδk
  · intro δ a wx hall hC hsame hTall
    obtain ⟨hW, hB⟩ := hC
    refine hend a wx hW hsame hTall fun j hj => ?_
    obtain ⟨g, C, e1, e2, e3, e4, e5, e6⟩ := hB j hj (hall _ (hin j hj).1)
    exact ⟨g, C, by simpa [Act.eval] using e1, e2, e3, e5 (hall _ (hin j hj).2), fun i hi hij => by simpa [Act.eval] using e6 i hi hij (hall _ (hin i hi).1)⟩
end
end Go.Cit

/- Copied of chapter 11's law: walked. -/
namespace Go.Proofs.YtlholdllibghbaaGreat
open Go Go.RowKit Go.Cit

structure OwnedV (B : Nat) (w : World) (V : CfgV) : Prop where
  win : VOwn cWin 2 77 B w V.wa V.ws V.wc
  pts : VOwn cPt 5 46 B w V.pa V.ps V.pc
  chs : VOwn cCh 5 48 B w V.ca V.cs V.cc
  img : ∀ x ∈ V.ps, Cit.Own 5 B w x.a x.img x.c
theorem OwnedV.at {B : Nat} {w : World} {V : CfgV} (h : OwnedV B w V) : V.At w := ⟨h.win.vec cWin_len, h.pts.vec cPt_len, h.chs.vec cCh_len, fun x hx => (h.img x hx).isRow⟩
theorem OwnedV.stay {B : Nat} {w w' : World} {V : CfgV} (h : OwnedV B w V) (hb : Below w.heap.size w w') : OwnedV B w' V := ⟨h.win.stay hb, h.pts.stay hb, h.chs.stay hb, fun x hx => (h.img x hx).stay hb⟩
theorem OwnedV.low {B B' : Nat} {w : World} {V : CfgV} (h : OwnedV B w V) (hb : B' ≤ B) : OwnedV B' w V := ⟨h.win.low hb, h.pts.low hb, h.chs.low hb, fun x hx => (h.img x hx).low hb⟩

theorem vown_block {α : Type} {f : α → List Value} {n : Nat} {E : TypeId} {B : Nat} {w : World} {a : Option Addr} {l : List α} {c : Nat} (h : VOwn f n E B w a l c) {g : Nat} (hg : blk a = some g) : ∃ C, w.heap[g]? = some (.cells C E (0, 0)) := by
  rcases h.row.2 with ⟨hv, _⟩ | ⟨g', c', cur, hv, _, hc, _⟩
  · injection hv with h1; subst h1; simp [blk] at hg
  · injection hv with h1; subst h1
    simp [blk] at hg
    subst hg
    exact ⟨cur, hc⟩
theorem vown_ne {α : Type} {f : α → List Value} {n : Nat} {E T : TypeId} {B : Nat} {w : World} {a : Option Addr} {l : List α} {c : Nat} (h : VOwn f n E B w a l c) {k : Nat} {C : Array Value} {fr : Nat × Nat} (hk : w.heap[k]? = some (.cells C T fr)) (hne : E ≠ T) : ∀ g, blk a = some g → g ≠ k := by
  rintro g hg rfl
  obtain ⟨D, hD⟩ := vown_block h hg
  rw [hk] at hD
  injection hD with hD
  injection hD with _ e
  exact hne e.symm
theorem vown_bx {α : Type} {f : α → List Value} {n : Nat} {E : TypeId} {B : Nat} {W w w' : World} {a : Option Addr} {l : List α} {c : Nat} {b : Boxes} (h : VOwn f n E B w a l c) (hG : bxG b W w w') (hne : ∀ j, j < b.nb → E ≠ b.ty j) : VOwn f n E B w' a l c := by
  rcases hG with hb | ⟨g, j, C, hj, _, hc, hs⟩
  · exact h.stay hb
  · exact h.save hs (vown_ne h hc (hne j hj))
theorem build1c {P : Program} {T E : TypeId} {n by_ : Nat} {z : Value} (hE : ElemType P T E n by_ z) {ρ : Operand → Value} {o : Oper} (x : Operand) (v : Value) (C : Array Value) (hC : v.cells = C) (ho : o.op = .buildSlice T 1 #[(0, x)]) (hx : ρ x = v) (hv : C.size = n) (hn : n ≤ 1000) (w : World) :
    (execOp ρ o).run P w = .ok (.value (.slice (some ⟨w.heap.size, 0, none⟩) 1 1)) (w.alloc (.cells C E)) := by
  subst hC; exact build1 hE x v ho hx hv hn w
theorem ownb_bx {E T : TypeId} {B : Nat} {w : World} {a : Option Addr} {l : List UInt8} {c : Nat} (h : Cit.Own E B w a l c) {k : Nat} {C : Array Value} {fr : Nat × Nat} (hk : w.heap[k]? = some (.cells C T fr)) (hne : E ≠ T) : ∀ g, blk a = some g → g ≠ k := vown_ne h.vown hk hne
theorem neU : (5 : Nat) ≠ 26 := by decide
theorem neP : (46 : Nat) ≠ 26 := by decide
theorem neWP : (77 : Nat) ≠ 46 := by decide
theorem neCP : (48 : Nat) ≠ 46 := by decide
theorem neUP : (5 : Nat) ≠ 46 := by decide
theorem exec_append {ρ : Operand → Value} {o : Oper} {T T' : TypeId} {w w' : World} {x y : Operand} {v u r : Value} (ho : o.op = .call { callee := .builtin .append, args := #[x, y], argTypes := #[T, T'] }) (hx : ρ x = v) (hy : ρ y = u)
    (hr : (Builtin.append_ #[T, T'] o.type #[v, u]).run Tryz.prog w = .ok r w') : (execOp ρ o).run Tryz.prog w = .ok (.value r) w' := by
  unfold execOp
  simp only [ho, resolve, invoke, builtin, Sem.run_bind, Sem.run_pure, Result.andThen_ok, List.map_toArray, List.map_cons, List.map_nil, hx, hy, hr]

theorem neW : (77 : Nat) ≠ 26 := by decide
theorem neC : (48 : Nat) ≠ 26 := by decide
def cpB : Boxes := ⟨1, fun _ => 9, fun _ => 10, fun _ => 3, fun _ => 26, fun _ => #[.slice none 0 0, .slice none 0 0, .slice none 0 0]⟩
def cpX (V : CfgV) (N : Nat) (C : Array Value) (w : World) : Prop := ∃ a c a' c', C = #[.slice a V.ws.length c, .slice none 0 0, .slice a' V.cs.length c'] ∧ VOwn cWin 2 77 N w a V.ws c ∧ VOwn cCh 5 48 N w a' V.cs c'
def cpT (V : CfgV) (N B1 : Nat) : Nat → Value → World → Prop
  | 6, v, w => ∃ g, v = .slice (some ⟨g, 0, none⟩) 0 0 ∧ VOwn cWin 2 77 N w (some ⟨g, 0, none⟩) [] 0
  | 7, v, _ => v = .pointer (some ⟨B1, 0, none⟩)
  | 8, v, _ => v = .slice V.wa V.ws.length V.wc
  | 9, v, w => ∃ a c, v = .slice a V.ws.length c ∧ VOwn cWin 2 77 N w a V.ws c
  | 10, v, w => ∃ g, v = .slice (some ⟨g, 0, none⟩) 0 0 ∧ VOwn cCh 5 48 N w (some ⟨g, 0, none⟩) [] 0
  | 11, v, _ => v = .pointer (some ⟨B1, 2, none⟩)
  | 12, v, _ => v = .slice V.ca V.cs.length V.cc
  | 13, v, w => ∃ a c, v = .slice a V.cs.length c ∧ VOwn cCh 5 48 N w a V.cs c
  | 14, v, w => ∃ C, v = .agg C ∧ cpX V N C w
  | _, _, _ => True
theorem cpX_bx {V : CfgV} {N : Nat} {C : Array Value} {W w w' : World} (hG : bxG cpB W w w') (h : cpX V N C w) : cpX V N C w' := by
  obtain ⟨a, c, a', c', e, h1, h2⟩ := h
  exact ⟨a, c, a', c', e, vown_bx h1 hG (fun _ _ => neW), vown_bx h2 hG (fun _ _ => neC)⟩
theorem cpT_bx {V : CfgV} {N B1 : Nat} {d : Nat} {v : Value} {W w w' : World} (hG : bxG cpB W w w') (h : cpT V N B1 d v w) : cpT V N B1 d v w' := by
  unfold cpT at *
  split at h
  · obtain ⟨g, e, h⟩ := h; exact ⟨g, e, vown_bx h hG (fun _ _ => neW)⟩
  · exact h
  · exact h
  · obtain ⟨a, c, e, h⟩ := h; exact ⟨a, c, e, vown_bx h hG (fun _ _ => neW)⟩
  · obtain ⟨g, e, h⟩ := h; exact ⟨g, e, vown_bx h hG (fun _ _ => neC)⟩
  · exact h
  · exact h
  · obtain ⟨a, c, e, h⟩ := h; exact ⟨a, c, e, vown_bx h hG (fun _ _ => neC)⟩
  · obtain ⟨C, e, h⟩ := h; exact ⟨C, e, cpX_bx hG h⟩
  · trivial

theorem cbuild0 (ρ : Operand → Value) (o : Oper) (w : World) (h : o.op = .buildSlice 22 0 #[]) : (execOp ρ o).run Tryz.prog w = .ok (.value (.slice (some ⟨w.heap.size, 0, none⟩) 0 0)) (w.alloc (.cells #[] 77)) := by
  unfold execOp; rw [h]; kernel_rfl
theorem cbuild0c (ρ : Operand → Value) (o : Oper) (w : World) (h : o.op = .buildSlice 24 0 #[]) : (execOp ρ o).run Tryz.prog w = .ok (.value (.slice (some ⟨w.heap.size, 0, none⟩) 0 0)) (w.alloc (.cells #[] 48)) := by
  unfold execOp; rw [h]; kernel_rfl
theorem cbuild14 (ρ : Operand → Value) (o : Oper) (w : World) (x y : Operand) (h : o.op = .build 26 #[(0, x), (2, y)]) (a a' : Option Addr) (n n' c c' : Nat) (hx : ρ x = .slice a n c) (hy : ρ y = .slice a' n' c') :
    (execOp ρ o).run Tryz.prog w = .ok (.value (.agg #[.slice a n c, .slice none 0 0, .slice a' n' c'])) w := by
  unfold execOp; rw [h]
  simp only [List.map_toArray, List.map_cons, List.map_nil, hx, hy]
  kernel_rfl
theorem calloc3 (ρ : Operand → Value) (o : Oper) (w : World) (h : o.op = .alloc 26) : (execOp ρ o).run Tryz.prog w = .ok (.value (.pointer (some ⟨w.heap.size, 0, none⟩))) (w.alloc (.cells #[.slice none 0 0, .slice none 0 0, .slice none 0 0] 26)) := by
  unfold execOp; rw [h]; kernel_rfl
theorem cloadW (w : World) (p : Addr) (v : Value) (h : w.cell? p = some v) : (Instr.loadAt 22 (.pointer (some p))).run Tryz.prog w = .ok v w := by
  have hT := Tryz.underlying22
  go_simp
theorem cloadC (w : World) (p : Addr) (v : Value) (h : w.cell? p = some v) : (Instr.loadAt 24 (.pointer (some p))).run Tryz.prog w = .ok v w := by
  have hT := Tryz.underlying24
  go_simp

set_option maxRecDepth 100000 in
set_option maxHeartbeats 4000000 in
theorem copied_calls (w : World) (V : CfgV) (h : V.At w) (hs : SmallV V) : Calls Tryz.prog 46 #[.agg #[.slice V.wa V.ws.length V.wc, .slice V.pa V.ps.length V.pc, .slice V.ca V.cs.length V.cc]] w fun e w' =>
    ∃ U : CfgV, e = .returned (.agg #[.slice U.wa U.ws.length U.wc, .slice U.pa U.ps.length U.pc, .slice U.ca U.cs.length U.cc]) ∧ U.cfg = V.cfg ∧ OwnedV w.heap.size w' U ∧ Below w.heap.size w w' := by
  obtain ⟨w1, hw1⟩ : ∃ w1, w1 = (w.alloc (.cells #[.slice V.wa V.ws.length V.wc, .slice V.pa V.ps.length V.pc, .slice V.ca V.cs.length V.cc] 26)).alloc (.cells #[.slice none 0 0, .slice none 0 0, .slice none 0 0] 26) := ⟨_, rfl⟩
  have B1 : Below w.heap.size w w1 := by rw [hw1]; exact ((Below.refl _ w).alloc (Nat.le_refl _) _).alloc (by simp) _
  have hsz1 : w1.heap.size = w.heap.size + 2 := by rw [hw1]; simp
  have hI : InBox w1 w.heap.size V := by rw [hw1]; exact (inBox_new w V _).keep ((Below.refl _ _).alloc (Nat.le_refl _) _)
  have hR1 : w1.heap[w.heap.size + 1]? = some (.cells #[.slice none 0 0, .slice none 0 0, .slice none 0 0] 26 (0, 0)) := by
    rw [hw1, show w.heap.size + 1 = (w.alloc (.cells #[.slice V.wa V.ws.length V.wc, .slice V.pa V.ps.length V.pc, .slice V.ca V.cs.length V.cc] 26)).heap.size by simp, heap_alloc_new]
  have hV := h.stay B1
  have HB1 := Lib.hid (And.intro B1 (And.intro hI (And.intro hR1 hV)))
  have hw9 := hs.win
  have hc9 := hs.chs
  clear h B1 hI hR1 hV
  go_enter Tryz.func46, Tryz.ntmps46
  go_wp2_with fail
  rw [← hw1]
  clear hw1
  refine wp_region_boxes cpB (fun _ => cpX V w1.heap.size) (cpT V w1.heap.size w.heap.size) (by kernel_rfl) (by kernel_rfl) (by kernel_rfl) (fun _ _ _ _ hG h => cpT_bx hG h) (fun _ _ _ _ hG h => cpX_bx hG h) ?_ ?_ (fun j hj => by
      have : j = 0 := by have : j < 1 := hj; omega
      subst this; exact ⟨by decide, by decide⟩)
  · refine opsAll_cons ?_ (opsAll_cons ?_ (opsAll_cons ?_ (opsAll_cons ?_ (opsAll_cons ?_ (opsAll_cons ?_ (opsAll_cons ?_ (opsAll_cons ?_ (opsAll_cons ?_ (opsAll_cons ?_ (opsAll_cons ?_ opsAll_nil))))))))))
    all_goals intro δ wa wx hk
    · exact .inl ⟨wanted_free rfl, fun _ _ => ⟨by show (_ : Nat) ≠ 9; decide, by show (_ : Nat) ≠ 10; decide, by show _ ≠ some (3 : Nat); decide⟩, gp_run (cbuild0 _ _ _ rfl) ⟨(Below.refl _ wx).alloc (Nat.le_refl _) _, _, rfl, (vown_lit wx #[] 77 2 ([] : List Win) cWin_len rfl (by simp)).low hk.inv.1.size⟩⟩
    · exact .inl ⟨wanted_free rfl, fun _ _ => ⟨by show (_ : Nat) ≠ 9; decide, by show (_ : Nat) ≠ 10; decide, by show _ ≠ some (3 : Nat); decide⟩, gp_field (.tmp 1) rfl (hk.old 1 (by kernel_rfl)) (fun w => by kernel_rfl) ⟨Below.refl _ _, rfl⟩⟩
    · exact .inl ⟨wanted_free rfl, fun _ _ => ⟨by show (_ : Nat) ≠ 9; decide, by show (_ : Nat) ≠ 10; decide, by show _ ≠ some (3 : Nat); decide⟩, gp_load (.tmp 7) rfl (hk.slot 7 (by kernel_rfl)) (cloadW _ _ _ (keep hk.inv.1 HB1.out.2.1.c0)) ⟨Below.refl _ _, rfl⟩⟩
    · obtain ⟨g, e6, h6⟩ := hk.slot 6 (by kernel_rfl)
      obtain ⟨a', c', w', hr, ho, hb⟩ := run_vapp0 etW cWin_len cWin_one 22 h6 ((HB1.out.2.2.2.stay hk.inv.1).win) (by omega) hk.inv.1.size
      exact .inl ⟨wanted_free rfl, fun _ _ => ⟨by show (_ : Nat) ≠ 9; decide, by show (_ : Nat) ≠ 10; decide, by show _ ≠ some (3 : Nat); decide⟩, gp_run (exec_append rfl e6 (hk.slot 8 (by kernel_rfl)) hr) ⟨hb, a', c', rfl, ho⟩⟩
    · exact .inl ⟨wanted_free rfl, fun _ _ => ⟨by show (_ : Nat) ≠ 9; decide, by show (_ : Nat) ≠ 10; decide, by show _ ≠ some (3 : Nat); decide⟩, gp_run (cbuild0c _ _ _ rfl) ⟨(Below.refl _ wx).alloc (Nat.le_refl _) _, _, rfl, (vown_lit wx #[] 48 5 ([] : List Ch) cCh_len rfl (by simp)).low hk.inv.1.size⟩⟩
    · exact .inl ⟨wanted_free rfl, fun _ _ => ⟨by show (_ : Nat) ≠ 9; decide, by show (_ : Nat) ≠ 10; decide, by show _ ≠ some (3 : Nat); decide⟩, gp_field (.tmp 1) rfl (hk.old 1 (by kernel_rfl)) (fun w => by kernel_rfl) ⟨Below.refl _ _, rfl⟩⟩
    · exact .inl ⟨wanted_free rfl, fun _ _ => ⟨by show (_ : Nat) ≠ 9; decide, by show (_ : Nat) ≠ 10; decide, by show _ ≠ some (3 : Nat); decide⟩, gp_load (.tmp 11) rfl (hk.slot 11 (by kernel_rfl)) (cloadC _ _ _ (keep hk.inv.1 HB1.out.2.1.c2)) ⟨Below.refl _ _, rfl⟩⟩
    · obtain ⟨g, e6, h6⟩ := hk.slot 10 (by kernel_rfl)
      obtain ⟨a', c', w', hr, ho, hb⟩ := run_vapp0 etC cCh_len cCh_one 24 h6 ((HB1.out.2.2.2.stay hk.inv.1).chs) (by omega) hk.inv.1.size
      exact .inl ⟨wanted_free rfl, fun _ _ => ⟨by show (_ : Nat) ≠ 9; decide, by show (_ : Nat) ≠ 10; decide, by show _ ≠ some (3 : Nat); decide⟩, gp_run (exec_append rfl e6 (hk.slot 12 (by kernel_rfl)) hr) ⟨hb, a', c', rfl, ho⟩⟩
    · obtain ⟨a, c, e9, h9⟩ := hk.slot 9 (by kernel_rfl)
      obtain ⟨a', c', e13, h13⟩ := hk.slot 13 (by kernel_rfl)
      exact .inl ⟨wanted_free rfl, fun _ _ => ⟨by show (_ : Nat) ≠ 9; decide, by show (_ : Nat) ≠ 10; decide, by show _ ≠ some (3 : Nat); decide⟩, gp_run (cbuild14 _ _ _ _ _ rfl _ _ _ _ _ _ e9 e13) ⟨Below.refl _ _, _, rfl, a, c, a', c', rfl, h9, h13⟩⟩
    · exact .inr (.inl ⟨0, by decide, rfl, rfl, rfl, calloc3 _ _ _ rfl, fun _ _ => trivial⟩)
    · obtain ⟨C, e14, hX⟩ := hk.slot 14 (by kernel_rfl)
      refine .inr (.inr ⟨0, C, by decide, rfl, rfl, rfl, hX, ?_, fun g D hg hD hDs => ?_⟩)
      · obtain ⟨_, _, _, _, rfl, _⟩ := hX; rfl
      · have h3 : C.size = 3 := by obtain ⟨_, _, _, _, rfl, _⟩ := hX; rfl
        have h1c : C.all (·.oneCell') = true := by obtain ⟨_, _, _, _, rfl, _⟩ := hX; simp [Value.oneCell']
        have hr := run_storeVar_row (P := Tryz.prog) wx g 26 26 D C hD (by rw [h3]; kernel_rfl) hDs h1c
        refine ⟨wx.setRow g C, ?_, setRow_same hD, setRow_save _ _ _⟩
        unfold execOp
        simp only [show wa.eval (.tmp 3) = _ from hg, e14, Sem.run_bind, Instr.storeAt, Instr.sureAddr, Sem.run_pure, Result.andThen, hr]
  · intro a wz hbz hsame hall hbox
    obtain ⟨g, C, eg, hg, hC, hX, _⟩ := hbox 0 (by decide)
    obtain ⟨g6, e6, _⟩ := hall 6 (by kernel_rfl)
    obtain ⟨a9, c9, e9, h9⟩ := hall 9 (by kernel_rfl)
    obtain ⟨g10, e10, _⟩ := hall 10 (by kernel_rfl)
    obtain ⟨a13, c13, e13, h13⟩ := hall 13 (by kernel_rfl)
    obtain ⟨C14, e14, _⟩ := hall 14 (by kernel_rfl)
    obtain ⟨aw, cw, ac, cc, rfl, hW, hCh⟩ := hX
    have he := act_same hsame [6, 7, 8, 9, 10, 11, 12, 13, 14, 3] (by kernel_rfl)
    simp only [List.foldl_cons, List.foldl_nil] at he
    rw [e6, show a.eval (.tmp 7) = _ from hall 7 (by kernel_rfl), show a.eval (.tmp 8) = _ from hall 8 (by kernel_rfl), e9, e10, show a.eval (.tmp 11) = _ from hall 11 (by kernel_rfl), show a.eval (.tmp 12) = _ from hall 12 (by kernel_rfl), e13, e14, show a.eval (.tmp 3) = _ from eg] at he
    simp only [Act.put, List.setIfInBounds_toArray, List.set_cons_zero, List.set_cons_succ] at he
    subst he
    have HZ := Lib.hid (And.intro hbz (And.intro hC (And.intro hW hCh)))
    have hlen := HB1.out.2.2.2.pts.len_le
    have hp9 := hs.pts
    have HIMG := Lib.hid hs.img
    clear hsame hall hbox e6 e9 e10 e13 e14 eg h9 h13 hbz hC hW hCh
    go_wp2_with fail
    go_loopw [4] (fun s wr => ∃ (k : Nat) (L : List PtV) (pa : Option Addr) (pc : Nat), s = .int .i64 k ∧ k ≤ V.ps.length ∧ L.length = k ∧ Hid (L.map PtV.pt = (V.ps.take k).map PtV.pt) ∧ VOwn cPt 5 46 w1.heap.size wr pa L pc ∧ (∀ x ∈ L, Cit.Own 5 w1.heap.size wr x.a x.img x.c) ∧
      wr.heap[g]? = some (.cells #[.slice aw V.ws.length cw, .slice pa L.length pc, .slice ac V.cs.length cc] 26 (0, 0)) ∧ VOwn cWin 2 77 w1.heap.size wr aw V.ws cw ∧ VOwn cCh 5 48 w1.heap.size wr ac V.cs cc ∧ Below w1.heap.size w1 wr) (fun s _ => V.ps.length - (intOf s).toNat)
    case atStart => exact ⟨0, [], none, 0, rfl, Nat.zero_le _, rfl, rfl, VOwn.nil_ _ _ _ _ _, fun x hx => by simp at hx, HZ.out.2.1, HZ.out.2.2.1, HZ.out.2.2.2, HZ.out.1⟩
    case round =>
      obtain ⟨k, L, pa, pc, rfl, hk, hLk, HL, hP, hM, hG, hW, hCh, B⟩ := hrel
      have hIk := HB1.out.2.1.keep B
      have hVk := HB1.out.2.2.2.stay B
      have hglt : g < wr.heap.size := (Array.getElem?_eq_some_iff.1 hG).1
      obtain ⟨c0, c1, c2⟩ := hIk
      by_cases hlt : k < V.ps.length
      · have i0 := hVk.pts.index etP k hlt
        obtain ⟨u0, u1, u2, u3, u4⟩ := pts_cells hVk.pts (Below.refl _ _) k hlt
        have hr := hVk.img V.ps[k] (List.getElem_mem hlt)
        have hi9 := HIMG.out V.ps[k] (List.getElem_mem hlt)
        obtain ⟨x, hx⟩ : ∃ x : PtV, Hid (x = V.ps[k]) := ⟨V.ps[k], rfl⟩
        rw [← hx.out] at u0 u1 u2 u3 u4 hr hi9
        have Ba : Below wr.heap.size wr (wr.alloc (.cells #[.int .i64 x.id.1, .int .i64 x.reg.base.1, .int .i64 x.reg.size.1, .bool x.keep, .slice x.a x.img.length x.c] 46)) := (Below.refl _ wr).alloc (Nat.le_refl _) _
        have Bb : Below wr.heap.size wr ((wr.alloc (.cells #[.int .i64 x.id.1, .int .i64 x.reg.base.1, .int .i64 x.reg.size.1, .bool x.keep, .slice x.a x.img.length x.c] 46)).alloc (.cells #[] 5)) := Ba.alloc (by simp) _
        have ho0 := (vown_lit (wr.alloc (.cells #[.int .i64 x.id.1, .int .i64 x.reg.base.1, .int .i64 x.reg.size.1, .bool x.keep, .slice x.a x.img.length x.c] 46)) #[] 5 1 ([] : List UInt8) cb_len rfl (by simp))
        rw [World.size_alloc] at ho0
        have hrv := hr.stay Bb
        have hvb : Vec cb 1 _ x.a x.img x.c := Vec.of1 (v := vb) hrv.le hrv.top hrv.nil hrv.spot hrv.cell
        obtain ⟨a2, d2, w2, hrun, ho2, hb2⟩ := run_vapp0 (P := Tryz.prog) (ElemType.ofBytes btP) cb_len cb_one 40 ho0 hvb (by omega) (by rw [World.size_alloc, World.size_alloc]; omega)
        have HRUN := Lib.hid hrun
        have hsb : ((wr.alloc (.cells #[.int .i64 x.id.1, .int .i64 x.reg.base.1, .int .i64 x.reg.size.1, .bool x.keep, .slice x.a x.img.length x.c] 46)).alloc (.cells #[] 5)).heap.size = wr.heap.size + 2 := by simp
        have B2 : Below wr.heap.size wr w2 := Bb.trans (hb2.mono (by omega))
        have e2 : w2.heap[wr.heap.size]? = some (.cells #[.int .i64 x.id.1, .int .i64 x.reg.base.1, .int .i64 x.reg.size.1, .bool x.keep, .slice x.a x.img.length x.c] 46 (0, 0)) := (hb2.block _ (by omega)).trans ((Below.heap_alloc _ _ _ (by simp)).trans (heap_alloc_new _ _))
        have q0 := cells_of e2 0 rfl
        have q1 := cells_of e2 1 rfl
        have q2 := cells_of e2 2 rfl
        have q3 := cells_of e2 3 rfl
        have q4 := cells_of e2 4 rfl
        have f2 := frozen_no e2
        have B3 : Below wr.heap.size wr (w2.setCell ⟨wr.heap.size, 4, none⟩ (.slice a2 x.img.length d2)) := B2.setCell (p := ⟨wr.heap.size, 4, none⟩) (Nat.le_refl _) _
        have ho2 := ho2.own
        have hI2 : Cit.Own 5 w1.heap.size (w2.setCell ⟨wr.heap.size, 4, none⟩ (.slice a2 x.img.length d2)) a2 x.img d2 := (ho2.save (S := (· ≠ wr.heap.size)) Save.set (ownb_bx ho2 e2 neUP)).low (by have := B.size; simp; omega)
        have hG3 := (B3.block g hglt).trans hG
        have gq := (cells_of ((B2.block g hglt).trans hG) 1 rfl : w2.cell? ⟨g, 1, none⟩ = some (.slice pa L.length pc))
        have hgne : g ≠ wr.heap.size := by omega
        obtain ⟨y, hy⟩ : ∃ y : PtV, y = ⟨x.id, x.reg, x.keep, a2, x.img, d2⟩ := ⟨_, rfl⟩
        obtain ⟨W3, hW3⟩ : ∃ W3, W3 = w2.setCell ⟨wr.heap.size, 4, none⟩ (.slice a2 x.img.length d2) := ⟨_, rfl⟩
        have hsz3 : W3.heap.size = w2.heap.size := by rw [hW3]; simp [World.setCell]
        have hm36 := vec_lit W3 #[.int .i64 x.id.1, .int .i64 x.reg.base.1, .int .i64 x.reg.size.1, .bool x.keep, .slice a2 x.img.length d2] 46 5 [y] cPt_len (by rw [hy]; rfl) (by simp)
        rw [hsz3] at hm36
        rw [← hW3] at B3 hI2 hG3
        have B36 : Below wr.heap.size wr (W3.alloc (.cells #[.int .i64 x.id.1, .int .i64 x.reg.base.1, .int .i64 x.reg.size.1, .bool x.keep, .slice a2 x.img.length d2] 46)) := B3.alloc B3.size _
        have hI36 := hI2.stay ((Below.refl _ W3).alloc (Nat.le_refl _) (.cells #[.int .i64 x.id.1, .int .i64 x.reg.base.1, .int .i64 x.reg.size.1, .bool x.keep, .slice a2 x.img.length d2] 46))
        rw [hW3] at hm36 B36 hI36
        have HO36 := Lib.hid (hP.stay B36)
        have HV36 := Lib.hid hm36
        have HG36 := Lib.hid ((B36.block g hglt).trans hG)
        have HGN := Lib.hid (vown_ne hP hG neP)
        have HX36 := Lib.hid (And.intro (hW.stay B36) (And.intro (hCh.stay B36) (And.intro hI36 (B.trans (B36.mono B.size)))))
        have HM36 := Lib.hid (fun z (hz : z ∈ L) => (hM z hz).stay B36)
        have hL9 : L.length ≤ 100 := by omega
        have HLK := Lib.hid hLk
        have HLN : Hid ((L ++ [y]).map PtV.pt = (V.ps.take (k + 1)).map PtV.pt) := by
          rw [Hid, List.map_append, HL.out, List.take_succ_eq_append_getElem hlt, List.map_append, hy, ← hx.out]; rfl
        have HY := Lib.hid hy
        clear hr hrv hvb ho0 hrun ho2 hb2 Ba Bb hP hM hG hW hCh B hVk e2 hsb B2 B3 hI2 hG3 hLk hy hW3 hsz3 hm36 B36 hI36
        go_wp2_with (first
          | ((with_reducible refine wpList_value (o := ⟨some 30, .call _, _, _, _, _⟩) (by with_unfolding_all rfl) (exec_append (by with_unfolding_all rfl) (by with_unfolding_all rfl) (by with_unfolding_all rfl) HRUN.out) ?_))
          | ((with_reducible refine wpList_value (o := ⟨some 35, .buildSlice _ _ _, _, _, _, _⟩) (by with_unfolding_all rfl) (build1c etP (.tmp 34) (.agg #[.int .i64 x.id.1, .int .i64 x.reg.base.1, .int .i64 x.reg.size.1, .bool x.keep, .slice a2 x.img.length d2]) #[.int .i64 x.id.1, .int .i64 x.reg.base.1, .int .i64 x.reg.size.1, .bool x.keep, .slice a2 x.img.length d2] rfl (by with_unfolding_all rfl) (by with_unfolding_all rfl) (by with_unfolding_all rfl) (by decide) _) ?_))
          | ((with_reducible refine wpList_vapp (o := ⟨some 36, .call _, _, _, _, _⟩) etP cPt_len cPt_one (.tmp 33) (.tmp 35) (by with_unfolding_all rfl) (by with_unfolding_all rfl) HO36.out HV36.out (by simp) (by simp; omega) HX36.out.2.2.2.size (by with_unfolding_all rfl) (by first | with_unfolding_all rfl | simp [Act.eval, Act.put]) ?_); intro a4 c4 w4 hO4 hg4 hn4; have HO4 := Lib.hid (And.intro hO4 hg4); have hlt36 := (Array.getElem?_eq_some_iff.1 HG36.out).1; have e4 := (hg4.block g hlt36 (fun e => HGN.out g e.symm rfl)).trans HG36.out; have r1 := cells_of e4 1 rfl; have fr := frozen_no e4; have HE4 := Lib.hid e4; clear hO4 hg4 hn4 e4 hlt36))
        have hG4 := HE4.out
        have hgg : (w4.setCell ⟨g, 1, none⟩ (.slice a4 (L.length + 1) c4)).heap[g]? = some (.cells #[.slice aw V.ws.length cw, .slice a4 (L ++ [y]).length c4, .slice ac V.cs.length cc] 26 (0, 0)) := by simp [World.setCell, Array.getElem?_modify, hG4]
        have S4 : Save (fun k => some k ≠ blk pa) _ w4 := Save.grown HO4.out.2
        have S5 : Save (· ≠ g) w4 (w4.setCell ⟨g, 1, none⟩ (.slice a4 (L.length + 1) c4)) := Save.set
        have hneP : ∀ {α : Type} {f : α → List Value} {n : Nat} {E : TypeId} {a : Option Addr} {l : List α} {c : Nat} {W : World}, VOwn f n E w1.heap.size W a l c → VOwn cPt 5 46 w1.heap.size W pa L pc → E ≠ 46 → ∀ k, blk a = some k → some k ≠ blk pa := by
          intro α f n E a l c W h hp hE k hk e
          obtain ⟨D, hD⟩ := vown_block hp e.symm
          exact vown_ne h hD hE k hk rfl
        have oW := HX36.out.1.save S4 (hneP HX36.out.1 HO36.out neWP)
        have oC := HX36.out.2.1.save S4 (hneP HX36.out.2.1 HO36.out neCP)
        have oI := HX36.out.2.2.1.vown.save S4 (hneP HX36.out.2.2.1.vown HO36.out neUP)
        have oM : ∀ z ∈ L, VOwn cb 1 5 w1.heap.size w4 z.a z.img z.c := fun z hz => (HM36.out z hz).vown.save S4 (hneP (HM36.out z hz).vown HO36.out neUP)
        have oP := HO4.out.1.save S5 (vown_ne HO4.out.1 hG4 neP)
        have oW := oW.save S5 (vown_ne oW hG4 neW)
        have oC := oC.save S5 (vown_ne oC hG4 neC)
        have oI := oI.save S5 (vown_ne oI hG4 neU)
        have oM : ∀ z ∈ L, VOwn cb 1 5 w1.heap.size _ z.a z.img z.c := fun z hz => (oM z hz).save S5 (vown_ne (oM z hz) hG4 neU)
        have hB5 := (HX36.out.2.2.2.trans (HO36.out.grown HO4.out.2 HX36.out.2.2.2.size)).setCell (p := ⟨g, 1, none⟩) hg (.slice a4 (L.length + 1) c4)
        have hll : (L ++ [y]).length = L.length + 1 := by simp
        go_roundw
        case rel => exact ⟨k + 1, L ++ [y], a4, c4, by go_num, by omega, by have := HLK.out; rw [hll]; omega, HLN.out, oP, fun z hz => (List.mem_append.1 hz).elim (fun h => (oM z h).own) (fun h => by rw [List.mem_singleton] at h; subst h; rw [HY.out]; exact oI.own), hgg, oW, oC, hB5⟩
        case measure => simp [intOf]; omega
      · have hk2 : k = V.ps.length := by omega
        have HLE : Hid (L.map PtV.pt = V.ps.map PtV.pt) := by rw [Hid, HL.out, hk2, List.take_length]
        have HLK := Lib.hid hLk
        have s0 := cells_of hG 0 rfl
        have s1 := cells_of hG 1 rfl
        have s2 := cells_of hG 2 rfl
        have HN : Hid (wr.heap[w.heap.size + 1]? = some (.cells #[.slice none 0 0, .slice none 0 0, .slice none 0 0] 26 (0, 0))) := (B.block _ (by omega)).trans HB1.out.2.2.1
        have HK := Lib.hid (And.intro hP (And.intro hM (And.intro hW (And.intro hCh (HB1.out.1.trans (B.mono HB1.out.1.size))))))
        have HNE := Lib.hid (And.intro (vown_ne hP HN.out neP) (And.intro (fun z hz => ownb_bx (hM z hz) HN.out neU) (And.intro (vown_ne hW HN.out neW) (vown_ne hCh HN.out neC))))
        have hw1s := HB1.out.1.size
        clear hk2 hLk hP hM hG hW hCh B
        go_wp2_with ((with_reducible refine wpList_storeB (o := ⟨none, .store _ (.tmp 2) (.tmp 38), _, _, _, _⟩) rowCfg (.tmp 2) (.tmp 38) (by with_unfolding_all rfl) (by with_unfolding_all rfl) (by with_unfolding_all rfl) (by with_unfolding_all rfl) (by with_unfolding_all rfl) HN.out (by with_unfolding_all rfl) (by with_unfolding_all rfl) (by simp [Value.oneCell']) ?_); intro w7 hb7 hS7; have HB7 := Lib.hid hb7; have HS7 := Lib.hid hS7; clear hb7 hS7)
        refine bodyPost_ret (resB1 rowCfg rfl (by rfl) HB7.out rfl) rfl ⟨⟨aw, V.ws, cw, pa, L, pc, ac, V.cs, cc⟩, rfl, ?_, OwnedV.low (B := w1.heap.size) ⟨HK.out.2.2.1.save HS7.out HNE.out.2.2.1, HK.out.1.save HS7.out HNE.out.1, HK.out.2.2.2.1.save HS7.out HNE.out.2.2.2, fun z hz => (HK.out.2.1 z hz).save HS7.out (HNE.out.2.1 z hz)⟩ hw1s, ?_⟩
        · rw [cfg_eq_iff]; exact ⟨rfl, HLE.out, rfl⟩
        · exact HK.out.2.2.2.2.trans (HS7.out.below HK.out.2.2.2.2.size (fun k hk => by omega))
end Go.Proofs.YtlholdllibghbaaGreat

/- 'p, ok := config.Part(c, id)' in a region that draws its order: a variable of its own is laid and stored into. Parts that are alike. No condition. -/
namespace Go.Proofs.YtlholdllibghbaaGreat
open Go Go.RowKit Go.Cit

@[reducible] def cA (x : PtV) : Array Value := #[.int .i64 x.id.1, .int .i64 x.reg.base.1, .int .i64 x.reg.size.1, .bool x.keep, .slice x.a x.img.length x.c]
end Go.Proofs.YtlholdllibghbaaGreat

