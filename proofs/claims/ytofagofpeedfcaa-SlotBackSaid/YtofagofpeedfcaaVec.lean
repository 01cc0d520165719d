/- Slices of any elements (each n cells): read, owned, made, appended to. No condition. -/
import Derived.Test.YtofagofpeedfcaaGc
import Derived.Great.BuildSlice
import Derived.Great.FillDense
namespace Go.Cit
open Go Go.RowKit

/-- A slice type T, its element type E: n cells, by bytes, z the zero value. -/
structure ElemType (P : Program) (T E : TypeId) (n by_ : Nat) (z : Value) : Prop where
  slice : P.underlying T = some (.slice E)
  info : (P.info? E).map (fun i => (i.zero, i.size, i.bytes)) = some (some z, n, by_)
  sz : ∀ w, (sizeOf E).run P w = .ok n w
  zs : z.cells.size = n
  pos : 0 < n
  few : by_ ≤ 10000

/-- The slice (a, l.length, cap) reads as l in w: element x as the n cells f x. -/
structure Vec {α : Type} (f : α → List Value) (n : Nat) (w : World) (a : Option Addr) (l : List α) (cap : Nat) : Prop where
  le : l.length ≤ cap
  top : cap ≤ maxLen
  nil : a = none → cap = 0
  spot : l ≠ [] → ∃ b off, a = some ⟨b, off, none⟩
  cell : ∀ i (h : i < l.length) j, j < n → w.cell? (ad a (i * n + j)) = (f l[i])[j]?
/-- It is the call's own, from block B on. -/
structure VOwn {α : Type} (f : α → List Value) (n : Nat) (E : TypeId) (B : Nat) (w : World) (a : Option Addr) (l : List α) (cap : Nat) : Prop where
  row : w.ownsRow B E n (.slice a l.length cap) l.length (l.flatMap f)

section
variable {α : Type} {f : α → List Value} {n : Nat}
theorem Vec.nil_ (w : World) : Vec f n w none [] 0 := ⟨Nat.le_refl _, Nat.zero_le _, fun _ => rfl, fun h => (h rfl).elim, fun i h => by simp at h⟩
theorem Vec.len_le {w a cap} {l : List α} (h : Vec f n w a l cap) : l.length ≤ 9223372036854775807 := by
  have h1 := h.le; have h2 := h.top; unfold maxLen at h2; omega
theorem Vec.lt {w a cap} {l : List α} (h : Vec f n w a l cap) (hf : ∀ x, (f x).length = n) {i j : Nat} (hi : i < l.length) (hj : j < n) : (ad a (i * n + j)).block < w.heap.size := by
  have := h.cell i hi j hj
  have hj' : j < (f l[i]).length := by rw [hf]; exact hj
  rw [List.getElem?_eq_getElem hj'] at this
  exact World.block_lt_of_cell? w _ this
theorem Vec.stay {w w' : World} {a cap} {l : List α} (h : Vec f n w a l cap) (hf : ∀ x, (f x).length = n) (hb : Below w.heap.size w w') : Vec f n w' a l cap :=
  ⟨h.le, h.top, h.nil, h.spot, fun i hi j hj => (hb.cell (h.lt hf hi hj)).trans (h.cell i hi j hj)⟩
theorem Vec.drewN {w : World} {a cap} {l : List α} (h : Vec f n w a l cap) (k : Nat) : Vec f n (w.drewN k) a l cap := ⟨h.le, h.top, h.nil, h.spot, h.cell⟩
theorem Vec.save {S : Nat → Prop} {w w' : World} {a cap} {l : List α} (h : Vec f n w a l cap) (hf : ∀ x, (f x).length = n) (hs : Save S w w') (ha : l ≠ [] → ∀ g, blk a = some g → S g) : Vec f n w' a l cap := by
  refine ⟨h.le, h.top, h.nil, h.spot, fun i hi j hj => ?_⟩
  have hne : l ≠ [] := by intro h0; simp [h0] at hi
  obtain ⟨g, off, rfl⟩ := h.spot hne
  exact (hs.cell (h.lt hf hi hj) (ha hne g rfl)).trans (h.cell i hi j hj)
/-- Elements of one cell. -/
theorem Vec.cell1 {v : α → Value} {w a cap} {l : List α} (h : Vec (fun x => [v x]) 1 w a l cap) (i : Nat) (hi : i < l.length) : w.cell? (ad a i) = some (v l[i]) := by
  have := h.cell i hi 0 (by decide)
  simpa using this
theorem Vec.of1 {v : α → Value} {w a cap} {l : List α} (h1 : l.length ≤ cap) (h2 : cap ≤ maxLen) (h3 : a = none → cap = 0) (h4 : l ≠ [] → ∃ b off, a = some ⟨b, off, none⟩) (h5 : ∀ i (h : i < l.length), w.cell? (ad a i) = some (v l[i])) : Vec (fun x => [v x]) 1 w a l cap :=
  ⟨h1, h2, h3, h4, fun i hi j hj => by obtain rfl : j = 0 := by omega
                                       rw [Nat.mul_one, Nat.add_zero, h5 i hi]; rfl⟩

theorem flatGet {β : Type} {f : α → List β} (hf : ∀ x, (f x).length = n) : ∀ (l : List α) (i j : Nat) (h : i < l.length), j < n → (l.flatMap f)[i * n + j]? = (f l[i])[j]?
  | [], i, j, h, _ => by simp at h
  | x :: l, 0, j, _, hj => by
    rw [List.flatMap_cons, List.getElem?_append_left (by rw [hf]; omega)]
    simp
  | x :: l, i + 1, j, h, hj => by
    have e : (i + 1) * n + j - n = i * n + j := by rw [Nat.succ_mul]; omega
    rw [List.flatMap_cons, List.getElem?_append_right (by rw [hf, Nat.succ_mul]; omega), hf, e]
    exact flatGet hf l i j (by simpa using h) hj
theorem flatLen {β : Type} {f : α → List β} (hf : ∀ x, (f x).length = n) (l : List α) : (l.flatMap f).length = l.length * n := by
  induction l with
  | nil => simp
  | cons x l ih => rw [List.flatMap_cons, List.length_append, hf, ih, List.length_cons, Nat.succ_mul]; omega
theorem add_ad (g off j : Nat) : (⟨g, off, none⟩ : Addr).add j = ad (some ⟨g, off, none⟩) j := by unfold Addr.add ad; split <;> simp_all
theorem ad_some (g i : Nat) : ad (some ⟨g, 0, none⟩) i = ⟨g, i, none⟩ := by simp [ad]

theorem VOwn.vec {E B w a cap} {l : List α} (h : VOwn f n E B w a l cap) (hf : ∀ x, (f x).length = n) : Vec f n w a l cap := by
  rcases h.row.2 with ⟨hv, hn⟩ | ⟨g, c, cur, hv, hb, hg, hle, hm, hc, ht⟩
  · injection hv with h1 h2 h3
    obtain rfl : l = [] := List.eq_nil_of_length_eq_zero hn
    subst h1 h3
    exact Vec.nil_ w
  · have hcells := h.row.cells (g := g) (by injection hv with h1; rw [h1]; rfl)
    injection hv with h1 h2 h3
    subst h1 h3
    refine ⟨hle, hm, fun h0 => by simp at h0, fun _ => ⟨g, 0, rfl⟩, fun i hi j hj => ?_⟩
    have hj' : j < (f l[i]).length := by rw [hf]; exact hj
    have e := flatGet hf l i j hi hj
    rw [List.getElem?_eq_getElem hj'] at e ⊢
    have := hcells (i * n + j) _ e
    have ea : (⟨g, 0, none⟩ : Addr).add (i * n + j) = ad (some ⟨g, 0, none⟩) (i * n + j) := by unfold Addr.add ad; split <;> simp_all
    rwa [ea] at this
theorem VOwn.blk_ge {E B w a cap} {l : List α} (h : VOwn f n E B w a l cap) {g : Nat} (hg : blk a = some g) : B ≤ g ∧ g < w.heap.size := by
  cases a with
  | none => simp [blk] at hg
  | some x => exact h.row.lt g (by simpa [Value.ownBlock, blk] using hg)
theorem VOwn.save {S : Nat → Prop} {E B} {w w' : World} {a cap} {l : List α} (r : VOwn f n E B w a l cap) (h : Save S w w') (hs : ∀ g, blk a = some g → S g) : VOwn f n E B w' a l cap := by
  refine ⟨r.row.1, ?_⟩
  rcases r.row.2 with hn | ⟨g, c, cur, hv, hbg, hg, rest⟩
  · exact .inl hn
  · injection hv with h1 h2 h3
    subst h1
    refine .inr ⟨g, c, cur, by rw [h2, h3], hbg, ?_, rest⟩
    rw [h.block g (Array.getElem?_eq_some_iff.1 hg).1 (hs g rfl)]; exact hg
theorem VOwn.alloc {E B w a cap} {l : List α} (h : VOwn f n E B w a l cap) (o : Obj) : VOwn f n E B (w.alloc o) a l cap := ⟨h.row.alloc o⟩
theorem VOwn.low {E B B' w a cap} {l : List α} (h : VOwn f n E B w a l cap) (hB : B' ≤ B) : VOwn f n E B' w a l cap := by
  refine ⟨h.row.1, ?_⟩
  rcases h.row.2 with hn | ⟨g, c, cur, hv, hbg, rest⟩
  · exact .inl hn
  · exact .inr ⟨g, c, cur, hv, Nat.le_trans hB hbg, rest⟩
theorem VOwn.nil_ (f : α → List Value) (n : Nat) (E B : Nat) (w : World) : VOwn f n E B w none [] 0 := ⟨World.ownsRow_nil w B E n⟩
theorem VOwn.stay {E B} {w w' : World} {a cap} {l : List α} (r : VOwn f n E B w a l cap) (h : Below w.heap.size w w') : VOwn f n E B w' a l cap := r.save (Save.of (S := fun _ => True) h) (fun _ _ => trivial)
end

section
variable {P : Program} {T E : TypeId} {n by_ : Nat} {z : Value} {α : Type} {f : α → List Value}
theorem Vec.index (hE : ElemType P T E n by_ z) {w a cap} {l : List α} (h : Vec f n w a l cap) (i : Nat) (hi : i < l.length) :
    ∀ w, (Instr.indexAt T (.slice a l.length cap) (.int .i64 (i : Int))).run P w = .ok (.pointer (some (ad a (i * n)))) w := by
  intro w
  have hT := hE.slice
  obtain ⟨b, off, rfl⟩ := h.spot (by intro h0; simp [h0] at hi)
  have he : P.elem T = E := by simp [Program.elem, hT]
  rw [run_indexAt_slice w T _ _ _ _ _ (by rw [he]; exact hT), if_pos (by omega), he, hE.sz]
  simp only [Result.andThen, ad, Addr.add]
  by_cases h0 : i * n = 0
  · simp [h0]
  · simp [h0]
theorem Vec.index1 {v : α → Value} (hE : ElemType P T E 1 by_ z) {w a cap} {l : List α} (h : Vec (fun x => [v x]) 1 w a l cap) (i : Nat) (hi : i < l.length) :
    ∀ w, (Instr.indexAt T (.slice a l.length cap) (.int .i64 (i : Int))).run P w = .ok (.pointer (some (ad a i))) w := by
  have := h.index hE i hi
  rwa [Nat.mul_one] at this

/-- append(s, x...), s the call's own, x a row that is not empty. -/
theorem wp_vapp (hE : ElemType P T E n by_ z) (hf : ∀ x, (f x).length = n) (h1 : ∀ x, ∀ u ∈ f x, u.oneCell' = true) {w : World} {o : Oper} {act : Act} {K : Act → World → Prop} {Q : Exit → Act → World → Prop} (s x : Operand)
    (ho : o.op = .call { callee := .builtin .append, args := #[s, x], argTypes := #[T, T] }) {B : Nat}
    {a b : Option Addr} {l m : List α} {cap c : Nat} (hown : VOwn f n E B w a l cap) (hm : Vec f n w b m c) (hne : m ≠ []) (hlen : l.length + m.length ≤ 1000000000) (hbase : B ≤ w.heap.size)
    (hs : act.eval s = .slice a l.length cap) (hx : act.eval x = .slice b m.length c)
    (h : ∀ a' cap' w', VOwn f n E B w' a' (l ++ m) cap' → w.grownBy w' (blk a) → Near w.heap.size a a' → K (act.put o.dst (.slice a' (l ++ m).length cap')) w') : Oper.wp P o act w K Q := by
  obtain ⟨i, hi, hz0, hz1, hz2⟩ := info_parts hE.info
  obtain ⟨g, off, rfl⟩ := hm.spot hne
  refine wp_append_lies w s x T ho B E i z n by_ hE.slice hi hz0 hz1 hz2 hE.zs hE.pos _ l.length (l.flatMap f) hs hown.row ⟨g, off, none⟩ m.length c (m.flatMap f) hx (flatLen hf m) ?_ ?_ (List.length_pos_iff.2 hne) (by unfold maxLen; omega) ?_ hbase w.heap.size rfl ?_
  · intro j u hu
    have hj : j < m.length * n := by rw [← flatLen hf m]; exact (List.getElem?_eq_some_iff.1 hu).1
    have hn := hE.pos
    have e1 : j = j / n * n + j % n := by rw [Nat.mul_comm]; exact (Nat.div_add_mod j n).symm
    have hi' : j / n < m.length := (Nat.div_lt_iff_lt_mul hn).2 hj
    have hj' : j % n < n := Nat.mod_lt _ hn
    rw [add_ad]
    rw [e1] at hu ⊢
    rw [flatGet hf m _ _ hi' hj'] at hu
    rw [hm.cell _ hi' _ hj', hu]
  · intro u hu
    obtain ⟨y, _, hy⟩ := List.mem_flatMap.1 hu
    exact h1 y u hy
  · have := Nat.mul_le_mul hlen hE.few
    omega
  · intro g' cap' w' hown' hgr hat hlt
    rw [ownBlock_slice] at hgr hat
    rw [← List.length_append, ← List.flatMap_append] at hown'
    rw [← List.length_append]
    refine h (some ⟨g', 0, none⟩) cap' w' ⟨hown'⟩ hgr (fun k hk => ?_)
    simp only [blk, Option.map_some, Option.some.injEq] at hk
    subst hk
    rcases hat with h1 | h1
    · exact .inl h1
    · exact .inr (by omega)
theorem wpList_vapp (hE : ElemType P T E n by_ z) (hf : ∀ x, (f x).length = n) (h1 : ∀ x, ∀ u ∈ f x, u.oneCell' = true) {w : World} {ops : Array Oper} {rest : List Oper} {o : Oper} {act : Act} {Q : Exit → Act → World → Prop} (s x : Operand) (hgd : o.guard = none)
    (ho : o.op = .call { callee := .builtin .append, args := #[s, x], argTypes := #[T, T] }) {B : Nat}
    {a b : Option Addr} {l m : List α} {cap c : Nat} (hown : VOwn f n E B w a l cap) (hm : Vec f n w b m c) (hne : m ≠ []) (hlen : l.length + m.length ≤ 1000000000) (hbase : B ≤ w.heap.size)
    (hs : act.eval s = .slice a l.length cap) (hx : act.eval x = .slice b m.length c)
    (h : ∀ a' cap' w', VOwn f n E B w' a' (l ++ m) cap' → w.grownBy w' (blk a) → Near w.heap.size a a' → wpList P ops Q rest (act.put o.dst (.slice a' (l ++ m).length cap')) w') : wpList P ops Q (o :: rest) act w :=
  wpList_plain hgd fun _ hK => wp_vapp hE hf h1 s x ho hown hm hne hlen hbase hs hx fun a' cap' w' g1 g2 g3 => hK _ _ (h a' cap' w' g1 g2 g3)

/-- A slice written out: its elements' cells. -/
theorem vown_lit (w : World) (cs : Array Value) (E n : Nat) (l : List α) (hf : ∀ x, (f x).length = n) (h : cs = (l.flatMap f).toArray) (hl : l.length ≤ 1000000000) :
    VOwn f n E w.heap.size (w.alloc (.cells cs E)) (some ⟨w.heap.size, 0, none⟩) l l.length := by
  refine ⟨?_⟩
  subst h
  have hs : (l.flatMap f).toArray.size = l.length * n := by rw [List.size_toArray, flatLen hf]
  have := World.ownsRow_lit (base := w.heap.size) (e := E) (size := n) w (l.flatMap f).toArray l.length (Nat.le_refl _) (by unfold maxLen; omega) hs
  simpa using this
theorem vec_lit (w : World) (cs : Array Value) (E n : Nat) (l : List α) (hf : ∀ x, (f x).length = n) (h : cs = (l.flatMap f).toArray) (hl : l.length ≤ 1000000000) :
    Vec f n (w.alloc (.cells cs E)) (some ⟨w.heap.size, 0, none⟩) l l.length := (vown_lit w cs E n l hf h hl).vec hf

/-- s = append(s, x): x lies in a new box. All side conditions are facts of the world ahead of the box. -/
theorem wpList_vapp1 (hE : ElemType P T E n by_ z) (hf : ∀ x, (f x).length = n) (h1 : ∀ x, ∀ u ∈ f x, u.oneCell' = true) {w0 : World} {ops : Array Oper} {rest : List Oper} {o : Oper} {act : Act} {Q : Exit → Act → World → Prop} (s x : Operand) (hgd : o.guard = none)
    (ho : o.op = .call { callee := .builtin .append, args := #[s, x], argTypes := #[T, T] }) {B : Nat} {cs : Array Value}
    {a : Option Addr} {l : List α} {cap : Nat} {y : α} (hown : VOwn f n E B w0 a l cap) (hcs : cs = (f y).toArray) (hlen : l.length + 1 ≤ 1000000000) (hbase : B ≤ w0.heap.size)
    (hs : act.eval s = .slice a l.length cap) (hx : act.eval x = .slice (some ⟨w0.heap.size, 0, none⟩) 1 1)
    (h : ∀ a' cap' w', VOwn f n E B w' a' (l ++ [y]) cap' → w0.grownBy w' (blk a) → Near w0.heap.size a a' → wpList P ops Q rest (act.put o.dst (.slice a' (l ++ [y]).length cap')) w') : wpList P ops Q (o :: rest) act (w0.alloc (.cells cs E)) := by
  have hv : Vec f n (w0.alloc (.cells cs E)) (some ⟨w0.heap.size, 0, none⟩) [y] 1 := vec_lit w0 cs E n [y] hf (by rw [hcs]; simp) (by simp)
  refine wpList_vapp hE hf h1 s x hgd ho (hown.alloc _) hv (by simp) hlen (by simp; omega) hs hx ?_
  intro a' cap' w' g1 g2 g3
  refine h a' cap' w' g1 ?_ (fun g hg => ?_)
  · have h0 := World.grownBy_alloc w0 (.cells cs E) (blk a)
    refine ⟨g2.os.trans h0.os, g2.tape.trans h0.tape, g2.output.trans h0.output, Nat.le_trans h0.size g2.size, fun k hk hne => ?_⟩
    rw [g2.block k (Nat.lt_of_lt_of_le hk h0.size) hne, h0.block k hk hne]
  · rcases g3 g hg with h | h
    · exact .inl h
    · right; simp at h; omega
theorem VOwn.grown {E B w w' a cap} {l : List α} (h : VOwn f n E B w a l cap) (hg : w.grownBy w' (blk a)) (hb : B ≤ w.heap.size) : Below B w w' :=
  grown_below hg hb (fun _ hk => (h.blk_ge hk).1)

/-- The same as one step of a region that draws its order (the draw stands outermost). -/
theorem step_vapp1 (hE : ElemType P T E n by_ z) (hf : ∀ x, (f x).length = n) (h1 : ∀ x, ∀ u ∈ f x, u.oneCell' = true) {w0 : World} {ops : Array Oper} {o : Oper} {act : Act} {K : Act → World → Prop} {Q : Exit → Act → World → Prop} {F : Prop} (s x : Operand) (hgd : o.guard = none)
    (ho : o.op = .call { callee := .builtin .append, args := #[s, x], argTypes := #[T, T] }) {B : Nat} {cs : Array Value}
    {a : Option Addr} {l : List α} {cap : Nat} {y : α} (hown : VOwn f n E B w0 a l cap) (hcs : cs = (f y).toArray) (hlen : l.length + 1 ≤ 1000000000) (hbase : B ≤ w0.heap.size)
    (hs : act.eval s = .slice a l.length cap) (hx : act.eval x = .slice (some ⟨w0.heap.size, 0, none⟩) 1 1)
    (h : ∀ a' cap' w', VOwn f n E B w' a' (l ++ [y]) cap' → w0.grownBy w' (blk a) → Near w0.heap.size a a' → K (act.put o.dst (.slice a' (l ++ [y]).length cap')) w') :
    if Region.wanted o (yielded ops act.tmps) = true then Oper.wp P o act ((w0.alloc (.cells cs E)).drew) K Q else F := by
  have hw : Region.wanted o (yielded ops act.tmps) = true := by simp [Region.wanted, hgd]
  rw [if_pos hw]
  have hv : Vec f n ((w0.alloc (.cells cs E)).drew) (some ⟨w0.heap.size, 0, none⟩) [y] 1 := (vec_lit w0 cs E n [y] hf (by rw [hcs]; simp) (by simp)).drewN 1
  have hO : VOwn f n E B ((w0.alloc (.cells cs E)).drew) a l cap := (hown.alloc _).save (Save.drewN (S := fun _ => True) _ 1) (fun _ _ => trivial)
  refine wp_vapp hE hf h1 s x ho hO hv (by simp) hlen (by show B ≤ (w0.alloc (.cells cs E)).heap.size; simp; omega) hs hx ?_
  intro a' cap' w' g1 g2 g3
  refine h a' cap' w' g1 ?_ (fun g hg => ?_)
  · have h0 : w0.grownBy ((w0.alloc (.cells cs E)).drew) (blk a) := ⟨rfl, rfl, rfl, by show _ ≤ (w0.alloc (.cells cs E)).heap.size; simp, fun k hk _ => (World.grownBy_alloc w0 (.cells cs E) none).block k hk (by simp)⟩
    refine ⟨g2.os.trans h0.os, g2.tape.trans h0.tape, g2.output.trans h0.output, Nat.le_trans h0.size g2.size, fun k hk hne => ?_⟩
    rw [g2.block k (Nat.lt_of_lt_of_le hk h0.size) hne, h0.block k hk hne]
  · rcases g3 g hg with h | h
    · exact .inl h
    · right
      have h' : (w0.alloc (.cells cs E)).heap.size ≤ g := h
      simp at h'; omega

/-- The same with several elements in the new box. -/
theorem step_vappm (hE : ElemType P T E n by_ z) (hf : ∀ x, (f x).length = n) (h1 : ∀ x, ∀ u ∈ f x, u.oneCell' = true) {w0 : World} {ops : Array Oper} {o : Oper} {act : Act} {K : Act → World → Prop} {Q : Exit → Act → World → Prop} {F : Prop} (s x : Operand) (hgd : o.guard = none)
    (ho : o.op = .call { callee := .builtin .append, args := #[s, x], argTypes := #[T, T] }) {B m : Nat} {cs : Array Value}
    {a : Option Addr} {l : List α} {cap : Nat} (ys : List α) (hown : VOwn f n E B w0 a l cap) (hcs : cs = (ys.flatMap f).toArray) (hm : ys.length = m) (hy : ys ≠ []) (hlen : l.length + ys.length ≤ 1000000000) (hbase : B ≤ w0.heap.size)
    (hs : act.eval s = .slice a l.length cap) (hx : act.eval x = .slice (some ⟨w0.heap.size, 0, none⟩) m m)
    (h : ∀ a' cap' w', VOwn f n E B w' a' (l ++ ys) cap' → w0.grownBy w' (blk a) → Near w0.heap.size a a' → K (act.put o.dst (.slice a' (l ++ ys).length cap')) w') :
    if Region.wanted o (yielded ops act.tmps) = true then Oper.wp P o act ((w0.alloc (.cells cs E)).drew) K Q else F := by
  have hw : Region.wanted o (yielded ops act.tmps) = true := by simp [Region.wanted, hgd]
  rw [if_pos hw]
  subst hm
  have hv : Vec f n ((w0.alloc (.cells cs E)).drew) (some ⟨w0.heap.size, 0, none⟩) ys ys.length := (vec_lit w0 cs E n ys hf hcs (by omega)).drewN 1
  have hO : VOwn f n E B ((w0.alloc (.cells cs E)).drew) a l cap := (hown.alloc _).save (Save.drewN (S := fun _ => True) _ 1) (fun _ _ => trivial)
  refine wp_vapp hE hf h1 s x ho hO hv hy hlen (by show B ≤ (w0.alloc (.cells cs E)).heap.size; simp; omega) hs hx ?_
  intro a' cap' w' g1 g2 g3
  refine h a' cap' w' g1 ?_ (fun g hg => ?_)
  · have h0 : w0.grownBy ((w0.alloc (.cells cs E)).drew) (blk a) := ⟨rfl, rfl, rfl, by show _ ≤ (w0.alloc (.cells cs E)).heap.size; simp, fun k hk _ => (World.grownBy_alloc w0 (.cells cs E) none).block k hk (by simp)⟩
    refine ⟨g2.os.trans h0.os, g2.tape.trans h0.tape, g2.output.trans h0.output, Nat.le_trans h0.size g2.size, fun k hk hne => ?_⟩
    rw [g2.block k (Nat.lt_of_lt_of_le hk h0.size) hne, h0.block k hk hne]
  · rcases g3 g hg with h | h
    · exact .inl h
    · right
      have h' : (w0.alloc (.cells cs E)).heap.size ≤ g := h
      simp at h'; omega
/-- Bytes. -/
@[reducible] def cb (x : UInt8) : List Value := [vb x]
theorem cb_len : ∀ x, (cb x).length = 1 := fun _ => rfl
theorem cb_one : ∀ x, ∀ u ∈ cb x, u.oneCell' = true := by intro x u hu; obtain rfl : u = vb x := by simpa using hu
                                                          rfl
theorem flat_cb (l : List UInt8) : l.flatMap cb = l.map vb := by
  induction l with
  | nil => rfl
  | cons x l ih => rw [List.flatMap_cons, ih]; rfl
theorem VOwn.own {E B : Nat} {w : World} {a : Option Addr} {l : List UInt8} {c : Nat} (h : VOwn cb 1 E B w a l c) : Own E B w a l c := ⟨by have := h.row; rwa [flat_cb] at this⟩
theorem Own.vown {E B : Nat} {w : World} {a : Option Addr} {l : List UInt8} {c : Nat} (h : Own E B w a l c) : VOwn cb 1 E B w a l c := ⟨by have := h.row; rwa [← flat_cb] at this⟩
theorem ElemType.ofBytes {P : Program} {T E : TypeId} (h : ByteTypes P T E) : ElemType P T E 1 1 (.int .u8 0) := ⟨h.slice, h.info, h.sz, rfl, by decide, by decide⟩

/-- make([]T, n), of elements of one cell. -/
theorem wpList_vmake {v : α → Value} {x0 : α} (hE : ElemType P T E 1 by_ (v x0)) (hz : (v x0).cells = #[v x0]) {w : World} {ops : Array Oper} {rest : List Oper} {o : Oper} {act : Act} {Q : Exit → Act → World → Prop} (x y : Operand) (hgd : o.guard = none)
    (ho : o.op = .makeSlice T x y) (k : Nat) (k1 k2 : IntKind) {N : Int} (hx : act.eval x = .int k1 N) (hy : act.eval y = .int k2 N) (hN : N = (k : Int)) (hk : k ≤ 1000000000)
    (h : ∀ w', VOwn (fun x => [v x]) 1 E w.heap.size w' (some ⟨w.heap.size, 0, none⟩) (List.replicate k x0) k → w.grownBy w' none → w.heap.size < w'.heap.size → wpList P ops Q rest (act.put o.dst (.slice (some ⟨w.heap.size, 0, none⟩) k k)) w') : wpList P ops Q (o :: rest) act w := by
  subst hN
  obtain ⟨i, hi, hz0, hz1, hz2⟩ := info_parts hE.info
  have hf := hE.few
  refine wpList_make_full w hgd x y T ho w.heap.size E i (v x0) 1 hE.slice hi hz0 hz1 k1 k2 k k k hx hy rfl rfl (by rw [hz2]; have := Nat.mul_le_mul hf hk; omega) (by unfold maxLen; omega) (Nat.le_refl _) ?_
  intro w' hown hgr
  have e1 : (madeCells (v x0).cells (k * 1)).toList = (List.replicate k x0).flatMap (fun x => [v x]) := by
    rw [hz, toList_madeCells_one, Nat.mul_one]
    induction k with
    | zero => rfl
    | succ k ih =>
      have : ∀ k, List.replicate k (v x0) = (List.replicate k x0).flatMap (fun x => [v x]) := by
        intro k
        induction k with
        | zero => rfl
        | succ k ih => rw [List.replicate_succ, List.replicate_succ, List.flatMap_cons, ih]; rfl
      exact this _
  rw [e1] at hown
  have hO : VOwn (fun x => [v x]) 1 E w.heap.size w' (some ⟨w.heap.size, 0, none⟩) (List.replicate k x0) k := ⟨by simpa using hown⟩
  exact h w' hO hgr (hO.blk_ge (g := w.heap.size) rfl).2
/-- An element is stored into a slice of one's own. -/
theorem VOwn.stored {v : α → Value} {B g : Nat} {w : World} {l : List α} {cap : Nat} (h : VOwn (fun x => [v x]) 1 E B w (some ⟨g, 0, none⟩) l cap) (i : Nat) (y : α) :
    VOwn (fun x => [v x]) 1 E B (w.setCell ⟨g, i, none⟩ (v y)) (some ⟨g, 0, none⟩) (l.set i y) cap ∧ w.grownBy (w.setCell ⟨g, i, none⟩ (v y)) (some g) := by
  have hs := h.row.stored i (v y)
  have e : ∀ l : List α, l.flatMap (fun x => [v x]) = l.map v := fun l => by
    induction l with
    | nil => rfl
    | cons x l ih => rw [List.flatMap_cons, ih]; rfl
  refine ⟨⟨?_⟩, hs.2⟩
  have := hs.1
  rw [e] at this
  rw [e, List.length_set, List.map_set]
  exact this
theorem VOwn.frozen {B g : Nat} {w : World} {l : List α} {cap : Nat} (h : VOwn f n E B w (some ⟨g, 0, none⟩) l cap) (i : Nat) : w.frozen? ⟨g, i, none⟩ = false := by
  rcases h.row.2 with ⟨hv, _⟩ | ⟨g', c', cur, hv, hb, hg, _⟩
  · simp at hv
  · simp only [Value.slice.injEq, Option.some.injEq, Addr.mk.injEq, and_true, true_and] at hv
    obtain ⟨rfl, _⟩ := hv
    simp [World.frozen?, hg]

/-- append(s, x...), s the call's own; x may be empty. -/
theorem wpList_vappany (hE : ElemType P T E n by_ z) (hf : ∀ x, (f x).length = n) (h1 : ∀ x, ∀ u ∈ f x, u.oneCell' = true) {w : World} {ops : Array Oper} {rest : List Oper} {o : Oper} {act : Act} {Q : Exit → Act → World → Prop} (s x : Operand) (hgd : o.guard = none)
    (ho : o.op = .call { callee := .builtin .append, args := #[s, x], argTypes := #[T, T] }) {B : Nat}
    {a b : Option Addr} {l m : List α} {cap c : Nat} (hown : VOwn f n E B w a l cap) (hm : Vec f n w b m c) (hlen : l.length + m.length ≤ 1000000000) (hbase : B ≤ w.heap.size)
    (hs : act.eval s = .slice a l.length cap) (hx : act.eval x = .slice b m.length c)
    (h : ∀ a' cap' w', VOwn f n E B w' a' (l ++ m) cap' → w.grownBy w' (blk a) → wpList P ops Q rest (act.put o.dst (.slice a' (l ++ m).length cap')) w') : wpList P ops Q (o :: rest) act w := by
  by_cases h0 : m = []
  · subst h0
    obtain ⟨i, hi, hz0, hz1, hz2⟩ := info_parts hE.info
    cases b with
    | none =>
      have hc := hm.nil rfl
      subst hc
      refine wpList_append_own_none hgd s x T ho B E i n hE.slice hi (.slice a l.length cap) l.length (l.flatMap f) hs hown.row hx ?_
      have hk := h a cap w
      rw [List.append_nil] at hk
      exact hk hown ⟨rfl, rfl, rfl, Nat.le_refl _, fun _ _ _ => rfl⟩
    | some p =>
      refine wpList_append_own w hgd s x T ho B E i z n by_ hE.slice hi hz0 hz1 hz2 hE.zs hE.pos _ l.length (l.flatMap f) hs hown.row p 0 c [] hx (by simp) (fun j u hu => by simp at hu) (fun u hu => by simp at hu) (by simp at hlen; unfold maxLen; omega) (by have := Nat.mul_le_mul hlen hE.few; simp at this ⊢; omega) hbase ?_
      intro v' w' hown' hgr hnil
      rw [ownBlock_slice] at hgr
      have hv' : ∃ a' cap', v' = .slice a' l.length cap' := by
        rcases hown'.2 with ⟨hv, hn⟩ | ⟨g', c', cur, hv, _⟩
        · exact ⟨none, 0, by rw [hv]; simp; omega⟩
        · exact ⟨some ⟨g', 0, none⟩, c', by rw [hv]; simp⟩
      obtain ⟨a', cap', rfl⟩ := hv'
      have hk := h a' cap' w'
      rw [List.append_nil] at hk
      exact hk ⟨by simpa using hown'⟩ hgr
  · exact wpList_vapp hE hf h1 s x hgd ho hown hm h0 hlen hbase hs hx (fun a' cap' w' g1 g2 _ => h a' cap' w' g1 g2)
/-- make([]T, 0, k). -/
theorem wpList_vmake0 (hE : ElemType P T E n by_ z) {w : World} {ops : Array Oper} {rest : List Oper} {o : Oper} {act : Act} {Q : Exit → Act → World → Prop} (x y : Operand) (hgd : o.guard = none)
    (ho : o.op = .makeSlice T x y) (k : Nat) (k1 k2 : IntKind) {N : Int} (hx : act.eval x = .int k1 0) (hy : act.eval y = .int k2 N) (hN : N = (k : Int)) (hk : k ≤ 1000000000)
    (h : ∀ w', VOwn f n E w.heap.size w' (some ⟨w.heap.size, 0, none⟩) [] k → w.grownBy w' none → w.heap.size < w'.heap.size → wpList P ops Q rest (act.put o.dst (.slice (some ⟨w.heap.size, 0, none⟩) 0 k)) w') : wpList P ops Q (o :: rest) act w := by
  obtain ⟨i, hi, hz0, hz1, hz2⟩ := info_parts hE.info
  have hfw := hE.few
  refine wpList_make_own w hgd x y T ho w.heap.size E i z n hE.slice hi hz0 hz1 k1 k2 N k hx hy hN (by rw [hz2]; have := Nat.mul_le_mul hfw hk; omega) (by unfold maxLen; omega) (Nat.le_refl _) ?_
  intro w' hown hgr
  have hO : VOwn f n E w.heap.size w' (some ⟨w.heap.size, 0, none⟩) [] k := ⟨hown⟩
  exact h w' hO hgr (hO.blk_ge (g := w.heap.size) rfl).2

theorem zip_parts (ρ : Operand → Value) : ∀ (vs : List Value) (xs : List Operand) (i : Nat), xs.map ρ = vs → (xs.zipIdx i).map (fun x => (x.2, ρ x.1)) = (vs.zipIdx i).map (fun x => (x.2, x.1))
  | [], xs, i, h => by obtain rfl : xs = [] := by simpa using h
                       rfl
  | v :: vs, [], i, h => by simp at h
  | v :: vs, x :: xs, i, h => by
    simp only [List.map_cons, List.cons.injEq] at h
    simp only [List.zipIdx_cons, List.map_cons]
    rw [h.1, zip_parts ρ vs xs (i + 1) h.2]
/-- []T{x, y, ..}: the operation. -/
theorem run_vbuild (hE : ElemType P T E n by_ z) {ρ : Operand → Value} {o : Oper} (xs : List Operand) (vs : List Value) (k : Nat) (ho : o.op = .buildSlice T k ((xs.zipIdx 0).map fun x => (x.2, x.1)).toArray) (hx : xs.map ρ = vs) (hk : vs.length = k) (h0 : 0 < k) (hs : ∀ v ∈ vs, v.cells.size = n) (hk9 : k * n ≤ 2 ^ 24) (w : World) :
    (execOp ρ o).run P w = .ok (.value (.slice (some ⟨w.heap.size, 0, none⟩) k k)) (w.alloc (.cells (vs.flatMap fun v => v.cells.toList).toArray E)) := by
  obtain ⟨i, hi, hz0, hz1, hz2⟩ := info_parts hE.info
  have hn := hE.pos
  have hfill := Great.fill_whole (s := n) hn vs ((Array.range (k * n)).map (z.cells[· % z.cells.size]!)) hs (by rw [hk]; simp)
  have hb := run_buildSlice (P := P) w T E k ((vs.zipIdx 0).map fun x => (x.2, x.1)).toArray _ i z hE.slice hi hz0 (by rw [hz1]; omega) (by rw [hz1]; exact Nat.ne_of_gt (Nat.mul_pos h0 hn)) (by rw [hz1]; exact hfill)
  unfold execOp
  rw [ho]
  dsimp only
  rw [show (((xs.zipIdx 0).map fun x => (x.2, x.1)).toArray.map fun (i, x) => (i, ρ x)) = ((vs.zipIdx 0).map fun x => (x.2, x.1)).toArray by
    rw [List.map_toArray, List.map_map, ← zip_parts ρ vs xs 0 hx]; rfl, Sem.run_bind, hb]
  rfl
end
end Go.Cit
