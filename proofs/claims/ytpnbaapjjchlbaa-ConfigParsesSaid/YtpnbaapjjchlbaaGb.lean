/- Texts of the proof, one behind the other: Save, Vec, Ty, Sh, Open, Cfg. No condition but those that each names. -/
import Derived.Test.YtpnbaapjjchlbaaGa
import Derived.Deep.AppendLies
import Derived.Great.BuildSlice
import Derived.Great.FillDense
import Derived.Deep.Slices
import Derived.Deep.Fields
import Derived.ChangeSame
import Derived.SizedLaws
import Derived.Test.YtpnbaapjjchlbaaProg
/- What stays in a call, block by block; append of a row as a step of a region that draws its order. No condition. -/
namespace Go.Cit
open Go Go.RowKit

/-- What lies in the blocks of S stays. -/
structure Save (S : Nat → Prop) (w w' : World) : Prop where
  os : w'.os = w.os
  tape : w'.tape = w.tape
  output : w'.output = w.output
  size : w.heap.size ≤ w'.heap.size
  block : ∀ k, k < w.heap.size → S k → w'.heap[k]? = w.heap[k]?

theorem Save.refl (S : Nat → Prop) (w : World) : Save S w w := ⟨rfl, rfl, rfl, Nat.le_refl _, fun _ _ _ => rfl⟩
theorem Save.trans {S : Nat → Prop} {a b c : World} (h : Save S a b) (k : Save S b c) : Save S a c :=
  ⟨k.os.trans h.os, k.tape.trans h.tape, k.output.trans h.output, Nat.le_trans h.size k.size, fun i hi hs => (k.block i (Nat.lt_of_lt_of_le hi h.size) hs).trans (h.block i hi hs)⟩
theorem Save.less {S T : Nat → Prop} {w w' : World} (h : Save S w w') (hS : ∀ k, k < w.heap.size → T k → S k) : Save T w w' := ⟨h.os, h.tape, h.output, h.size, fun k hk hs => h.block k hk (hS k hk hs)⟩
theorem Save.of {S : Nat → Prop} {w w' : World} (h : Below w.heap.size w w') : Save S w w' := ⟨h.os, h.tape, h.output, h.size, fun k hk _ => h.block k hk⟩
theorem Save.below {S : Nat → Prop} {w w' : World} {B : Nat} (h : Save S w w') (hB : B ≤ w.heap.size) (hS : ∀ k, k < B → S k) : Below B w w' := ⟨h.os, h.tape, h.output, h.size, fun k hk => h.block k (Nat.lt_of_lt_of_le hk hB) (hS k hk)⟩
theorem Save.set {w : World} {b i : Nat} {v : Value} : Save (· ≠ b) w (w.setCell ⟨b, i, none⟩ v) := ⟨rfl, rfl, rfl, by simp [World.setCell], fun k _ hs => Below.heap_setCell _ _ _ _ hs⟩
theorem Save.grown {w w' : World} {row : Option Nat} (h : w.grownBy w' row) : Save (fun k => some k ≠ row) w w' := ⟨h.os, h.tape, h.output, h.size, h.block⟩
theorem Save.alloc {S : Nat → Prop} (w : World) (o : Obj) : Save S w (w.alloc o) := .of ((Below.refl _ _).alloc (Nat.le_refl _) _)
theorem Save.drewN {S : Nat → Prop} (w : World) (n : Nat) : Save S w (w.drewN n) := ⟨rfl, rfl, rfl, Nat.le_refl _, fun _ _ _ => rfl⟩
theorem Save.drew {S : Nat → Prop} {a w : World} (h : Save S a w) : Save S a w.drew := ⟨h.os, h.tape, h.output, h.size, h.block⟩

theorem Save.cell {S : Nat → Prop} {w w' : World} (h : Save S w w') {p : Addr} (hp : p.block < w.heap.size) (hs : S p.block) : w'.cell? p = w.cell? p := World.cell?_of_block (w := w) (h.block p.block hp hs)
theorem Save.frozen {S : Nat → Prop} {w w' : World} (h : Save S w w') {p : Addr} (hp : p.block < w.heap.size) (hs : S p.block) : w'.frozen? p = w.frozen? p := World.frozen?_of_block (w := w) (h.block p.block hp hs)

theorem Row.save {S : Nat → Prop} {w w' : World} {a l cap} (r : Row w a l cap) (h : Save S w w') (hs : ∀ g, Go.Cit.blk a = some g → S g) : Row w' a l cap := by
  refine ⟨r.le, r.top, r.nil, r.spot, fun i hi => ?_⟩
  obtain ⟨g, off, rfl⟩ := r.spot (by intro h0; simp [h0] at hi)
  exact (h.cell (r.blk hi) (hs g rfl)).trans (r.cell i hi)
theorem Row.save' {S : Nat → Prop} {w w' : World} {a l cap} (r : Row w a l cap) (h : Save S w w') (hs : l ≠ [] → ∀ g, Go.Cit.blk a = some g → S g) : Row w' a l cap := by
  by_cases h0 : l = []
  · subst h0
    exact ⟨r.le, r.top, r.nil, r.spot, fun i hi => by simp at hi⟩
  · exact r.save h (hs h0)
theorem Own.save {S : Nat → Prop} {E base} {w w' : World} {a l cap} (r : Own E base w a l cap) (h : Save S w w') (hs : ∀ g, blk a = some g → S g) : Own E base w' a l cap := by
  refine ⟨r.row.1, ?_⟩
  rcases r.row.2 with hn | ⟨g, c, cur, hv, hbg, hg, rest⟩
  · exact .inl hn
  · injection hv with h1 h2 h3
    subst h1
    refine .inr ⟨g, c, cur, by rw [h2, h3], hbg, ?_, rest⟩
    rw [h.block g (Array.getElem?_eq_some_iff.1 hg).1 (hs g rfl)]; exact hg
theorem Mine.save {S : Nat → Prop} {base} {w w' : World} {a l cap} (r : Mine base w a l cap) (h : Save S w w') (hs : ∀ g, blk a = some g → S g) : Mine base w' a l cap := by
  refine ⟨r.row.save h hs, r.new, fun i hi => ?_⟩
  obtain ⟨g, off, rfl⟩ := r.row.spot (by intro h0; simp [h0] at hi)
  exact (h.frozen (r.row.blk hi) (hs g rfl)).trans (r.free i hi)

theorem blk_sub (a : Option Addr) (p : Prop) [Decidable p] (k : Nat) : blk (if p then a else a.map (·.add k)) = blk a := by
  split
  · rfl
  · cases a with
    | none => rfl
    | some x => simp [blk, Addr.add]; split <;> rfl
section
variable {P : Program} {T E : TypeId} (hT : P.underlying T = some (.slice E)) (hE : ∀ w, (sizeOf E).run P w = .ok 1 w)
include hT hE
/-- b[lo:], and that it lies in the same block. -/
theorem Row.from2 {w a l cap} (h : Row w a l cap) (lo : Nat) (h1 : lo ≤ l.length) : ∃ a' m cap', m = l.drop lo ∧
    (∀ w, (Instr.sliceAt T (.slice a l.length cap) (some (.int .i64 (lo : Int))) none none).run P w = .ok (.slice a' m.length cap') w) ∧ Row w a' m cap' ∧ Go.Cit.blk a' = Go.Cit.blk a := by
  have he : P.elem T = E := by simp [Program.elem, hT]
  refine ⟨_, _, _, rfl, fun w => ?_, by simpa using h.sub lo l.length cap h1 (Nat.le_refl _) h.le (Nat.le_refl _), blk_sub _ _ _⟩
  rw [run_sliceAt_slice _ _ _ _ _ _ (by rw [he]; exact hT), run_slice_l w T a _ _ (by rw [he]; exact hT) .i64 lo (by omega) (by omega), he, hE]
  simp [Result.andThen, sliced]
/-- b[:hi:hi], likewise. -/
theorem Row.upto2 {w a l cap} (h : Row w a l cap) (hi : Nat) (h1 : hi ≤ l.length) : ∃ a' m cap', m = l.take hi ∧
    (∀ w, (Instr.sliceAt T (.slice a l.length cap) none (some (.int .i64 (hi : Int))) (some (.int .i64 (hi : Int)))).run P w = .ok (.slice a' m.length cap') w) ∧ Row w a' m cap' ∧ Go.Cit.blk a' = Go.Cit.blk a := by
  have he : P.elem T = E := by simp [Program.elem, hT]
  have hle := h.le
  refine ⟨_, _, _, rfl, fun w => ?_, by simpa using h.sub 0 hi hi (Nat.zero_le _) h1 (Nat.le_refl _) (by omega), blk_sub _ _ _⟩
  rw [run_sliceAt_slice _ _ _ _ _ _ (by rw [he]; exact hT), run_slice_hm w T a _ _ (by rw [he]; exact hT) .i64 .i64 hi hi (by omega) (by omega) (by omega), he, hE]
  simp [Result.andThen, sliced]
  omega
end
section
variable {P : Program} {T E : TypeId}
/-- Where a slice lies behind an append: where it lay, or in new memory. -/
def Near (B : Nat) (a a' : Option Addr) : Prop := ∀ g, blk a' = some g → blk a = some g ∨ B ≤ g
theorem Near.refl (B : Nat) (a : Option Addr) : Near B a a := fun _ h => .inl h
theorem Near.trans {B B' : Nat} {a a' a'' : Option Addr} (h : Near B a a') (k : Near B' a' a'') (hB : B ≤ B') : Near B a a'' := fun g hg => by
  rcases k g hg with h1 | h1
  · exact h g h1
  · exact .inr (by omega)

theorem news_row {w : World} {g off : Nat} {m : List UInt8} {c : Nat} (hm : Row w (some ⟨g, off, none⟩) m c) : ∀ j u, (m.map vb)[j]? = some u → w.cell? ((⟨g, off, none⟩ : Addr).add j) = some u := by
  intro j u hu
  have hj : j < m.length := by
    have := (List.getElem?_eq_some_iff.1 hu).1
    simpa using this
  have ea : (⟨g, off, none⟩ : Addr).add j = ad (some ⟨g, off, none⟩) j := by unfold Addr.add ad; split <;> simp_all
  rw [ea, hm.cell j hj]
  simpa [hj] using hu
theorem one_vb {m : List UInt8} : ∀ u ∈ m.map vb, u.oneCell' = true := by
  intro u hu
  obtain ⟨y, _, rfl⟩ := List.mem_map.1 hu
  rfl

theorem wp_append_near (hBT : ByteTypes P T E) {w : World} {o : Oper} {act : Act} {K : Act → World → Prop} {Q : Exit → Act → World → Prop} (s x : Operand)
    (ho : o.op = .call { callee := .builtin .append, args := #[s, x], argTypes := #[T, T] }) {base : Nat}
    {a b : Option Addr} {l m : List UInt8} {cap c : Nat} (hown : Own E base w a l cap) (hm : Row w b m c) (hne : m ≠ []) (hlen : l.length + m.length ≤ 1000000000) (hbase : base ≤ w.heap.size)
    (hs : act.eval s = .slice a l.length cap) (hx : act.eval x = .slice b m.length c)
    (h : ∀ a' cap' w', Own E base w' a' (l ++ m) cap' → w.grownBy w' (blk a) → Near w.heap.size a a' → K (act.put o.dst (.slice a' (l ++ m).length cap')) w') : Oper.wp P o act w K Q := by
  obtain ⟨i, hi, hz0, hz1, hz2⟩ := info_parts hBT.info
  obtain ⟨g, off, rfl⟩ := hm.spot hne
  refine wp_append_lies w s x T ho base E i (.int .u8 0) 1 1 hBT.slice hi hz0 hz1 hz2 rfl (by decide) _ l.length (l.map vb) hs hown.row ⟨g, off, none⟩ m.length c (m.map vb) hx (by simp) (news_row hm) one_vb (List.length_pos_iff.2 hne) (by unfold maxLen; omega) (by omega) hbase w.heap.size rfl ?_
  intro g' cap' w' hown' hgr hat hlt
  rw [ownBlock_slice] at hgr hat
  rw [← List.length_append, ← List.map_append] at hown'
  rw [← List.length_append]
  refine h (some ⟨g', 0, none⟩) cap' w' ⟨hown'⟩ hgr (fun k hk => ?_)
  simp only [blk, Option.map_some, Option.some.injEq] at hk
  subst hk
  rcases hat with h1 | h1
  · exact .inl h1
  · exact .inr (by omega)

/-- append(s, x...) as one step of a region that draws its order: s the call's own, x a row that is not empty. -/
theorem step_append_row (hBT : ByteTypes P T E) {w : World} {ops : Array Oper} {o : Oper} {act : Act} {K : Act → World → Prop} {Q : Exit → Act → World → Prop} {F : Prop} (s x : Operand) (hgd : o.guard = none)
    (ho : o.op = .call { callee := .builtin .append, args := #[s, x], argTypes := #[T, T] }) {base : Nat}
    {a b : Option Addr} {l m : List UInt8} {cap c : Nat} (hown : Own E base w a l cap) (hm : Row w b m c) (hne : m ≠ []) (hlen : l.length + m.length ≤ 1000000000) (hbase : base ≤ w.heap.size)
    (hs : act.eval s = .slice a l.length cap) (hx : act.eval x = .slice b m.length c)
    (h : ∀ a' cap' w', Own E base w' a' (l ++ m) cap' → w.grownBy w' (blk a) → Near w.heap.size a a' → K (act.put o.dst (.slice a' (l ++ m).length cap')) w') :
    if Region.wanted o (yielded ops act.tmps) = true then Oper.wp P o act w K Q else F := by
  have hw : Region.wanted o (yielded ops act.tmps) = true := by simp [Region.wanted, hgd]
  rw [if_pos hw]
  exact wp_append_near hBT s x ho hown hm hne hlen hbase hs hx h

/-- The same in a region in the text's order; x may be nil. -/
theorem wp_append_at (hBT : ByteTypes P T E) {w : World} {ops : Array Oper} {rest : List Oper} {o : Oper} {act : Act} {Q : Exit → Act → World → Prop} (s x : Operand) (hgd : o.guard = none)
    (ho : o.op = .call { callee := .builtin .append, args := #[s, x], argTypes := #[T, T] }) {base : Nat}
    {a b : Option Addr} {l m : List UInt8} {cap c : Nat} (hown : Own E base w a l cap) (hm : Row w b m c) (hne : m = [] → b = none) (hlen : l.length + m.length ≤ 1000000000) (hbase : base ≤ w.heap.size)
    (hs : act.eval s = .slice a l.length cap) (hx : act.eval x = .slice b m.length c)
    (h : ∀ a' cap' w', Own E base w' a' (l ++ m) cap' → w.grownBy w' (blk a) → Near w.heap.size a a' → wpList P ops Q rest (act.put o.dst (.slice a' (l ++ m).length cap')) w') : wpList P ops Q (o :: rest) act w := by
  by_cases h0 : m = []
  · obtain ⟨i, hi, hz0, hz1, hz2⟩ := info_parts hBT.info
    have hb := hne h0
    subst h0 hb
    have hc := hm.nil rfl
    subst hc
    refine wpList_append_own_none hgd s x T ho base E i 1 hBT.slice hi (.slice a l.length cap) l.length (l.map vb) hs hown.row hx ?_
    have hk := h a cap w
    rw [List.append_nil] at hk
    exact hk hown ⟨rfl, rfl, rfl, Nat.le_refl _, fun _ _ _ => rfl⟩ (Near.refl _ _)
  · exact wpList_plain hgd fun K hK => wp_append_near hBT s x ho hown hm h0 hlen hbase hs hx (fun a' cap' w' h1 h2 h3 => hK _ _ (h a' cap' w' h1 h2 h3))
end
end Go.Cit

/- Slices of any elements (each n cells): read, owned, made, appended to. No condition. -/
namespace Go.Cit
open Go Go.RowKit

/-- A slice type T, its element type E: n cells, by bytes, z the zero value. -/
structure ElemType (P : Program) (T E : TypeId) (n by_ : Nat) (z : Value) : Prop where
  slice : P.underlying T = some (.slice E)
  info : (P.info? E).map (fun i => (i.zero, i.size, i.bytes)) = some (some z, n, by_)
  sz : ∀ w, (sizeOf E).run P w = .ok n w
  zs : z.cells.size = n
  pos : 0 < n
  few : by_ ≤ 10000

/-- The slice (a, l.length, cap) reads as l in w: element x as the n cells f x. -/
structure Vec {α : Type} (f : α → List Value) (n : Nat) (w : World) (a : Option Addr) (l : List α) (cap : Nat) : Prop where
  le : l.length ≤ cap
  top : cap ≤ maxLen
  nil : a = none → cap = 0
  spot : l ≠ [] → ∃ b off, a = some ⟨b, off, none⟩
  cell : ∀ i (h : i < l.length) j, j < n → w.cell? (ad a (i * n + j)) = (f l[i])[j]?
/-- It is the call's own, from block B on. -/
structure VOwn {α : Type} (f : α → List Value) (n : Nat) (E : TypeId) (B : Nat) (w : World) (a : Option Addr) (l : List α) (cap : Nat) : Prop where
  row : w.ownsRow B E n (.slice a l.length cap) l.length (l.flatMap f)

section
variable {α : Type} {f : α → List Value} {n : Nat}
theorem Vec.nil_ (w : World) : Vec f n w none [] 0 := ⟨Nat.le_refl _, Nat.zero_le _, fun _ => rfl, fun h => (h rfl).elim, fun i h => by simp at h⟩
theorem Vec.len_le {w a cap} {l : List α} (h : Vec f n w a l cap) : l.length ≤ 9223372036854775807 := by
  have h1 := h.le; have h2 := h.top; unfold maxLen at h2; omega
theorem Vec.lt {w a cap} {l : List α} (h : Vec f n w a l cap) (hf : ∀ x, (f x).length = n) {i j : Nat} (hi : i < l.length) (hj : j < n) : (ad a (i * n + j)).block < w.heap.size := by
  have := h.cell i hi j hj
  have hj' : j < (f l[i]).length := by rw [hf]; exact hj
  rw [List.getElem?_eq_getElem hj'] at this
  exact World.block_lt_of_cell? w _ this
theorem Vec.stay {w w' : World} {a cap} {l : List α} (h : Vec f n w a l cap) (hf : ∀ x, (f x).length = n) (hb : Below w.heap.size w w') : Vec f n w' a l cap :=
  ⟨h.le, h.top, h.nil, h.spot, fun i hi j hj => (hb.cell (h.lt hf hi hj)).trans (h.cell i hi j hj)⟩
theorem Vec.drewN {w : World} {a cap} {l : List α} (h : Vec f n w a l cap) (k : Nat) : Vec f n (w.drewN k) a l cap := ⟨h.le, h.top, h.nil, h.spot, h.cell⟩
theorem Vec.save {S : Nat → Prop} {w w' : World} {a cap} {l : List α} (h : Vec f n w a l cap) (hf : ∀ x, (f x).length = n) (hs : Save S w w') (ha : l ≠ [] → ∀ g, blk a = some g → S g) : Vec f n w' a l cap := by
  refine ⟨h.le, h.top, h.nil, h.spot, fun i hi j hj => ?_⟩
  have hne : l ≠ [] := by intro h0; simp [h0] at hi
  obtain ⟨g, off, rfl⟩ := h.spot hne
  exact (hs.cell (h.lt hf hi hj) (ha hne g rfl)).trans (h.cell i hi j hj)
/-- Elements of one cell. -/
theorem Vec.cell1 {v : α → Value} {w a cap} {l : List α} (h : Vec (fun x => [v x]) 1 w a l cap) (i : Nat) (hi : i < l.length) : w.cell? (ad a i) = some (v l[i]) := by
  have := h.cell i hi 0 (by decide)
  simpa using this
theorem Vec.of1 {v : α → Value} {w a cap} {l : List α} (h1 : l.length ≤ cap) (h2 : cap ≤ maxLen) (h3 : a = none → cap = 0) (h4 : l ≠ [] → ∃ b off, a = some ⟨b, off, none⟩) (h5 : ∀ i (h : i < l.length), w.cell? (ad a i) = some (v l[i])) : Vec (fun x => [v x]) 1 w a l cap :=
  ⟨h1, h2, h3, h4, fun i hi j hj => by obtain rfl : j = 0 := by omega
                                       rw [Nat.mul_one, Nat.add_zero, h5 i hi]; rfl⟩

theorem flatGet {β : Type} {f : α → List β} (hf : ∀ x, (f x).length = n) : ∀ (l : List α) (i j : Nat) (h : i < l.length), j < n → (l.flatMap f)[i * n + j]? = (f l[i])[j]?
  | [], i, j, h, _ => by simp at h
  | x :: l, 0, j, _, hj => by
    rw [List.flatMap_cons, List.getElem?_append_left (by rw [hf]; omega)]
    simp
  | x :: l, i + 1, j, h, hj => by
    have e : (i + 1) * n + j - n = i * n + j := by rw [Nat.succ_mul]; omega
    rw [List.flatMap_cons, List.getElem?_append_right (by rw [hf, Nat.succ_mul]; omega), hf, e]
    exact flatGet hf l i j (by simpa using h) hj
theorem flatLen {β : Type} {f : α → List β} (hf : ∀ x, (f x).length = n) (l : List α) : (l.flatMap f).length = l.length * n := by
  induction l with
  | nil => simp
  | cons x l ih => rw [List.flatMap_cons, List.length_append, hf, ih, List.length_cons, Nat.succ_mul]; omega
theorem add_ad (g off j : Nat) : (⟨g, off, none⟩ : Addr).add j = ad (some ⟨g, off, none⟩) j := by unfold Addr.add ad; split <;> simp_all
theorem ad_some (g i : Nat) : ad (some ⟨g, 0, none⟩) i = ⟨g, i, none⟩ := by simp [ad]

theorem VOwn.vec {E B w a cap} {l : List α} (h : VOwn f n E B w a l cap) (hf : ∀ x, (f x).length = n) : Vec f n w a l cap := by
  rcases h.row.2 with ⟨hv, hn⟩ | ⟨g, c, cur, hv, hb, hg, hle, hm, hc, ht⟩
  · injection hv with h1 h2 h3
    obtain rfl : l = [] := List.eq_nil_of_length_eq_zero hn
    subst h1 h3
    exact Vec.nil_ w
  · have hcells := h.row.cells (g := g) (by injection hv with h1; rw [h1]; rfl)
    injection hv with h1 h2 h3
    subst h1 h3
    refine ⟨hle, hm, fun h0 => by simp at h0, fun _ => ⟨g, 0, rfl⟩, fun i hi j hj => ?_⟩
    have hj' : j < (f l[i]).length := by rw [hf]; exact hj
    have e := flatGet hf l i j hi hj
    rw [List.getElem?_eq_getElem hj'] at e ⊢
    have := hcells (i * n + j) _ e
    have ea : (⟨g, 0, none⟩ : Addr).add (i * n + j) = ad (some ⟨g, 0, none⟩) (i * n + j) := by unfold Addr.add ad; split <;> simp_all
    rwa [ea] at this
theorem VOwn.blk_ge {E B w a cap} {l : List α} (h : VOwn f n E B w a l cap) {g : Nat} (hg : blk a = some g) : B ≤ g ∧ g < w.heap.size := by
  cases a with
  | none => simp [blk] at hg
  | some x => exact h.row.lt g (by simpa [Value.ownBlock, blk] using hg)
theorem VOwn.save {S : Nat → Prop} {E B} {w w' : World} {a cap} {l : List α} (r : VOwn f n E B w a l cap) (h : Save S w w') (hs : ∀ g, blk a = some g → S g) : VOwn f n E B w' a l cap := by
  refine ⟨r.row.1, ?_⟩
  rcases r.row.2 with hn | ⟨g, c, cur, hv, hbg, hg, rest⟩
  · exact .inl hn
  · injection hv with h1 h2 h3
    subst h1
    refine .inr ⟨g, c, cur, by rw [h2, h3], hbg, ?_, rest⟩
    rw [h.block g (Array.getElem?_eq_some_iff.1 hg).1 (hs g rfl)]; exact hg
theorem VOwn.alloc {E B w a cap} {l : List α} (h : VOwn f n E B w a l cap) (o : Obj) : VOwn f n E B (w.alloc o) a l cap := ⟨h.row.alloc o⟩
theorem VOwn.low {E B B' w a cap} {l : List α} (h : VOwn f n E B w a l cap) (hB : B' ≤ B) : VOwn f n E B' w a l cap := by
  refine ⟨h.row.1, ?_⟩
  rcases h.row.2 with hn | ⟨g, c, cur, hv, hbg, rest⟩
  · exact .inl hn
  · exact .inr ⟨g, c, cur, hv, Nat.le_trans hB hbg, rest⟩
theorem VOwn.nil_ (f : α → List Value) (n : Nat) (E B : Nat) (w : World) : VOwn f n E B w none [] 0 := ⟨World.ownsRow_nil w B E n⟩
theorem VOwn.stay {E B} {w w' : World} {a cap} {l : List α} (r : VOwn f n E B w a l cap) (h : Below w.heap.size w w') : VOwn f n E B w' a l cap := r.save (Save.of (S := fun _ => True) h) (fun _ _ => trivial)
end

section
variable {P : Program} {T E : TypeId} {n by_ : Nat} {z : Value} {α : Type} {f : α → List Value}
theorem Vec.index (hE : ElemType P T E n by_ z) {w a cap} {l : List α} (h : Vec f n w a l cap) (i : Nat) (hi : i < l.length) :
    ∀ w, (Instr.indexAt T (.slice a l.length cap) (.int .i64 (i : Int))).run P w = .ok (.pointer (some (ad a (i * n)))) w := by
  intro w
  have hT := hE.slice
  obtain ⟨b, off, rfl⟩ := h.spot (by intro h0; simp [h0] at hi)
  have he : P.elem T = E := by simp [Program.elem, hT]
  rw [run_indexAt_slice w T _ _ _ _ _ (by rw [he]; exact hT), if_pos (by omega), he, hE.sz]
  simp only [Result.andThen, ad, Addr.add]
  by_cases h0 : i * n = 0
  · simp [h0]
  · simp [h0]
theorem Vec.index1 {v : α → Value} (hE : ElemType P T E 1 by_ z) {w a cap} {l : List α} (h : Vec (fun x => [v x]) 1 w a l cap) (i : Nat) (hi : i < l.length) :
    ∀ w, (Instr.indexAt T (.slice a l.length cap) (.int .i64 (i : Int))).run P w = .ok (.pointer (some (ad a i))) w := by
  have := h.index hE i hi
  rwa [Nat.mul_one] at this

/-- append(s, x...), s the call's own, x a row that is not empty. -/
theorem wp_vapp (hE : ElemType P T E n by_ z) (hf : ∀ x, (f x).length = n) (h1 : ∀ x, ∀ u ∈ f x, u.oneCell' = true) {w : World} {o : Oper} {act : Act} {K : Act → World → Prop} {Q : Exit → Act → World → Prop} (s x : Operand)
    (ho : o.op = .call { callee := .builtin .append, args := #[s, x], argTypes := #[T, T] }) {B : Nat}
    {a b : Option Addr} {l m : List α} {cap c : Nat} (hown : VOwn f n E B w a l cap) (hm : Vec f n w b m c) (hne : m ≠ []) (hlen : l.length + m.length ≤ 1000000000) (hbase : B ≤ w.heap.size)
    (hs : act.eval s = .slice a l.length cap) (hx : act.eval x = .slice b m.length c)
    (h : ∀ a' cap' w', VOwn f n E B w' a' (l ++ m) cap' → w.grownBy w' (blk a) → Near w.heap.size a a' → K (act.put o.dst (.slice a' (l ++ m).length cap')) w') : Oper.wp P o act w K Q := by
  obtain ⟨i, hi, hz0, hz1, hz2⟩ := info_parts hE.info
  obtain ⟨g, off, rfl⟩ := hm.spot hne
  refine wp_append_lies w s x T ho B E i z n by_ hE.slice hi hz0 hz1 hz2 hE.zs hE.pos _ l.length (l.flatMap f) hs hown.row ⟨g, off, none⟩ m.length c (m.flatMap f) hx (flatLen hf m) ?_ ?_ (List.length_pos_iff.2 hne) (by unfold maxLen; omega) ?_ hbase w.heap.size rfl ?_
  · intro j u hu
    have hj : j < m.length * n := by rw [← flatLen hf m]; exact (List.getElem?_eq_some_iff.1 hu).1
    have hn := hE.pos
    have e1 : j = j / n * n + j % n := by rw [Nat.mul_comm]; exact (Nat.div_add_mod j n).symm
    have hi' : j / n < m.length := (Nat.div_lt_iff_lt_mul hn).2 hj
    have hj' : j % n < n := Nat.mod_lt _ hn
    rw [add_ad]
    rw [e1] at hu ⊢
    rw [flatGet hf m _ _ hi' hj'] at hu
    rw [hm.cell _ hi' _ hj', hu]
  · intro u hu
    obtain ⟨y, _, hy⟩ := List.mem_flatMap.1 hu
    exact h1 y u hy
  · have := Nat.mul_le_mul hlen hE.few
    omega
  · intro g' cap' w' hown' hgr hat hlt
    rw [ownBlock_slice] at hgr hat
    rw [← List.length_append, ← List.flatMap_append] at hown'
    rw [← List.length_append]
    refine h (some ⟨g', 0, none⟩) cap' w' ⟨hown'⟩ hgr (fun k hk => ?_)
    simp only [blk, Option.map_some, Option.some.injEq] at hk
    subst hk
    rcases hat with h1 | h1
    · exact .inl h1
    · exact .inr (by omega)
theorem wpList_vapp (hE : ElemType P T E n by_ z) (hf : ∀ x, (f x).length = n) (h1 : ∀ x, ∀ u ∈ f x, u.oneCell' = true) {w : World} {ops : Array Oper} {rest : List Oper} {o : Oper} {act : Act} {Q : Exit → Act → World → Prop} (s x : Operand) (hgd : o.guard = none)
    (ho : o.op = .call { callee := .builtin .append, args := #[s, x], argTypes := #[T, T] }) {B : Nat}
    {a b : Option Addr} {l m : List α} {cap c : Nat} (hown : VOwn f n E B w a l cap) (hm : Vec f n w b m c) (hne : m ≠ []) (hlen : l.length + m.length ≤ 1000000000) (hbase : B ≤ w.heap.size)
    (hs : act.eval s = .slice a l.length cap) (hx : act.eval x = .slice b m.length c)
    (h : ∀ a' cap' w', VOwn f n E B w' a' (l ++ m) cap' → w.grownBy w' (blk a) → Near w.heap.size a a' → wpList P ops Q rest (act.put o.dst (.slice a' (l ++ m).length cap')) w') : wpList P ops Q (o :: rest) act w :=
  wpList_plain hgd fun _ hK => wp_vapp hE hf h1 s x ho hown hm hne hlen hbase hs hx fun a' cap' w' g1 g2 g3 => hK _ _ (h a' cap' w' g1 g2 g3)

/-- A slice written out: its elements' cells. -/
theorem vown_lit (w : World) (cs : Array Value) (E n : Nat) (l : List α) (hf : ∀ x, (f x).length = n) (h : cs = (l.flatMap f).toArray) (hl : l.length ≤ 1000000000) :
    VOwn f n E w.heap.size (w.alloc (.cells cs E)) (some ⟨w.heap.size, 0, none⟩) l l.length := by
  refine ⟨?_⟩
  subst h
  have hs : (l.flatMap f).toArray.size = l.length * n := by rw [List.size_toArray, flatLen hf]
  have := World.ownsRow_lit (base := w.heap.size) (e := E) (size := n) w (l.flatMap f).toArray l.length (Nat.le_refl _) (by unfold maxLen; omega) hs
  simpa using this
theorem vec_lit (w : World) (cs : Array Value) (E n : Nat) (l : List α) (hf : ∀ x, (f x).length = n) (h : cs = (l.flatMap f).toArray) (hl : l.length ≤ 1000000000) :
    Vec f n (w.alloc (.cells cs E)) (some ⟨w.heap.size, 0, none⟩) l l.length := (vown_lit w cs E n l hf h hl).vec hf

/-- s = append(s, x): x lies in a new box. All side conditions are facts of the world ahead of the box. -/
theorem wpList_vapp1 (hE : ElemType P T E n by_ z) (hf : ∀ x, (f x).length = n) (h1 : ∀ x, ∀ u ∈ f x, u.oneCell' = true) {w0 : World} {ops : Array Oper} {rest : List Oper} {o : Oper} {act : Act} {Q : Exit → Act → World → Prop} (s x : Operand) (hgd : o.guard = none)
    (ho : o.op = .call { callee := .builtin .append, args := #[s, x], argTypes := #[T, T] }) {B : Nat} {cs : Array Value}
    {a : Option Addr} {l : List α} {cap : Nat} {y : α} (hown : VOwn f n E B w0 a l cap) (hcs : cs = (f y).toArray) (hlen : l.length + 1 ≤ 1000000000) (hbase : B ≤ w0.heap.size)
    (hs : act.eval s = .slice a l.length cap) (hx : act.eval x = .slice (some ⟨w0.heap.size, 0, none⟩) 1 1)
    (h : ∀ a' cap' w', VOwn f n E B w' a' (l ++ [y]) cap' → w0.grownBy w' (blk a) → Near w0.heap.size a a' → wpList P ops Q rest (act.put o.dst (.slice a' (l ++ [y]).length cap')) w') : wpList P ops Q (o :: rest) act (w0.alloc (.cells cs E)) := by
  have hv : Vec f n (w0.alloc (.cells cs E)) (some ⟨w0.heap.size, 0, none⟩) [y] 1 := vec_lit w0 cs E n [y] hf (by rw [hcs]; simp) (by simp)
  refine wpList_vapp hE hf h1 s x hgd ho (hown.alloc _) hv (by simp) hlen (by simp; omega) hs hx ?_
  intro a' cap' w' g1 g2 g3
  refine h a' cap' w' g1 ?_ (fun g hg => ?_)
  · have h0 := World.grownBy_alloc w0 (.cells cs E) (blk a)
    refine ⟨g2.os.trans h0.os, g2.tape.trans h0.tape, g2.output.trans h0.output, Nat.le_trans h0.size g2.size, fun k hk hne => ?_⟩
    rw [g2.block k (Nat.lt_of_lt_of_le hk h0.size) hne, h0.block k hk hne]
  · rcases g3 g hg with h | h
    · exact .inl h
    · right; simp at h; omega
theorem VOwn.grown {E B w w' a cap} {l : List α} (h : VOwn f n E B w a l cap) (hg : w.grownBy w' (blk a)) (hb : B ≤ w.heap.size) : Below B w w' :=
  grown_below hg hb (fun _ hk => (h.blk_ge hk).1)

/-- The same as one step of a region that draws its order (the draw stands outermost). -/
theorem step_vapp1 (hE : ElemType P T E n by_ z) (hf : ∀ x, (f x).length = n) (h1 : ∀ x, ∀ u ∈ f x, u.oneCell' = true) {w0 : World} {ops : Array Oper} {o : Oper} {act : Act} {K : Act → World → Prop} {Q : Exit → Act → World → Prop} {F : Prop} (s x : Operand) (hgd : o.guard = none)
    (ho : o.op = .call { callee := .builtin .append, args := #[s, x], argTypes := #[T, T] }) {B : Nat} {cs : Array Value}
    {a : Option Addr} {l : List α} {cap : Nat} {y : α} (hown : VOwn f n E B w0 a l cap) (hcs : cs = (f y).toArray) (hlen : l.length + 1 ≤ 1000000000) (hbase : B ≤ w0.heap.size)
    (hs : act.eval s = .slice a l.length cap) (hx : act.eval x = .slice (some ⟨w0.heap.size, 0, none⟩) 1 1)
    (h : ∀ a' cap' w', VOwn f n E B w' a' (l ++ [y]) cap' → w0.grownBy w' (blk a) → Near w0.heap.size a a' → K (act.put o.dst (.slice a' (l ++ [y]).length cap')) w') :
    if Region.wanted o (yielded ops act.tmps) = true then Oper.wp P o act ((w0.alloc (.cells cs E)).drew) K Q else F := by
  have hw : Region.wanted o (yielded ops act.tmps) = true := by simp [Region.wanted, hgd]
  rw [if_pos hw]
  have hv : Vec f n ((w0.alloc (.cells cs E)).drew) (some ⟨w0.heap.size, 0, none⟩) [y] 1 := (vec_lit w0 cs E n [y] hf (by rw [hcs]; simp) (by simp)).drewN 1
  have hO : VOwn f n E B ((w0.alloc (.cells cs E)).drew) a l cap := (hown.alloc _).save (Save.drewN (S := fun _ => True) _ 1) (fun _ _ => trivial)
  refine wp_vapp hE hf h1 s x ho hO hv (by simp) hlen (by show B ≤ (w0.alloc (.cells cs E)).heap.size; simp; omega) hs hx ?_
  intro a' cap' w' g1 g2 g3
  refine h a' cap' w' g1 ?_ (fun g hg => ?_)
  · have h0 : w0.grownBy ((w0.alloc (.cells cs E)).drew) (blk a) := ⟨rfl, rfl, rfl, by show _ ≤ (w0.alloc (.cells cs E)).heap.size; simp, fun k hk _ => (World.grownBy_alloc w0 (.cells cs E) none).block k hk (by simp)⟩
    refine ⟨g2.os.trans h0.os, g2.tape.trans h0.tape, g2.output.trans h0.output, Nat.le_trans h0.size g2.size, fun k hk hne => ?_⟩
    rw [g2.block k (Nat.lt_of_lt_of_le hk h0.size) hne, h0.block k hk hne]
  · rcases g3 g hg with h | h
    · exact .inl h
    · right
      have h' : (w0.alloc (.cells cs E)).heap.size ≤ g := h
      simp at h'; omega

/-- The same with several elements in the new box. -/
theorem step_vappm (hE : ElemType P T E n by_ z) (hf : ∀ x, (f x).length = n) (h1 : ∀ x, ∀ u ∈ f x, u.oneCell' = true) {w0 : World} {ops : Array Oper} {o : Oper} {act : Act} {K : Act → World → Prop} {Q : Exit → Act → World → Prop} {F : Prop} (s x : Operand) (hgd : o.guard = none)
    (ho : o.op = .call { callee := .builtin .append, args := #[s, x], argTypes := #[T, T] }) {B m : Nat} {cs : Array Value}
    {a : Option Addr} {l : List α} {cap : Nat} (ys : List α) (hown : VOwn f n E B w0 a l cap) (hcs : cs = (ys.flatMap f).toArray) (hm : ys.length = m) (hy : ys ≠ []) (hlen : l.length + ys.length ≤ 1000000000) (hbase : B ≤ w0.heap.size)
    (hs : act.eval s = .slice a l.length cap) (hx : act.eval x = .slice (some ⟨w0.heap.size, 0, none⟩) m m)
    (h : ∀ a' cap' w', VOwn f n E B w' a' (l ++ ys) cap' → w0.grownBy w' (blk a) → Near w0.heap.size a a' → K (act.put o.dst (.slice a' (l ++ ys).length cap')) w') :
    if Region.wanted o (yielded ops act.tmps) = true then Oper.wp P o act ((w0.alloc (.cells cs E)).drew) K Q else F := by
  have hw : Region.wanted o (yielded ops act.tmps) = true := by simp [Region.wanted, hgd]
  rw [if_pos hw]
  subst hm
  have hv : Vec f n ((w0.alloc (.cells cs E)).drew) (some ⟨w0.heap.size, 0, none⟩) ys ys.length := (vec_lit w0 cs E n ys hf hcs (by omega)).drewN 1
  have hO : VOwn f n E B ((w0.alloc (.cells cs E)).drew) a l cap := (hown.alloc _).save (Save.drewN (S := fun _ => True) _ 1) (fun _ _ => trivial)
  refine wp_vapp hE hf h1 s x ho hO hv hy hlen (by show B ≤ (w0.alloc (.cells cs E)).heap.size; simp; omega) hs hx ?_
  intro a' cap' w' g1 g2 g3
  refine h a' cap' w' g1 ?_ (fun g hg => ?_)
  · have h0 : w0.grownBy ((w0.alloc (.cells cs E)).drew) (blk a) := ⟨rfl, rfl, rfl, by show _ ≤ (w0.alloc (.cells cs E)).heap.size; simp, fun k hk _ => (World.grownBy_alloc w0 (.cells cs E) none).block k hk (by simp)⟩
    refine ⟨g2.os.trans h0.os, g2.tape.trans h0.tape, g2.output.trans h0.output, Nat.le_trans h0.size g2.size, fun k hk hne => ?_⟩
    rw [g2.block k (Nat.lt_of_lt_of_le hk h0.size) hne, h0.block k hk hne]
  · rcases g3 g hg with h | h
    · exact .inl h
    · right
      have h' : (w0.alloc (.cells cs E)).heap.size ≤ g := h
      simp at h'; omega
/-- Bytes. -/
@[reducible] def cb (x : UInt8) : List Value := [vb x]
theorem cb_len : ∀ x, (cb x).length = 1 := fun _ => rfl
theorem cb_one : ∀ x, ∀ u ∈ cb x, u.oneCell' = true := by intro x u hu; obtain rfl : u = vb x := by simpa using hu
                                                          rfl
theorem flat_cb (l : List UInt8) : l.flatMap cb = l.map vb := by
  induction l with
  | nil => rfl
  | cons x l ih => rw [List.flatMap_cons, ih]; rfl
theorem VOwn.own {E B : Nat} {w : World} {a : Option Addr} {l : List UInt8} {c : Nat} (h : VOwn cb 1 E B w a l c) : Own E B w a l c := ⟨by have := h.row; rwa [flat_cb] at this⟩
theorem Own.vown {E B : Nat} {w : World} {a : Option Addr} {l : List UInt8} {c : Nat} (h : Own E B w a l c) : VOwn cb 1 E B w a l c := ⟨by have := h.row; rwa [← flat_cb] at this⟩
theorem ElemType.ofBytes {P : Program} {T E : TypeId} (h : ByteTypes P T E) : ElemType P T E 1 1 (.int .u8 0) := ⟨h.slice, h.info, h.sz, rfl, by decide, by decide⟩

/-- make([]T, n), of elements of one cell. -/
theorem wpList_vmake {v : α → Value} {x0 : α} (hE : ElemType P T E 1 by_ (v x0)) (hz : (v x0).cells = #[v x0]) {w : World} {ops : Array Oper} {rest : List Oper} {o : Oper} {act : Act} {Q : Exit → Act → World → Prop} (x y : Operand) (hgd : o.guard = none)
    (ho : o.op = .makeSlice T x y) (k : Nat) (k1 k2 : IntKind) {N : Int} (hx : act.eval x = .int k1 N) (hy : act.eval y = .int k2 N) (hN : N = (k : Int)) (hk : k ≤ 1000000000)
    (h : ∀ w', VOwn (fun x => [v x]) 1 E w.heap.size w' (some ⟨w.heap.size, 0, none⟩) (List.replicate k x0) k → w.grownBy w' none → w.heap.size < w'.heap.size → wpList P ops Q rest (act.put o.dst (.slice (some ⟨w.heap.size, 0, none⟩) k k)) w') : wpList P ops Q (o :: rest) act w := by
  subst hN
  obtain ⟨i, hi, hz0, hz1, hz2⟩ := info_parts hE.info
  have hf := hE.few
  refine wpList_make_full w hgd x y T ho w.heap.size E i (v x0) 1 hE.slice hi hz0 hz1 k1 k2 k k k hx hy rfl rfl (by rw [hz2]; have := Nat.mul_le_mul hf hk; omega) (by unfold maxLen; omega) (Nat.le_refl _) ?_
  intro w' hown hgr
  have e1 : (madeCells (v x0).cells (k * 1)).toList = (List.replicate k x0).flatMap (fun x => [v x]) := by
    rw [hz, toList_madeCells_one, Nat.mul_one]
    induction k with
    | zero => rfl
    | succ k ih =>
      have : ∀ k, List.replicate k (v x0) = (List.replicate k x0).flatMap (fun x => [v x]) := by
        intro k
        induction k with
        | zero => rfl
        | succ k ih => rw [List.replicate_succ, List.replicate_succ, List.flatMap_cons, ih]; rfl
      exact this _
  rw [e1] at hown
  have hO : VOwn (fun x => [v x]) 1 E w.heap.size w' (some ⟨w.heap.size, 0, none⟩) (List.replicate k x0) k := ⟨by simpa using hown⟩
  exact h w' hO hgr (hO.blk_ge (g := w.heap.size) rfl).2
/-- An element is stored into a slice of one's own. -/
theorem VOwn.stored {v : α → Value} {B g : Nat} {w : World} {l : List α} {cap : Nat} (h : VOwn (fun x => [v x]) 1 E B w (some ⟨g, 0, none⟩) l cap) (i : Nat) (y : α) :
    VOwn (fun x => [v x]) 1 E B (w.setCell ⟨g, i, none⟩ (v y)) (some ⟨g, 0, none⟩) (l.set i y) cap ∧ w.grownBy (w.setCell ⟨g, i, none⟩ (v y)) (some g) := by
  have hs := h.row.stored i (v y)
  have e : ∀ l : List α, l.flatMap (fun x => [v x]) = l.map v := fun l => by
    induction l with
    | nil => rfl
    | cons x l ih => rw [List.flatMap_cons, ih]; rfl
  refine ⟨⟨?_⟩, hs.2⟩
  have := hs.1
  rw [e] at this
  rw [e, List.length_set, List.map_set]
  exact this
theorem VOwn.frozen {B g : Nat} {w : World} {l : List α} {cap : Nat} (h : VOwn f n E B w (some ⟨g, 0, none⟩) l cap) (i : Nat) : w.frozen? ⟨g, i, none⟩ = false := by
  rcases h.row.2 with ⟨hv, _⟩ | ⟨g', c', cur, hv, hb, hg, _⟩
  · simp at hv
  · simp only [Value.slice.injEq, Option.some.injEq, Addr.mk.injEq, and_true, true_and] at hv
    obtain ⟨rfl, _⟩ := hv
    simp [World.frozen?, hg]

/-- append(s, x...), s the call's own; x may be empty. -/
theorem wpList_vappany (hE : ElemType P T E n by_ z) (hf : ∀ x, (f x).length = n) (h1 : ∀ x, ∀ u ∈ f x, u.oneCell' = true) {w : World} {ops : Array Oper} {rest : List Oper} {o : Oper} {act : Act} {Q : Exit → Act → World → Prop} (s x : Operand) (hgd : o.guard = none)
    (ho : o.op = .call { callee := .builtin .append, args := #[s, x], argTypes := #[T, T] }) {B : Nat}
    {a b : Option Addr} {l m : List α} {cap c : Nat} (hown : VOwn f n E B w a l cap) (hm : Vec f n w b m c) (hlen : l.length + m.length ≤ 1000000000) (hbase : B ≤ w.heap.size)
    (hs : act.eval s = .slice a l.length cap) (hx : act.eval x = .slice b m.length c)
    (h : ∀ a' cap' w', VOwn f n E B w' a' (l ++ m) cap' → w.grownBy w' (blk a) → wpList P ops Q rest (act.put o.dst (.slice a' (l ++ m).length cap')) w') : wpList P ops Q (o :: rest) act w := by
  by_cases h0 : m = []
  · subst h0
    obtain ⟨i, hi, hz0, hz1, hz2⟩ := info_parts hE.info
    cases b with
    | none =>
      have hc := hm.nil rfl
      subst hc
      refine wpList_append_own_none hgd s x T ho B E i n hE.slice hi (.slice a l.length cap) l.length (l.flatMap f) hs hown.row hx ?_
      have hk := h a cap w
      rw [List.append_nil] at hk
      exact hk hown ⟨rfl, rfl, rfl, Nat.le_refl _, fun _ _ _ => rfl⟩
    | some p =>
      refine wpList_append_own w hgd s x T ho B E i z n by_ hE.slice hi hz0 hz1 hz2 hE.zs hE.pos _ l.length (l.flatMap f) hs hown.row p 0 c [] hx (by simp) (fun j u hu => by simp at hu) (fun u hu => by simp at hu) (by simp at hlen; unfold maxLen; omega) (by have := Nat.mul_le_mul hlen hE.few; simp at this ⊢; omega) hbase ?_
      intro v' w' hown' hgr hnil
      rw [ownBlock_slice] at hgr
      have hv' : ∃ a' cap', v' = .slice a' l.length cap' := by
        rcases hown'.2 with ⟨hv, hn⟩ | ⟨g', c', cur, hv, _⟩
        · exact ⟨none, 0, by rw [hv]; simp; omega⟩
        · exact ⟨some ⟨g', 0, none⟩, c', by rw [hv]; simp⟩
      obtain ⟨a', cap', rfl⟩ := hv'
      have hk := h a' cap' w'
      rw [List.append_nil] at hk
      exact hk ⟨by simpa using hown'⟩ hgr
  · exact wpList_vapp hE hf h1 s x hgd ho hown hm h0 hlen hbase hs hx (fun a' cap' w' g1 g2 _ => h a' cap' w' g1 g2)
/-- make([]T, 0, k). -/
theorem wpList_vmake0 (hE : ElemType P T E n by_ z) {w : World} {ops : Array Oper} {rest : List Oper} {o : Oper} {act : Act} {Q : Exit → Act → World → Prop} (x y : Operand) (hgd : o.guard = none)
    (ho : o.op = .makeSlice T x y) (k : Nat) (k1 k2 : IntKind) {N : Int} (hx : act.eval x = .int k1 0) (hy : act.eval y = .int k2 N) (hN : N = (k : Int)) (hk : k ≤ 1000000000)
    (h : ∀ w', VOwn f n E w.heap.size w' (some ⟨w.heap.size, 0, none⟩) [] k → w.grownBy w' none → w.heap.size < w'.heap.size → wpList P ops Q rest (act.put o.dst (.slice (some ⟨w.heap.size, 0, none⟩) 0 k)) w') : wpList P ops Q (o :: rest) act w := by
  obtain ⟨i, hi, hz0, hz1, hz2⟩ := info_parts hE.info
  have hfw := hE.few
  refine wpList_make_own w hgd x y T ho w.heap.size E i z n hE.slice hi hz0 hz1 k1 k2 N k hx hy hN (by rw [hz2]; have := Nat.mul_le_mul hfw hk; omega) (by unfold maxLen; omega) (Nat.le_refl _) ?_
  intro w' hown hgr
  have hO : VOwn f n E w.heap.size w' (some ⟨w.heap.size, 0, none⟩) [] k := ⟨hown⟩
  exact h w' hO hgr (hO.blk_ge (g := w.heap.size) rfl).2

theorem zip_parts (ρ : Operand → Value) : ∀ (vs : List Value) (xs : List Operand) (i : Nat), xs.map ρ = vs → (xs.zipIdx i).map (fun x => (x.2, ρ x.1)) = (vs.zipIdx i).map (fun x => (x.2, x.1))
  | [], xs, i, h => by obtain rfl : xs = [] := by simpa using h
                       rfl
  | v :: vs, [], i, h => by simp at h
  | v :: vs, x :: xs, i, h => by
    simp only [List.map_cons, List.cons.injEq] at h
    simp only [List.zipIdx_cons, List.map_cons]
    rw [h.1, zip_parts ρ vs xs (i + 1) h.2]
/-- []T{x, y, ..}: the operation. -/
theorem run_vbuild (hE : ElemType P T E n by_ z) {ρ : Operand → Value} {o : Oper} (xs : List Operand) (vs : List Value) (k : Nat) (ho : o.op = .buildSlice T k ((xs.zipIdx 0).map fun x => (x.2, x.1)).toArray) (hx : xs.map ρ = vs) (hk : vs.length = k) (h0 : 0 < k) (hs : ∀ v ∈ vs, v.cells.size = n) (hk9 : k * n ≤ 2 ^ 24) (w : World) :
    (execOp ρ o).run P w = .ok (.value (.slice (some ⟨w.heap.size, 0, none⟩) k k)) (w.alloc (.cells (vs.flatMap fun v => v.cells.toList).toArray E)) := by
  obtain ⟨i, hi, hz0, hz1, hz2⟩ := info_parts hE.info
  have hn := hE.pos
  have hfill := Great.fill_whole (s := n) hn vs ((Array.range (k * n)).map (z.cells[· % z.cells.size]!)) hs (by rw [hk]; simp)
  have hb := run_buildSlice (P := P) w T E k ((vs.zipIdx 0).map fun x => (x.2, x.1)).toArray _ i z hE.slice hi hz0 (by rw [hz1]; omega) (by rw [hz1]; exact Nat.ne_of_gt (Nat.mul_pos h0 hn)) (by rw [hz1]; exact hfill)
  unfold execOp
  rw [ho]
  dsimp only
  rw [show (((xs.zipIdx 0).map fun x => (x.2, x.1)).toArray.map fun (i, x) => (i, ρ x)) = ((vs.zipIdx 0).map fun x => (x.2, x.1)).toArray by
    rw [List.map_toArray, List.map_map, ← zip_parts ρ vs xs 0 hx]; rfl, Sem.run_bind, hb]
  rfl
end
end Go.Cit

/- What a slot holds, told by kind; a region that draws its order, by its operations' kinds. No condition. -/
namespace Go.Cit
open Go Go.RowKit

/-- What has been laid stays: cells, shapes (marks may change). -/
structure Grow (w w' : World) : Prop where
  size : w.heap.size ≤ w'.heap.size
  cell : ∀ p v, w.cell? p = some v → w'.cell? p = some v
  shape : ∀ b s, w.shape? b = some s → w'.shape? b = some s
theorem Grow.refl (w : World) : Grow w w := ⟨Nat.le_refl _, fun _ _ h => h, fun _ _ h => h⟩
theorem Grow.trans {a b c : World} (h : Grow a b) (k : Grow b c) : Grow a c := ⟨Nat.le_trans h.size k.size, fun p v hv => k.cell p v (h.cell p v hv), fun p v hv => k.shape p v (h.shape p v hv)⟩
theorem grow_of {w w' : World} (h : Below w.heap.size w w') : Grow w w' :=
  ⟨h.size, fun p v hv => (h.cell (World.block_lt_of_cell? w _ hv)).trans hv, fun b s hs => by
    have hb : b < w.heap.size := by
      rcases Nat.lt_or_ge b w.heap.size with h' | h'
      · exact h'
      · simp [World.shape?, Array.getElem?_eq_none h'] at hs
    unfold World.shape? at hs ⊢
    rw [h.block b hb]; exact hs⟩
theorem modify_get (a : Array Obj) (k i : Nat) (f : Obj → Obj) : (a.modify k f)[i]? = if k = i then (a[i]?).map f else a[i]? := by
  rw [Array.getElem?_modify]
theorem freeze_get (w : World) (p : Addr) (n i : Nat) : (∀ C t fr, w.heap[i]? = some (.cells C t fr) → ∃ fr', (w.freeze p n).heap[i]? = some (.cells C t fr')) ∧ (p.block ≠ i → (w.freeze p n).heap[i]? = w.heap[i]?) := by
  unfold World.freeze
  split
  · exact ⟨fun C t fr h => ⟨fr, h⟩, fun _ => rfl⟩
  · refine ⟨fun C t fr h => ?_, fun h => ?_⟩
    · dsimp only
      rw [modify_get, h]
      split
      · obtain ⟨lo, hi⟩ := fr; exact ⟨_, rfl⟩
      · exact ⟨fr, rfl⟩
    · dsimp only
      rw [modify_get, if_neg h]
theorem freeze_size (w : World) (p : Addr) (n : Nat) : (w.freeze p n).heap.size = w.heap.size := by
  unfold World.freeze; split <;> simp
theorem shape_cells {w : World} {b : Nat} {t : TypeId} {n : Nat} (h : w.shape? b = some (t, n)) : ∃ C fr, w.heap[b]? = some (.cells C t fr) ∧ C.size = n := by
  unfold World.shape? at h
  split at h
  · rename_i C e fr hb
    simp only [Option.some.injEq, Prod.mk.injEq] at h
    obtain ⟨rfl, rfl⟩ := h
    exact ⟨C, fr, hb, rfl⟩
  · exact absurd h (by simp)
theorem shape_new (w : World) (C : Array Value) (e : TypeId) (fr : Nat × Nat) : (w.alloc (.cells C e fr)).shape? w.heap.size = some (e, C.size) := by
  have : (w.alloc (.cells C e fr)).heap[w.heap.size]? = some (.cells C e fr) := by
    show (w.heap.push (.cells C e fr))[w.heap.size]? = _
    simp
  unfold World.shape?
  rw [this]
theorem below_freeze {B : Nat} (w : World) (p : Addr) (n : Nat) (h : B ≤ p.block) : Below B w (w.freeze p n) := by
  refine ⟨?_, ?_, ?_, by rw [freeze_size]; exact Nat.le_refl _, fun k hk => (freeze_get w p n k).2 (by omega)⟩ <;> (unfold World.freeze; split <;> rfl)
theorem Row.grow {w w' : World} {a l cap} (h : Row w a l cap) (g : Grow w w') : Row w' a l cap := ⟨h.le, h.top, h.nil, h.spot, fun i hi => g.cell _ _ (h.cell i hi)⟩

/-- What is said of a slot. -/
inductive Ty where
  | any
  | val (v : Value)
  | row (l : List UInt8)
  | two (s t : Ty)
  | lit (base : Nat) (e : TypeId) (l : List UInt8)
  | pr (p : Value → World → Prop) (h : ∀ v w w', Grow w w' → p v w → p v w')

def Ty.ok : Ty → Value → World → Prop
  | .any, _, _ => True
  | .val u, v, _ => v = u
  | .row l, v, w => ∃ a cp, v = .slice a l.length cp ∧ Row w a l cp
  | .two s t, v, w => ∃ x y, v = .tuple #[x, y] ∧ s.ok x w ∧ t.ok y w
  | .lit base e l, v, w => ∃ b, v = .slice (some ⟨b, 0, none⟩) l.length l.length ∧ base ≤ b ∧ w.shape? b = some (e, l.length) ∧ Row w (some ⟨b, 0, none⟩) l l.length
  | .pr p _, v, w => p v w

theorem Ty.stay : ∀ (t : Ty) {v : Value} {w w' : World}, Grow w w' → t.ok v w → t.ok v w'
  | .any, _, _, _, _, _ => trivial
  | .val _, _, _, _, _, h => h
  | .row _, _, _, _, hb, ⟨a, cp, hv, hr⟩ => ⟨a, cp, hv, hr.grow hb⟩
  | .two s t, _, _, _, hb, ⟨x, y, hv, hs, ht⟩ => ⟨x, y, hv, s.stay hb hs, t.stay hb ht⟩
  | .lit _ _ _, _, _, _, hb, ⟨b, hv, hge, hsh, hr⟩ => ⟨b, hv, hge, hb.shape _ _ hsh, hr.grow hb⟩
  | .pr _ h, _, _, _, hb, hp => h _ _ _ hb hp

/-- What an operation's result has to be. -/
def Gives (P : Program) (B : Nat) (w : World) (t : Ty) : Result Next → Prop
  | .ok (.value v) w' => Below B w w' ∧ Grow w w' ∧ t.ok v w'
  | .ok .skip w' => Below B w w' ∧ Grow w w' ∧ t.ok undef w'
  | .ok (.enter f args) w' => Calls P f args w' fun e w'' => ∃ v, e = .returned v ∧ Below B w w'' ∧ Grow w w'' ∧ t.ok v w''
  | _ => False

/-- The slot that an operation leaves, and what is said of it. -/
def tyOf (T : Nat → Ty) (o : Oper) : Ty := match o.dst with | some d => T d | none => .any

/-- Of each operation something is said. -/
def OpsAll (p : Nat → Oper → Prop) : List Oper → Nat → Prop
  | [], _ => True
  | o :: os, n => p n o ∧ OpsAll p os (n + 1)
theorem OpsAll.get {p : Nat → Oper → Prop} (os : List Oper) : ∀ n, OpsAll p os n → ∀ i o, os[i]? = some o → p (n + i) o := by
  induction os with
  | nil => intro n _ i o ho; simp at ho
  | cons x os ih =>
    intro n h i o ho
    cases i with
    | zero =>
      have hx : x = o := by simpa using ho
      subst hx
      exact h.1
    | succ i =>
      have := ih (n + 1) h.2 i o (by simpa using ho)
      rwa [Nat.add_assoc, Nat.add_comm 1 i] at this

theorem opsAll_cons {p : Nat → Oper → Prop} {o : Oper} {os : List Oper} {n : Nat} (h : p n o) (hs : OpsAll p os (n + 1)) : OpsAll p (o :: os) n := ⟨h, hs⟩
theorem opsAll_nil {p : Nat → Oper → Prop} {n : Nat} : OpsAll p [] n := trivial

/-- The operation waits for the one that leaves slot d. -/
def waitsB (ops : Array Oper) (o : Oper) (d : Nat) : Bool :=
  o.after.any fun e => Region.binds .any e && (match ops[e.on]? with | some p => decide (p.dst = some d) | none => false)
/-- No operation leaves slot d. -/
def outB (ops : Array Oper) (d : Nat) : Bool := ops.all fun o => decide (o.dst ≠ some d)
/-- The guard's operation leaves slot d. -/
def guardB (ops : Array Oper) (o : Oper) (d : Nat) (b : Bool) : Bool :=
  match o.guard with | none => false | some (j, c) => decide (c = b) && (match ops[j]? with | some p => decide (p.dst = some d) | none => false)

section
variable {P : Program} {ops : Array Oper} {Q : Exit → Act → World → Prop}

/-- What is known at one operation: its slots, by those it waits for; the slots that the region doesn't leave. -/
structure Known (ops : Array Oper) (T : Nat → Ty) (a0 : Act) (w0 : World) (o : Oper) (a : Act) (w : World) : Prop where
  below : Below w0.heap.size w0 w
  slot : ∀ d, waitsB ops o d = true → (T d).ok (a.eval (.tmp d)) w
  old : ∀ d, outB ops d = true → a.eval (.tmp d) = a0.eval (.tmp d)
  lit : ∀ v, a.eval (.const v) = v
  fn : ∀ f, a.eval (.func f) = .func (.func f) #[] #[]
  size : a.tmps.size = a0.tmps.size

/-- The operation is carried out. -/
def Wanted (ops : Array Oper) (o : Oper) (a : Act) : Prop := Region.wanted o (yielded ops a.tmps) = true

theorem wanted_free {o : Oper} {a : Act} (h : o.guard = none) : Wanted ops o a := by unfold Wanted Region.wanted; rw [h]
theorem wanted_by {o : Oper} {a : Act} (d : Nat) (b : Bool) (h : guardB ops o d b = true) (hv : a.eval (.tmp d) = .bool b) : Wanted ops o a := by
  unfold Wanted Region.wanted
  unfold guardB at h
  split at h
  · exact absurd h (by decide)
  · rename_i j c hg
    rw [hg]
    simp only [Bool.and_eq_true, decide_eq_true_eq] at h
    obtain ⟨rfl, h⟩ := h
    split at h
    · rename_i p hp
      simp only [decide_eq_true_eq] at h
      have hd : d < a.tmps.size := by
        rcases Nat.lt_or_ge d a.tmps.size with h' | h'
        · exact h'
        · simp [Act.eval, Array.getD, Nat.not_lt.2 h', undef] at hv
      have e : a.tmps[d]? = some (.bool c) := by
        rw [Array.getElem?_eq_getElem hd, ← hv]
        simp [Act.eval, Array.getD, hd]
      simp [yielded, hp, h, e]
    · exact absurd h (by decide)

theorem wp_region_ty {id : Nat} {a0 : Act} {w : World} (T : Nat → Ty)
    (hm : P.follows .mixedOrders = true) (hs : shapeB ops a0.tmps.size = true)
    (hop : OpsAll (fun _ o => ∀ a wx, Known ops T a0 w o a wx → Wanted ops o a ∧ Gives P w.heap.size wx (tyOf T o) ((execOp a.eval o).run P wx)) ops.toList 0)
    (hend : ∀ a wx, Below w.heap.size w wx → SameBut ops a0 a → (∀ d, outB ops d = false → (T d).ok (a.eval (.tmp d)) wx) → Q .normal a wx) :
    (Code.region id ops true).wp P Q a0 w := by
  refine wp_region_typed (fun wx => Below w.heap.size w wx) (fun w1 w2 => Below w.heap.size w1 w2 ∧ Grow w1 w2) (fun i v wx => ∀ o, ops[i]? = some o → (tyOf T o).ok v wx) hm hs
    (fun w1 w2 h1 h2 => h1.trans h2.1) (fun i v w1 w2 _ hb h o ho => (tyOf T o).stay hb.2 (h o ho)) ⟨rfl, rfl, rfl, Nat.le_refl _, fun _ _ => rfl⟩ ?_ ?_
  · intro i o a wx ho hc hsame hdep o' ho'
    obtain rfl : o = o' := by rw [ho] at ho'; exact Option.some.inj ho'
    have hk : Known ops T a0 w o a wx := by
      refine ⟨hc, fun d hd => ?_, fun d hd => ?_, fun _ => rfl, fun _ => rfl, hsame.2.1⟩
      · unfold waitsB at hd
        rw [Array.any_eq_true] at hd
        obtain ⟨k, hk, he⟩ := hd
        rw [Bool.and_eq_true] at he
        obtain ⟨hb, hp⟩ := he
        split at hp
        · rename_i p hpp
          simp only [decide_eq_true_eq] at hp
          have := hdep _ (Array.getElem_mem hk) hb p d hpp hp p hpp
          unfold tyOf at this
          rw [hp] at this
          exact this
        · exact absurd hp (by decide)
      · refine hsame.2.2 d fun j p hp hpd => ?_
        unfold outB at hd
        rw [Array.all_eq_true] at hd
        obtain ⟨hj, hjp⟩ := Array.getElem?_eq_some_iff.1 hp
        have := hd j hj
        rw [hjp] at this
        simp [hpd] at this
    have h := OpsAll.get _ _ hop i o (by simpa using ho) a wx hk
    unfold wpOp
    rw [ho]
    dsimp only
    rw [if_pos (show Region.wanted o (yielded ops a.tmps) = true from h.1)]
    refine Or.inl ?_
    unfold Oper.wp
    have h2 := h.2
    generalize (execOp a.eval o).run P wx = r at h2
    have hgo : ∀ v w', (Below w.heap.size wx w' ∧ Grow wx w') → (tyOf T o).ok v w' → ∃ v', a.put o.dst v = a.put o.dst v' ∧ (Below w.heap.size wx w' ∧ Grow wx w') ∧ ∀ o', ops[i]? = some o' → (tyOf T o').ok v' w' := by
      intro v w' hb hv
      refine ⟨v, rfl, hb, fun o' ho' => ?_⟩
      obtain rfl : o = o' := by rw [ho] at ho'; exact Option.some.inj ho'
      exact hv
    match r, h2 with
    | .ok (.value v) w', h2 => exact hgo v w' ⟨h2.1, h2.2.1⟩ h2.2.2
    | .ok .skip w', h2 => exact hgo undef w' ⟨h2.1, h2.2.1⟩ h2.2.2
    | .ok (.enter f args) w', h2 =>
      refine Calls.mono h2 ?_
      rintro e w'' ⟨v, rfl, hb, hg, hv⟩
      exact hgo v w'' ⟨hb, hg⟩ hv
  · intro a wx hc hsame hall
    refine hend a wx hc hsame fun d hd => ?_
    unfold outB at hd
    rw [Array.all_eq_false] at hd
    obtain ⟨j, hj, hp⟩ := hd
    have hpd : ops[j].dst = some d := by simpa using hp
    have := hall j ops[j] d (by simp [hj]) hpd ops[j] (by simp [hj])
    unfold tyOf at this
    rw [hpd] at this
    exact this
end

section
variable {P : Program} {B : Nat} {w : World} {t : Ty} {o : Oper} {ρ : Operand → Value}
theorem g_move (x : Operand) (h : o.op = .move x) (hv : t.ok (ρ x) w) : Gives P B w t ((execOp ρ o).run P w) := by
  unfold execOp; rw [h]; exact ⟨Below.refl _ _, Grow.refl _, hv⟩
theorem g_assign (x : Operand) (h : o.op = .assign x) (hv : t.ok (ρ x) w) : Gives P B w t ((execOp ρ o).run P w) := by
  unfold execOp; rw [h]; exact ⟨Below.refl _ _, Grow.refl _, hv⟩
theorem g_load {T : TypeId} (x : Operand) (h : o.op = .load T x) {p v : Value} (hx : ρ x = p) (hr : (Instr.loadAt T p).run P w = .ok v w) (hv : t.ok v w) : Gives P B w t ((execOp ρ o).run P w) := by
  unfold execOp; rw [h]; dsimp only; rw [hx, Sem.run_bind, hr]
  exact ⟨Below.refl _ _, Grow.refl _, hv⟩
theorem g_index {T : TypeId} (x y : Operand) (h : o.op = .indexAddr T x y) {p q v : Value} (hx : ρ x = p) (hy : ρ y = q) (hr : (Instr.indexAt T p q).run P w = .ok v w) (hv : t.ok v w) : Gives P B w t ((execOp ρ o).run P w) := by
  unfold execOp; rw [h]; dsimp only; rw [hx, hy, Sem.run_bind, hr]
  exact ⟨Below.refl _ _, Grow.refl _, hv⟩
theorem g_pick {c x y : Operand} (h : o.op = .pick c x y) (b : Bool) (hc : ρ c = .bool b) (hv : t.ok (if b then ρ x else ρ y) w) : Gives P B w t ((execOp ρ o).run P w) := by
  unfold execOp; rw [h]; dsimp only; rw [hc]; exact ⟨Below.refl _ _, Grow.refl _, hv⟩
theorem g_not {ty : TypeId} {x : Operand} (h : o.op = .unOp .not ty x) (b : Bool) (hx : ρ x = .bool b) (hv : t.ok (.bool !b) w) : Gives P B w t ((execOp ρ o).run P w) := by
  unfold execOp; rw [h]; dsimp only; rw [hx]; exact ⟨Below.refl _ _, Grow.refl _, hv⟩
theorem g_bin {op : BinOp} {ty u : TypeId} {x y : Operand} (h : o.op = .binOp op ty x y u) {v1 v2 v : Value} (hx : ρ x = v1) (hy : ρ y = v2)
    (hr : ∀ w, (do eqGuard op ty x y v1 v2; binOp op ty v1 v2 : Sem Value).run P w = .ok v w) (hv : t.ok v w) : Gives P B w t ((execOp ρ o).run P w) := by
  unfold execOp; rw [h]; dsimp only; rw [hx, hy]
  have := hr w
  generalize (do eqGuard op ty x y v1 v2; binOp op ty v1 v2 : Sem Value) = s at this
  have e : ((do pure (.value (← s)) : Sem Next)).run P w = .ok (.value v) w := by
    rw [Sem.run_bind, this]; rfl
  rw [e]
  exact ⟨Below.refl _ _, Grow.refl _, hv⟩
theorem g_call (hB : B ≤ w.heap.size) {f : FuncId} {xs : Array Operand} {ts : Array TypeId} (h : o.op = .call { callee := .value (.func f), args := xs, argTypes := ts }) (hf : ρ (.func f) = .func (.func f) #[] #[])
    (args : Array Value) (hcf : ∀ w, (callFunc f args).run P w = .ok (.enter f args) w) (ha : xs.map ρ = args) (hc : Calls P f args w fun e w'' => ∃ v, e = .returned v ∧ Below w.heap.size w w'' ∧ t.ok v w'') : Gives P B w t ((execOp ρ o).run P w) := by
  unfold execOp; rw [h]; dsimp only; unfold resolve; dsimp only; rw [hf, ha]
  have e : args ++ #[] = args := by simp
  have e2 : (invoke (.fn (.func f) #[]) args : Sem Next).run P w = .ok (.enter f args) w := by
    unfold invoke; dsimp only; rw [e]; exact hcf w
  simp only [Deferred.ofValue, Sem.run_bind, Sem.run_pure, Result.andThen, Array.empty_append, e2]
  exact Calls.mono hc fun e w'' ⟨v, he, hb, hv⟩ => ⟨v, he, hb.mono hB, grow_of hb, hv⟩
theorem g_slice {ty : TypeId} {x : Operand} {lo hi mx : Option Operand} (h : o.op = .slice ty x lo hi mx) {vx v : Value} {vl vh vm : Option Value} (hx : ρ x = vx) (hl : lo.map ρ = vl) (hh : hi.map ρ = vh) (hm : mx.map ρ = vm)
    (hr : ∀ w, (Instr.sliceAt ty vx vl vh vm).run P w = .ok v w) (hv : t.ok v w) : Gives P B w t ((execOp ρ o).run P w) := by
  unfold execOp; rw [h]; dsimp only; rw [hx, hl, hh, hm, Sem.run_bind, hr]
  exact ⟨Below.refl _ _, Grow.refl _, hv⟩
/-- An operation that lays something new, or nothing. -/
theorem g_lay (hB : B ≤ w.heap.size) (v : Value) (w' : World) (hrun : (execOp ρ o).run P w = .ok (.value v) w') (hb : Below w.heap.size w w') (hv : t.ok v w') : Gives P B w t ((execOp ρ o).run P w) := by
  rw [hrun]; exact ⟨hb.mono hB, grow_of hb, hv⟩
theorem g_len {ty : TypeId} {x : Operand} (h : o.op = .call { callee := .builtin .len, args := #[x], argTypes := #[ty] }) (hty : P.underlying ty = some (.slice (P.elem ty))) {a : Option Addr} {n c : Nat} (hx : ρ x = .slice a n c) (hv : t.ok (.int .i64 n) w) : Gives P B w t ((execOp ρ o).run P w) := by
  have e : (execOp ρ o).run P w = .ok (.value (.int .i64 n)) w := by
    unfold execOp; rw [h]; dsimp only; unfold resolve; dsimp only
    simp [hx, invoke, run_len_slice w ty o.type a n c hty, Result.andThen, go_sem, builtin]
  rw [e]; exact ⟨Below.refl _ _, Grow.refl _, hv⟩
theorem g_mark {ty E : TypeId} {x : Operand} {l : List UInt8} (h : o.op = .convert ty ty x) (ht : P.underlying ty = some (.slice E)) (he : P.underlying E = some (.int .u8))
    (hx : (Ty.lit B E l).ok (ρ x) w) (hv : t = .row l) : Gives P B w t ((execOp ρ o).run P w) := by
  obtain ⟨b, hxv, hge, hsh, hr⟩ := hx
  subst hv
  have e : (convert ty ty (.slice (some ⟨b, 0, none⟩) l.length l.length)).run P w = .ok (.slice (some ⟨b, 0, none⟩) l.length l.length) (w.freeze ⟨b, l.length, none⟩ 1) := by
    simp [convert, run_underlying ht, run_underlying he, markStringish, hsh]
  have e2 : (execOp ρ o).run P w = .ok (.value (.slice (some ⟨b, 0, none⟩) l.length l.length)) (w.freeze ⟨b, l.length, none⟩ 1) := by
    unfold execOp; rw [h]; dsimp only; rw [hxv, Sem.run_bind, e]; rfl
  rw [e2]
  have hg : Grow w (w.freeze ⟨b, l.length, none⟩ 1) := by
    refine ⟨by rw [freeze_size]; exact Nat.le_refl _, fun p v hp => ?_, fun k s hs => ?_⟩
    · unfold World.cell? at hp ⊢
      split at hp
      · rename_i C e fr hk
        obtain ⟨fr', hk'⟩ := (freeze_get w ⟨b, l.length, none⟩ 1 p.block).1 C e fr hk
        rw [hk']; exact hp
      · exact absurd hp (by simp)
    · obtain ⟨C, fr, hk, hn⟩ := shape_cells (t := s.1) (n := s.2) hs
      obtain ⟨fr', hk'⟩ := (freeze_get w ⟨b, l.length, none⟩ 1 k).1 C s.1 fr hk
      unfold World.shape?
      rw [hk']
      dsimp only
      rw [hn]
  exact ⟨below_freeze w _ _ hge, hg, _, _, rfl, hr.grow hg⟩
end
end Go.Cit

/- Arguments of any plain type (numbers, bools, strings, arrays, structs, slices of such), opened to cells. No condition. -/
namespace Go.Cit
open Go Go.RowKit Go.ChangeShapes Go.WideShapes Go.Deep

/-- A slice: where it lies, its capacity, its elements. -/
structure Sl (α : Type) where
  a : Option Addr
  c : Nat
  l : List α

/-- The shape of a type (false), of a struct's fields (true). -/
inductive Sh : Bool → Type where
  | i64 : Sh false
  | u8 : Sh false
  | u32 : Sh false
  | u64 : Sh false
  | bool : Sh false
  | str : Sh false
  | bytes : Sh false
  | arr (n : Nat) (s : Sh false) : Sh false
  | slice (s : Sh false) : Sh false
  | st (f : Sh true) : Sh false
  | nil : Sh true
  | cons (s : Sh false) (f : Sh true) : Sh true

@[reducible] def Sh.D : {b : Bool} → Sh b → Type
  | _, .i64 => Int
  | _, .u8 => UInt8
  | _, .u32 => UInt32
  | _, .u64 => UInt64
  | _, .bool => Bool
  | _, .str => ByteArray
  | _, .bytes => Sl UInt8
  | _, .arr _ s => List s.D
  | _, .slice s => Sl s.D
  | _, .st f => f.D
  | _, .nil => Unit
  | _, .cons s f => s.D × f.D

def Sh.size : {b : Bool} → Sh b → Nat
  | _, .i64 => 1
  | _, .u8 => 1
  | _, .u32 => 1
  | _, .u64 => 1
  | _, .bool => 1
  | _, .str => 1
  | _, .bytes => 1
  | _, .arr n s => n * s.size
  | _, .slice _ => 1
  | _, .st f => f.size
  | _, .nil => 0
  | _, .cons s f => s.size + f.size

/-- The cells. -/
def Sh.enc : {b : Bool} → (s : Sh b) → s.D → List Value
  | _, .i64, n => [.int .i64 n]
  | _, .u8, x => [vb x]
  | _, .u32, x => [vw x]
  | _, .u64, x => [vq x]
  | _, .bool, x => [.bool x]
  | _, .str, x => [.string x]
  | _, .bytes, d => [.slice d.a d.l.length d.c]
  | _, .arr _ s, l => l.flatMap s.enc
  | _, .slice _, d => [.slice d.a d.l.length d.c]
  | _, .st f, d => f.enc d
  | _, .nil, _ => []
  | _, .cons s f, d => s.enc d.1 ++ f.enc d.2

/-- What lies in memory. -/
def Sh.ok : {b : Bool} → (s : Sh b) → World → s.D → Prop
  | _, .i64, _, n => -9223372036854775808 ≤ n ∧ n ≤ 9223372036854775807
  | _, .u8, _, _ => True
  | _, .u32, _, _ => True
  | _, .u64, _, _ => True
  | _, .bool, _, _ => True
  | _, .str, _, s => s.size ≤ maxLen
  | _, .bytes, w, d => Row w d.a d.l d.c ∧ d.c ≤ 140737488351232
  | _, .arr n s, w, l => l.length = n ∧ ∀ x ∈ l, s.ok w x
  | _, .slice s, w, d => d.l.length ≤ d.c ∧ d.c ≤ 140737488351232 ∧ (d.a = none → d.c = 0) ∧ (d.l ≠ [] → ∃ b off, d.a = some ⟨b, off, none⟩) ∧
      ∀ i (h : i < d.l.length), (∀ j, j < s.size → w.cell? (ad d.a (i * s.size + j)) = (s.enc d.l[i])[j]?) ∧ s.ok w d.l[i]
  | _, .st f, w, d => f.ok w d
  | _, .nil, _, _ => True
  | _, .cons s f, w, d => s.ok w d.1 ∧ f.ok w d.2

def isInt (d : Option TypeDesc) (k : IntKind) : Bool := match d with | some (.int j) => decide (j = k) | _ => false
def isBool (d : Option TypeDesc) : Bool := match d with | some .bool => true | _ => false
def isStr (d : Option TypeDesc) : Bool := match d with | some .string => true | _ => false
theorem isInt_ {d : Option TypeDesc} {k : IntKind} (h : isInt d k = true) : d = some (.int k) := by
  unfold isInt at h; split at h
  · rw [of_decide_eq_true h]
  · exact absurd h (by decide)
theorem isBool_ {d : Option TypeDesc} (h : isBool d = true) : d = some .bool := by
  unfold isBool at h; split at h
  · rfl
  · exact absurd h (by decide)
theorem isStr_ {d : Option TypeDesc} (h : isStr d = true) : d = some .string := by
  unfold isStr at h; split at h
  · rfl
  · exact absurd h (by decide)

/-- Type t has the shape; the fields, from an offset on. -/
def Sh.fits (P : Program) : {b : Bool} → Sh b → TypeId → List Field → Nat → Bool
  | _, .i64, t, _, _ => isInt (P.underlying t) .i64
  | _, .u8, t, _, _ => isInt (P.underlying t) .u8
  | _, .u32, t, _, _ => isInt (P.underlying t) .u32
  | _, .u64, t, _, _ => isInt (P.underlying t) .u64
  | _, .bool, t, _, _ => isBool (P.underlying t)
  | _, .str, t, _, _ => isStr (P.underlying t)
  | _, .bytes, t, _, _ => match P.underlying t with
    | some (.slice e) => isInt (P.underlying e) .u8 && P.cellsOf e == 1 && P.bytesOf e == 1
    | _ => false
  | _, .arr n s, t, _, _ => match P.underlying t with
    | some (.array m e) => m == n && P.cellsOf e == s.size && s.fits P e [] 0 && P.cellsOf t == n * s.size
    | _ => false
  | _, .slice s, t, _, _ => match P.underlying t with
    | some (.slice e) => P.cellsOf e == s.size && decide (0 < s.size ∧ 0 < P.bytesOf e) && s.fits P e [] 0
    | _ => false
  | _, .st f, t, _, _ => match P.underlying t with
    | some (.struct fs) => P.cellsOf t == f.size && f.fits P 0 fs.toList 0
    | _ => false
  | _, .nil, _, fs, _ => fs.isEmpty
  | _, .cons s f, _, fs, off => match fs with
    | fd :: fs => fd.offset == off && P.cellsOf fd.type == s.size && s.fits P fd.type [] 0 && f.fits P 0 fs (off + s.size)
    | [] => false

theorem Sh.enc_length : {b : Bool} → (s : Sh b) → (w : World) → (d : s.D) → s.ok w d → (s.enc d).length = s.size
  | _, .i64, _, _, _ => rfl
  | _, .u8, _, _, _ => rfl
  | _, .u32, _, _, _ => rfl
  | _, .u64, _, _, _ => rfl
  | _, .bool, _, _, _ => rfl
  | _, .str, _, _, _ => rfl
  | _, .bytes, _, _, _ => rfl
  | _, .arr n s, w, l, h => by
    have : ∀ l : List s.D, (∀ x ∈ l, s.ok w x) → (l.flatMap s.enc).length = l.length * s.size := by
      intro l hl
      induction l with
      | nil => simp
      | cons x l ih => rw [List.flatMap_cons, List.length_append, s.enc_length w x (hl x (by simp)), ih (fun y hy => hl y (by simp [hy])), List.length_cons, Nat.succ_mul, Nat.add_comm]
    show (List.flatMap s.enc l).length = n * s.size
    rw [this l h.2, h.1]
  | _, .slice _, _, _, _ => rfl
  | _, .st f, w, d, h => f.enc_length w d h
  | _, .nil, _, _, _ => rfl
  | _, .cons s f, w, d, h => by
    show (s.enc d.1 ++ f.enc d.2).length = s.size + f.size
    rw [List.length_append, s.enc_length w d.1 h.1, f.enc_length w d.2 h.2]

theorem choose_lt' {α : Type} : ∀ (n : Nat) {p : Nat → α → Prop}, (∀ i, i < n → ∃ x, p i x) → ∃ l : List α, l.length = n ∧ ∀ i (h : i < l.length), p i l[i]
  | 0, _, _ => ⟨[], rfl, fun i h => by simp at h⟩
  | n + 1, p, h => by
    obtain ⟨l, hl, hp⟩ := choose_lt' n (p := p) (fun i hi => h i (by omega))
    obtain ⟨x, hx⟩ := h n (by omega)
    refine ⟨l ++ [x], by simp [hl], fun i hi => ?_⟩
    by_cases hin : i < l.length
    · rw [List.getElem_append_left hin]; exact hp i hin
    · have : i = n := by simp at hi; omega
      subst this
      rw [List.getElem_append_right (by omega)]
      simpa [hl] using hx

theorem flat_of_parts {α : Type} (k : Nat) (f : α → List Value) : ∀ (l : List α) (cs : List Value), cs.length = l.length * k → (∀ i (h : i < l.length), (cs.drop (i * k)).take k = f l[i]) → cs = l.flatMap f
  | [], cs, h, _ => by simp at h; simp [h]
  | x :: l, cs, h, hp => by
    have h0 := hp 0 (by simp)
    simp only [Nat.zero_mul, List.drop_zero, List.getElem_cons_zero] at h0
    have ih := flat_of_parts k f l (cs.drop k) (by simp at h ⊢; rw [h, Nat.succ_mul]; omega) (fun i hi => by
      have := hp (i + 1) (by simp; omega)
      rw [Nat.succ_mul, Nat.add_comm (i * k) k] at this
      simpa [List.drop_drop] using this)
    rw [List.flatMap_cons, ← h0, ← ih, List.take_append_drop]

section
variable {H : Type} {enc : TypeId × Value → H} {P : Program} {w : World} {base : Nat} {held : Bool}

theorem addr_ad {w : World} {a : Addr} {k : Nat} {v : Value} (h : w.cell? (a.add k) = some v) : a.add k = ad (some a) k ∧ (0 < k → True) := by
  refine ⟨?_, fun _ => trivial⟩
  have hs := World.cell?_spot h
  obtain ⟨b, off, sp⟩ := a
  unfold Addr.add ad at *
  by_cases h0 : k = 0
  · subst h0; simp at hs ⊢; simp [hs]
  · simp [h0]

theorem weights_mem_all : ∀ {e : TypeId} {ds : List (DataW H)} {j : Nat} {d : DataW H}, ds[j]? = some d → ∀ n ∈ d.weights P e, n ∈ DataW.weightsAll P e ds
  | e, d0 :: ds, 0, d, hd, n, hn => by
    simp only [List.getElem?_cons_zero, Option.some.injEq] at hd
    subst hd
    simp only [DataW.weightsAll, List.mem_append]
    exact Or.inl hn
  | e, d0 :: ds, j + 1, d, hd, n, hn => by
    simp only [List.getElem?_cons_succ] at hd
    simp only [DataW.weightsAll, List.mem_append]
    exact Or.inr (weights_mem_all hd n hn)
  | _, [], _, _, hd, _, _ => by simp at hd

/-- Each size is within the reach. -/
def Fine (P : Program) (t : TypeId) (d : DataW H) : Prop := ∀ n ∈ d.weights P t, n ≤ 140737488351232

mutual
theorem open_sh : (s : Sh false) → (t : TypeId) → (fs : List Field) → (off : Nat) → (fuel : Nat) → (cs : List Value) → (x : DataW H × List MemPlace) → s.fits P t fs off = true → DataW.trod enc P w base (fun _ => true) held fuel t cs = some x → Fine P t x.1 → ∃ d : s.D, cs = s.enc d ∧ s.ok w d
  | .i64, t, _, _, fuel, cs, x, hf, h, hz0 => by
    obtain ⟨n, rfl, _, hw⟩ := DataW.trod_int (isInt_ hf) h
    exact ⟨n, rfl, i64_of_wf hw⟩
  | .u8, t, _, _, fuel, cs, x, hf, h, hz0 => by
    obtain ⟨n, rfl, _, hw⟩ := DataW.trod_int (isInt_ hf) h
    obtain ⟨y, rfl⟩ := u8_of_wf hw
    exact ⟨y, rfl, trivial⟩
  | .u32, t, _, _, fuel, cs, x, hf, h, hz0 => by
    obtain ⟨n, rfl, _, hw⟩ := DataW.trod_int (isInt_ hf) h
    obtain ⟨y, rfl⟩ := u32_of_wf hw
    exact ⟨y, rfl, trivial⟩
  | .u64, t, _, _, fuel, cs, x, hf, h, hz0 => by
    obtain ⟨n, rfl, _, hw⟩ := DataW.trod_int (isInt_ hf) h
    obtain ⟨y, rfl⟩ := u64_of_wf hw
    exact ⟨y, rfl, trivial⟩
  | .bool, t, _, _, fuel, cs, x, hf, h, hz0 => by
    obtain ⟨y, rfl, _⟩ := DataW.trod_bool (isBool_ hf) h
    exact ⟨y, rfl, trivial⟩
  | .str, t, _, _, fuel, cs, x, hf, h, hz0 => by
    obtain ⟨y, rfl, _, hw⟩ := DataW.trod_string (isStr_ hf) h
    exact ⟨y, rfl, hw⟩
  | .bytes, t, _, _, fuel, cs, x, hf, h, hz0 => by
    unfold Sh.fits at hf
    split at hf
    · rename_i e he
      rw [Bool.and_eq_true, Bool.and_eq_true, beq_iff_eq, beq_iff_eq] at hf
      rcases open_ints he (isInt_ hf.1.1) hf.1.2 h with ⟨rfl, _⟩ | ⟨a, len, cap, zs, rfl, _, hl, hm, hz, rfl, hcell, hwz⟩
      · exact ⟨⟨none, 0, []⟩, rfl, Row.nil_ w, Nat.zero_le _⟩
      · have h1 : ((lits (H := H) .u8 (zs.take len)).length + (lits (H := H) .u8 (zs.drop len)).length) * P.bytesOf e ≤ 140737488351232 := hz0 _ (by simp [DataW.weights, he])
        have hcz : cap ≤ 140737488351232 := by
          rw [hf.2, Nat.mul_one] at h1
          simp [lits] at h1 hz
          omega
        obtain ⟨l, rfl, hr⟩ := row_of (w := w) (a := some a) (len := len) (cap := cap) (zs := zs) (.inr ⟨a, rfl, hl, hm, by simpa using hz, hcell, hwz⟩)
        exact ⟨⟨some a, cap, l⟩, rfl, hr, hcz⟩
    · exact absurd hf (by decide)
  | .arr n s, t, _, _, fuel, cs, x, hf, h, hz0 => by
    unfold Sh.fits at hf
    split at hf
    · rename_i m e he
      simp only [Bool.and_eq_true, beq_iff_eq] at hf
      obtain ⟨⟨⟨rfl, hsz⟩, hfe⟩, hC⟩ := hf
      obtain ⟨xs, k, _, hxe, hl, hxl, hx⟩ := DataW.trod_array he h
      obtain ⟨l, hll, hp⟩ := choose_lt' (α := s.D) m (p := fun i d => (cs.drop (i * s.size)).take s.size = s.enc d ∧ s.ok w d) (fun i hi => by
        have h1 := hx i hi
        rw [hsz, List.getElem?_eq_getElem (by omega)] at h1
        refine open_sh s e [] 0 k _ _ hfe h1 (fun n hn => hz0 n ?_)
        rw [hxe]
        simp only [DataW.weights, he]
        exact weights_mem_all (j := i) (by simp [hxl, hi]) n hn)
      refine ⟨l, ?_, hll, fun x hx => ?_⟩
      · exact flat_of_parts s.size s.enc l cs (by rw [hl, hC, hll]) (fun i hi => (hp i hi).1)
      · obtain ⟨i, hi, rfl⟩ := List.mem_iff_getElem.1 hx
        exact (hp i hi).2
    · exact absurd hf (by decide)
  | .slice s, t, _, _, fuel, cs, x, hf, h, hz0 => by
    unfold Sh.fits at hf
    split at hf
    · rename_i e he
      simp only [Bool.and_eq_true, beq_iff_eq, decide_eq_true_eq] at hf
      obtain ⟨⟨hsz, hpos, hby⟩, hfe⟩ := hf
      rcases open_slice he h with ⟨rfl, _⟩ | ⟨a, len, cap, m, n, D, Pl, rfl, _, hl, hm, hmm, rfl, hi⟩
      · exact ⟨⟨none, 0, []⟩, rfl, by refine ⟨Nat.le_refl _, Nat.zero_le _, fun _ => rfl, fun h => absurd rfl h, fun i h => by simp at h⟩⟩
      · have hlm : len ≤ m := by rw [hmm]; split <;> omega
        obtain ⟨l, hll, hp⟩ := choose_lt' (α := s.D) len (p := fun i d => (∀ j, j < s.size → w.cell? (a.add (i * s.size + j)) = (s.enc d)[j]?) ∧ s.ok w d) (fun i hii => by
          obtain ⟨cs', hc, ht'⟩ := hi i (by omega)
          rw [hsz] at hc
          obtain ⟨_, hcl, hat⟩ := World.cells?_some hc
          obtain ⟨d, rfl, hok⟩ := open_sh s e [] 0 n _ _ hfe ht' (fun n hn => hz0 n (by
            simp only [DataW.weights, he, List.mem_cons, List.mem_append]
            exact .inr (.inl (weights_mem_all (j := i) (by simp [hii]) n hn))))
          refine ⟨d, fun j hj => ?_, hok⟩
          have := hat j hj
          rwa [Go.Deep.add_add] at this)
        subst hll
        have hcell : ∀ i (h : i < l.length) j, j < s.size → ∃ v, w.cell? (a.add (i * s.size + j)) = some v := by
          intro i h j hj
          have := (hp i h).1 j hj
          rw [List.getElem?_eq_getElem (by rw [s.enc_length w _ (hp i h).2]; exact hj)] at this
          exact ⟨_, this⟩
        have hcz : cap ≤ 140737488351232 := by
          have h1 : (((List.range l.length).map D).length + ((List.range (m - l.length)).map fun j => D (l.length + j)).length) * P.bytesOf e ≤ 140737488351232 := hz0 _ (by simp [DataW.weights, he])
          have h2 := Nat.le_mul_of_pos_right (((List.range l.length).map D).length + ((List.range (m - l.length)).map fun j => D (l.length + j)).length) hby
          simp at h1 h2 hmm
          omega
        refine ⟨⟨some a, cap, l⟩, rfl, hl, hcz, fun h => by simp at h, fun hne => ?_, fun i h => ⟨fun j hj => ?_, (hp i h).2⟩⟩
        · have h0 : 0 < l.length := List.length_pos_iff.2 hne
          obtain ⟨v, hv⟩ := hcell 0 h0 0 hpos
          have := World.cell?_spot hv
          obtain ⟨b, off, sp⟩ := a
          simp [Addr.add] at this
          exact ⟨b, off, by rw [this]⟩
        · obtain ⟨v, hv⟩ := hcell i h j hj
          show w.cell? (ad (some a) _) = _
          rw [← (addr_ad hv).1]
          exact (hp i h).1 j hj
    · exact absurd hf (by decide)
  | .st f, t, _, _, fuel, cs, x, hf, h, hz0 => by
    unfold Sh.fits at hf
    split at hf
    · rename_i fs he
      simp only [Bool.and_eq_true, beq_iff_eq] at hf
      obtain ⟨xs, n, _, hxe, hl, hxl, hx⟩ := DataW.trod_struct he h
      obtain ⟨d, hd, hok⟩ := open_fs f fs.toList 0 n cs hf.2 (by rw [hl, hf.1]; omega) (fun i fd hfd => by
        have h1 := hx i fd (by simpa using hfd)
        have hi : i < xs.length := by rw [hxl]; have := (List.getElem?_eq_some_iff.1 hfd).1; simpa using this
        rw [List.getElem?_eq_getElem hi] at h1
        refine ⟨_, h1, fun n hn => hz0 n ?_⟩
        rw [hxe]
        simp only [DataW.weights, he]
        exact DataW.weights_mem_each (j := i) (by rw [List.getElem?_map, hfd]; rfl) (by simp [hi]) n hn)
      exact ⟨d, hd, hok⟩
    · exact absurd hf (by decide)
theorem open_fs : (f : Sh true) → (fs : List Field) → (off : Nat) → (n : Nat) → (cs : List Value) → f.fits P 0 fs off = true → cs.length = off + f.size →
    (∀ (i : Nat) (fd : Field), fs[i]? = some fd → ∃ y, DataW.trod enc P w base (fun _ => true) held n fd.type ((cs.drop fd.offset).take (P.cellsOf fd.type)) = some y ∧ Fine P fd.type y.1) → ∃ d : f.D, cs.drop off = f.enc d ∧ f.ok w d
  | .nil, fs, off, n, cs, _, hl, _ => by
    refine ⟨(), ?_, trivial⟩
    rw [List.drop_eq_nil_of_le (by rw [hl]; exact Nat.le_refl _)]; rfl
  | .cons s f, [], off, n, cs, hf, hl, hx => by
    exact absurd hf Bool.false_ne_true
  | .cons s f, fd :: fs, off, n, cs, hf, hl, hx => by
    unfold Sh.fits at hf
    simp only [Bool.and_eq_true, beq_iff_eq] at hf
    obtain ⟨⟨⟨rfl, hsz⟩, hfs⟩, hff⟩ := hf
    obtain ⟨y, hy, hyz⟩ := hx 0 fd rfl
    obtain ⟨d1, hd1, hok1⟩ := open_sh s fd.type [] 0 n _ _ hfs hy hyz
    obtain ⟨d2, hd2, hok2⟩ := open_fs f fs (fd.offset + s.size) n cs hff (by rw [hl]; show _ + (s.size + f.size) = _; omega) (fun i g hg => hx (i + 1) g (by simpa using hg))
    refine ⟨(d1, d2), ?_, hok1, hok2⟩
    show _ = s.enc d1 ++ f.enc d2
    rw [← hd1, ← hd2, hsz, ← List.drop_drop, List.take_append_drop]
end
end
end Go.Cit

/- An argument of any plain type, as a value, opened. No condition. -/
namespace Go.Cit
open Go Go.RowKit Go.ChangeShapes Go.WideShapes Go.Deep

/-- The value. -/
def Sh.val : (s : Sh false) → s.D → Value
  | .i64, n => .int .i64 n
  | .u8, x => vb x
  | .u32, x => vw x
  | .u64, x => vq x
  | .bool, x => .bool x
  | .str, x => .string x
  | .bytes, d => .slice d.a d.l.length d.c
  | .slice _, d => .slice d.a d.l.length d.c
  | .arr n s, d => .agg (Sh.enc (.arr n s) d).toArray
  | .st f, d => .agg (f.enc d).toArray

section
variable {H : Type} {enc : TypeId × Value → H} {P : Program} {w : World} {base : Nat} {held : Bool}
theorem okWide_array' {n : Nat} {e : TypeId} {r : Reach} {b0 : Nat} {t : TypeId} {v : Value} (ht : P.underlying t = some (.array n e)) (h : Value.okWide P w r b0 t v) : ∃ cs, v = .agg cs := by
  simp only [Value.okWide, ht] at h
  obtain ⟨cs, h1, _⟩ := h
  exact ⟨cs, h1⟩

theorem open_val (s : Sh false) {r : Reach} {b0 : Nat} {t : TypeId} {v : Value} {d : DataW H} {p : List MemPlace} (hf : s.fits P t [] 0 = true) (hv : Value.okWide P w r b0 t v) (h : DataW.Trod enc P w base (fun _ => true) held t v d p) (hz : Fine P t d) :
    ∃ e : s.D, v = s.val e ∧ s.ok w e := by
  obtain ⟨fuel, h⟩ := h
  obtain ⟨e, he, hok⟩ := open_sh s t [] 0 fuel _ _ hf h hz
  refine ⟨e, ?_, hok⟩
  cases s with
  | i64 => obtain ⟨n, rfl⟩ := okWide_int (isInt_ hf) hv; simpa [Value.cells, Sh.enc, Sh.val] using he
  | u8 => obtain ⟨n, rfl⟩ := okWide_int (isInt_ hf) hv; simpa [Value.cells, Sh.enc, Sh.val] using he
  | u32 => obtain ⟨n, rfl⟩ := okWide_int (isInt_ hf) hv; simpa [Value.cells, Sh.enc, Sh.val] using he
  | u64 => obtain ⟨n, rfl⟩ := okWide_int (isInt_ hf) hv; simpa [Value.cells, Sh.enc, Sh.val] using he
  | bool => obtain ⟨n, rfl⟩ := okWide_bool (isBool_ hf) hv; simpa [Value.cells, Sh.enc, Sh.val] using he
  | str => obtain ⟨n, rfl⟩ := okWide_string (isStr_ hf) hv; simpa [Value.cells, Sh.enc, Sh.val] using he
  | bytes =>
    unfold Sh.fits at hf
    split at hf
    · rename_i q hq
      obtain ⟨a, len, cap, rfl⟩ := okWide_slice hq hv
      simpa [Value.cells, Sh.enc, Sh.val] using he
    · exact absurd hf (by decide)
  | slice s =>
    unfold Sh.fits at hf
    split at hf
    · rename_i q hq
      obtain ⟨a, len, cap, rfl⟩ := okWide_slice hq hv
      simpa [Value.cells, Sh.enc, Sh.val] using he
    · exact absurd hf (by decide)
  | arr n s =>
    unfold Sh.fits at hf
    split at hf
    · rename_i m q hq
      obtain ⟨cs, rfl⟩ := okWide_array' hq hv
      have : cs.toList = Sh.enc (.arr n s) e := he
      show Value.agg cs = .agg _
      rw [← this]
    · exact absurd hf (by decide)
  | st f =>
    unfold Sh.fits at hf
    split at hf
    · rename_i fs hq
      obtain ⟨cs, rfl, _⟩ := okWide_struct hq hv
      have : cs.toList = f.enc e := he
      show Value.agg cs = .agg _
      rw [← this]
    · exact absurd hf (by decide)

theorem fine_of {ts : List TypeId} {ds : List (DataW H)} (h : (DataW.weightsEach P ts ds).all (· ≤ reachBytes) = true) {j : Nat} {t : TypeId} {d : DataW H} (ht : ts[j]? = some t) (hd : ds[j]? = some d) : Fine P t d := by
  intro n hn
  have := List.all_eq_true.1 h n (DataW.weights_mem_each ht hd n hn)
  have h2 := of_decide_eq_true this
  unfold reachBytes at h2
  omega
end
theorem val_words (n : Nat) (l : List UInt32) : Sh.val (.arr n .u32) l = .agg (l.map vw).toArray := by
  show Value.agg (l.flatMap fun x => [vw x]).toArray = _
  congr 2
  induction l with
  | nil => rfl
  | cons x l ih => rw [List.flatMap_cons, ih]; rfl
theorem val_bytes (n : Nat) (l : List UInt8) : Sh.val (.arr n .u8) l = .agg (l.map vb).toArray := by
  show Value.agg (l.flatMap fun x => [vb x]).toArray = _
  congr 2
  induction l with
  | nil => rfl
  | cons x l ih => rw [List.flatMap_cons, ih]; rfl
end Go.Cit

/- Configurations: windows, partitions, channels as lists; how an argument is opened. No condition. -/
namespace Go.Cit
open Go Go.RowKit

/-- A number of 64 bits, with its range. -/
abbrev I64 := {n : Int // -9223372036854775808 ≤ n ∧ n ≤ 9223372036854775807}
def mkI (n : Int) : I64 := if h : -9223372036854775808 ≤ n ∧ n ≤ 9223372036854775807 then ⟨n, h⟩ else ⟨0, by decide⟩
theorem mkI_val {n : Int} (h : -9223372036854775808 ≤ n ∧ n ≤ 9223372036854775807) : (mkI n).1 = n := by unfold mkI; rw [dif_pos h]
@[reducible] def vi (n : I64) : Value := .int .i64 n.1

structure Win where
  len : I64
  part : I64
structure Reg where
  base : I64
  size : I64
structure Ch where
  id : I64
  src : I64
  dst : I64
  cap : I64
  size : I64
structure Pt where
  id : I64
  reg : Reg
  keep : Bool
  img : List UInt8
/-- A partition whose image lies in memory. -/
structure PtV where
  id : I64
  reg : Reg
  keep : Bool
  a : Option Addr
  img : List UInt8
  c : Nat
def PtV.pt (p : PtV) : Pt := ⟨p.id, p.reg, p.keep, p.img⟩
structure Cfg where
  wins : List Win
  parts : List Pt
  chans : List Ch
structure CfgV where
  wa : Option Addr
  ws : List Win
  wc : Nat
  pa : Option Addr
  ps : List PtV
  pc : Nat
  ca : Option Addr
  cs : List Ch
  cc : Nat
def CfgV.cfg (V : CfgV) : Cfg := ⟨V.ws, V.ps.map PtV.pt, V.cs⟩

instance : DecidableEq Win := fun a b => if h : a.len = b.len ∧ a.part = b.part then isTrue (by cases a; cases b; simp_all) else isFalse (by rintro rfl; simp at h)
instance : DecidableEq Reg := fun a b => if h : a.base = b.base ∧ a.size = b.size then isTrue (by cases a; cases b; simp_all) else isFalse (by rintro rfl; simp at h)
instance : DecidableEq Ch := fun a b => if h : a.id = b.id ∧ a.src = b.src ∧ a.dst = b.dst ∧ a.cap = b.cap ∧ a.size = b.size then isTrue (by cases a; cases b; simp_all) else isFalse (by rintro rfl; simp at h)
instance : DecidableEq Pt := fun a b => if h : a.id = b.id ∧ a.reg = b.reg ∧ a.keep = b.keep ∧ a.img = b.img then isTrue (by cases a; cases b; simp_all) else isFalse (by rintro rfl; simp at h)
instance : DecidableEq Cfg := fun a b => if h : a.wins = b.wins ∧ a.parts = b.parts ∧ a.chans = b.chans then isTrue (by cases a; cases b; simp_all) else isFalse (by rintro rfl; simp at h)
instance : Inhabited Win := ⟨⟨⟨0, by decide⟩, ⟨0, by decide⟩⟩⟩
instance : Inhabited Reg := ⟨⟨⟨0, by decide⟩, ⟨0, by decide⟩⟩⟩

@[reducible] def cWin (x : Win) : List Value := [.int .i64 x.len.1, .int .i64 x.part.1]
@[reducible] def cReg (x : Reg) : List Value := [.int .i64 x.base.1, .int .i64 x.size.1]
@[reducible] def cCh (x : Ch) : List Value := [.int .i64 x.id.1, .int .i64 x.src.1, .int .i64 x.dst.1, .int .i64 x.cap.1, .int .i64 x.size.1]
@[reducible] def cPt (x : PtV) : List Value := [.int .i64 x.id.1, .int .i64 x.reg.base.1, .int .i64 x.reg.size.1, .bool x.keep, .slice x.a x.img.length x.c]
@[reducible] def cCfg (V : CfgV) : List Value := [.slice V.wa V.ws.length V.wc, .slice V.pa V.ps.length V.pc, .slice V.ca V.cs.length V.cc]
@[reducible] def cI (x : I64) : List Value := [.int .i64 x.1]

theorem cWin_len : ∀ x, (cWin x).length = 2 := fun _ => rfl
theorem cReg_len : ∀ x, (cReg x).length = 2 := fun _ => rfl
theorem cCh_len : ∀ x, (cCh x).length = 5 := fun _ => rfl
theorem cPt_len : ∀ x, (cPt x).length = 5 := fun _ => rfl
theorem cI_len : ∀ x, (cI x).length = 1 := fun _ => rfl
theorem cWin_one : ∀ x, ∀ u ∈ cWin x, u.oneCell' = true := by intro x u hu; simp at hu; rcases hu with rfl | rfl <;> rfl
theorem cReg_one : ∀ x, ∀ u ∈ cReg x, u.oneCell' = true := by intro x u hu; simp at hu; rcases hu with rfl | rfl <;> rfl
theorem cCh_one : ∀ x, ∀ u ∈ cCh x, u.oneCell' = true := by intro x u hu; simp at hu; rcases hu with rfl | rfl | rfl | rfl | rfl <;> rfl
theorem cPt_one : ∀ x, ∀ u ∈ cPt x, u.oneCell' = true := by intro x u hu; simp at hu; rcases hu with rfl | rfl | rfl | rfl | rfl <;> rfl
theorem cI_one : ∀ x, ∀ u ∈ cI x, u.oneCell' = true := by intro x u hu; obtain rfl : u = .int .i64 x.1 := by simpa using hu
                                                          rfl

/-- A configuration in memory. -/
structure CfgV.At (w : World) (V : CfgV) : Prop where
  win : Vec cWin 2 w V.wa V.ws V.wc
  pts : Vec cPt 5 w V.pa V.ps V.pc
  chs : Vec cCh 5 w V.ca V.cs V.cc
  img : ∀ x ∈ V.ps, Row w x.a x.img x.c
theorem CfgV.At.stay {w w' : World} {V : CfgV} (h : V.At w) (hb : Below w.heap.size w w') : V.At w' :=
  ⟨h.win.stay cWin_len hb, h.pts.stay cPt_len hb, h.chs.stay cCh_len hb, fun x hx => (h.img x hx).stay hb⟩

def shWin : Sh false := .st (.cons .i64 (.cons .i64 .nil))
def shReg : Sh false := .st (.cons .i64 (.cons .i64 .nil))
def shCh : Sh false := .st (.cons .i64 (.cons .i64 (.cons .i64 (.cons .i64 (.cons .i64 .nil)))))
def shPt : Sh false := .st (.cons .i64 (.cons shReg (.cons .bool (.cons .bytes .nil))))
def shCfg : Sh false := .st (.cons (.slice shWin) (.cons (.slice shPt) (.cons (.slice shCh) .nil)))
def toWin (d : shWin.D) : Win := ⟨mkI d.1, mkI d.2.1⟩
def toCh (d : shCh.D) : Ch := ⟨mkI d.1, mkI d.2.1, mkI d.2.2.1, mkI d.2.2.2.1, mkI d.2.2.2.2.1⟩
def toPt (d : shPt.D) : PtV := ⟨mkI d.1, ⟨mkI d.2.1.1, mkI d.2.1.2.1⟩, d.2.2.1, d.2.2.2.1.a, d.2.2.2.1.l, d.2.2.2.1.c⟩
def toCfg (d : shCfg.D) : CfgV := ⟨d.1.a, d.1.l.map toWin, d.1.c, d.2.1.a, d.2.1.l.map toPt, d.2.1.c, d.2.2.1.a, d.2.2.1.l.map toCh, d.2.2.1.c⟩
theorem toWin_cs {w : World} {d : shWin.D} (h : shWin.ok w d) : shWin.enc d = cWin (toWin d) := by
  obtain ⟨x, y, ⟨⟩⟩ := d
  obtain ⟨h1, h2, _⟩ := h
  show [Value.int .i64 x, .int .i64 y] = [.int .i64 (mkI x).1, .int .i64 (mkI y).1]
  rw [mkI_val h1, mkI_val h2]
theorem toCh_cs {w : World} {d : shCh.D} (h : shCh.ok w d) : shCh.enc d = cCh (toCh d) := by
  obtain ⟨x1, x2, x3, x4, x5, ⟨⟩⟩ := d
  obtain ⟨h1, h2, h3, h4, h5, _⟩ := h
  show [Value.int .i64 x1, .int .i64 x2, .int .i64 x3, .int .i64 x4, .int .i64 x5] = [.int .i64 (mkI x1).1, .int .i64 (mkI x2).1, .int .i64 (mkI x3).1, .int .i64 (mkI x4).1, .int .i64 (mkI x5).1]
  rw [mkI_val h1, mkI_val h2, mkI_val h3, mkI_val h4, mkI_val h5]
theorem toPt_cs {w : World} {d : shPt.D} (h : shPt.ok w d) : shPt.enc d = cPt (toPt d) ∧ Row w (toPt d).a (toPt d).img (toPt d).c := by
  obtain ⟨x1, ⟨x2, x3, ⟨⟩⟩, x4, ⟨a, c, l⟩, ⟨⟩⟩ := d
  obtain ⟨h1, ⟨h2, h3, _⟩, _, h5, _⟩ := h
  refine ⟨?_, h5.1⟩
  show [Value.int .i64 x1, .int .i64 x2, .int .i64 x3, .bool x4, .slice a l.length c] = [.int .i64 (mkI x1).1, .int .i64 (mkI x2).1, .int .i64 (mkI x3).1, .bool x4, .slice a l.length c]
  rw [mkI_val h1, mkI_val h2, mkI_val h3]
theorem vec_sh {α : Type} {s : Sh false} {t : s.D → α} {f : α → List Value} {w : World} {d : Sl s.D} (ht : ∀ x, s.ok w x → s.enc x = f (t x)) (h : (Sh.slice s).ok w d) : Vec f s.size w d.a (d.l.map t) d.c := by
  obtain ⟨h1, h2, h3, h4, h5⟩ := h
  refine ⟨by rw [List.length_map]; exact h1, by unfold maxLen; omega, h3, fun hne => h4 (by simpa using hne), fun i hi j hj => ?_⟩
  rw [List.length_map] at hi
  rw [List.getElem_map, ← ht _ (h5 i hi).2]
  exact (h5 i hi).1 j hj
theorem toCfg_at {w : World} {d : shCfg.D} (h : shCfg.ok w d) : (toCfg d).At w := by
  obtain ⟨h1, h2, h3, _⟩ := h
  refine ⟨vec_sh (fun x hx => toWin_cs hx) h1, vec_sh (fun x hx => (toPt_cs hx).1) h2, vec_sh (fun x hx => toCh_cs hx) h3, fun x hx => ?_⟩
  obtain ⟨y, hy, rfl⟩ := List.mem_map.1 hx
  obtain ⟨i, hi, rfl⟩ := List.mem_iff_getElem.1 hy
  exact (toPt_cs (h2.2.2.2.2 i hi).2).2
theorem toCfg_cs (d : shCfg.D) : shCfg.enc d = cCfg (toCfg d) := by
  obtain ⟨⟨a1, c1, l1⟩, ⟨a2, c2, l2⟩, ⟨a3, c3, l3⟩, ⟨⟩⟩ := d
  show [Value.slice a1 l1.length c1, .slice a2 l2.length c2, .slice a3 l3.length c3] = [Value.slice a1 (l1.map toWin).length c1, .slice a2 (l2.map toPt).length c2, .slice a3 (l3.map toCh).length c3]
  rw [List.length_map, List.length_map, List.length_map]

/-- An element's fields. -/
theorem Vec.field {α : Type} {f : α → List Value} {n : Nat} {w : World} {a : Option Addr} {l : List α} {c : Nat} (h : Vec f n w a l c) (i : Nat) (hi : i < l.length) (j : Nat) (hj : j < n) {v : Value} (hv : (f l[i])[j]? = some v) :
    w.cell? ⟨(ad a (i * n)).block, (ad a (i * n)).off + j, none⟩ = some v := by
  obtain ⟨b, off, rfl⟩ := h.spot (by intro h0; simp [h0] at hi)
  have := h.cell i hi j hj
  rw [hv] at this
  simpa [ad, Nat.add_assoc] using this
theorem Vec.field0 {α : Type} {f : α → List Value} {n : Nat} {w : World} {a : Option Addr} {l : List α} {c : Nat} (h : Vec f n w a l c) (i : Nat) (hi : i < l.length) (hj : 0 < n) {v : Value} (hv : (f l[i])[0]? = some v) :
    w.cell? (ad a (i * n)) = some v := by
  have := h.field i hi 0 hj hv
  obtain ⟨b, off, rfl⟩ := h.spot (by intro h0; simp [h0] at hi)
  simpa [ad] using this
end Go.Cit

namespace Go.Proofs.Ytpnbaapjjchlbaa
open Go Go.RowKit Go.Cit
theorem etW : ElemType Try.prog 22 52 2 16 (.agg #[.int .i64 0, .int .i64 0]) := ⟨Try.underlying22, by kernel_rfl, fun w => by kernel_rfl, rfl, by decide, by decide⟩
theorem etC : ElemType Try.prog 24 54 5 40 (.agg #[.int .i64 0, .int .i64 0, .int .i64 0, .int .i64 0, .int .i64 0]) := ⟨Try.underlying24, by kernel_rfl, fun w => by kernel_rfl, rfl, by decide, by decide⟩
theorem etP : ElemType Try.prog 23 43 5 56 (.agg #[.int .i64 0, .int .i64 0, .int .i64 0, .bool false, .slice none 0 0]) := ⟨Try.underlying23, by kernel_rfl, fun w => by kernel_rfl, rfl, by decide, by decide⟩
theorem etR : ElemType Try.prog 48 40 2 16 (.agg #[.int .i64 0, .int .i64 0]) := ⟨Try.underlying48, by kernel_rfl, fun w => by kernel_rfl, rfl, by decide, by decide⟩
theorem etE : ElemType Try.prog 29 33 1 8 (.int .i64 0) := ⟨Try.underlying29, by kernel_rfl, fun w => by kernel_rfl, rfl, by decide, by decide⟩
theorem etI : ElemType Try.prog 31 3 1 8 (.int .i64 0) := ⟨Try.underlying31, by kernel_rfl, fun w => by kernel_rfl, rfl, by decide, by decide⟩
theorem fits_cfg : shCfg.fits Try.prog 26 [] 0 = true := by kernel_rfl
end Go.Proofs.Ytpnbaapjjchlbaa

