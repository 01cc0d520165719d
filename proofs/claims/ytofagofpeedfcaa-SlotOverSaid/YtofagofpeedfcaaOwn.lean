/- Slices of bytes that a call makes itself: what is known of them, and the laws of append, make at them. No condition. -/
import Derived.Test.YtofagofpeedfcaaRow
import Derived.Laws.AppendOwnNone
namespace Go.Cit
open Go Go.RowKit

/-- T is the type of slices of bytes, E that of bytes. -/
structure ByteTypes (P : Program) (T E : TypeId) : Prop where
  slice : P.underlying T = some (.slice E)
  sz : ∀ w, (sizeOf E).run P w = .ok 1 w
  info : (P.info? E).map (fun i => (i.zero, i.size, i.bytes)) = some (some (.int .u8 0), 1, 1)

/-- The slice (a, l.length, cap) is nil, or lies at the head of a block from 'base' on that may be written; it reads as l. -/
structure Own (E base : Nat) (w : World) (a : Option Addr) (l : List UInt8) (cap : Nat) : Prop where
  row : w.ownsRow base E 1 (.slice a l.length cap) l.length (l.map vb)

def blk (a : Option Addr) : Option Nat := a.map (·.block)

theorem ownBlock_slice (a : Option Addr) (n c : Nat) : (Value.slice a n c).ownBlock = blk a := by cases a <;> rfl

theorem Own.nil (E base : Nat) (w : World) : Own E base w none [] 0 := ⟨World.ownsRow_nil w base E 1⟩

theorem Own.form {E base w a l cap} (h : Own E base w a l cap) : (a = none ∧ l = [] ∧ cap = 0) ∨
    ∃ g cur, a = some ⟨g, 0, none⟩ ∧ base ≤ g ∧ w.heap[g]? = some (.cells cur E (0, 0)) ∧ l.length ≤ cap ∧ cap ≤ maxLen ∧ cur.size = cap ∧ cur.toList.take l.length = l.map vb := by
  rcases h.row.2 with ⟨hv, hn⟩ | ⟨g, c, cur, hv, hb, hg, hle, hm, hs, ht⟩
  · injection hv with h1 h2 h3
    exact .inl ⟨h1, List.eq_nil_of_length_eq_zero hn, h3⟩
  · injection hv with h1 h2 h3
    subst h3
    exact .inr ⟨g, cur, h1, hb, hg, hle, hm, by simpa using hs, by simpa using ht⟩

theorem Own.isRow {E base w a l cap} (h : Own E base w a l cap) : Row w a l cap := by
  rcases h.form with ⟨rfl, rfl, rfl⟩ | ⟨g, cur, rfl, hb, hg, hle, hm, hs, ht⟩
  · exact Row.nil_ w
  · refine ⟨hle, hm, fun h => by simp at h, fun _ => ⟨g, 0, rfl⟩, fun i hi => ?_⟩
    have e1 : (cur.toList.take l.length)[i]? = some (vb l[i]) := by rw [ht]; simp [hi]
    rw [List.getElem?_take, if_pos hi] at e1
    simp only [ad, World.cell?, hg, Nat.zero_add]
    simpa using e1

theorem Own.blk_ge {E base w a l cap} (h : Own E base w a l cap) {g} (hg : blk a = some g) : base ≤ g ∧ g < w.heap.size :=
  h.row.lt g (by rw [ownBlock_slice]; exact hg)

theorem Own.kept {E base w w' a l cap} {row : Option Nat} (h : Own E base w a l cap) (hg : w.grownBy w' row) (hne : blk a = none ∨ blk a ≠ row) : Own E base w' a l cap :=
  ⟨h.row.kept hg (by rw [ownBlock_slice]; exact hne)⟩
theorem Own.alloc {E base w a l cap} (h : Own E base w a l cap) (o : Obj) : Own E base (w.alloc o) a l cap := ⟨h.row.alloc o⟩
theorem Own.drew {E base w a l cap} (h : Own E base w a l cap) : Own E base w.drew a l cap := ⟨h.row.drew⟩
theorem Own.drewN {E base w a l cap} (h : Own E base w a l cap) (n : Nat) : Own E base (w.drewN n) a l cap := ⟨h.row⟩
/-- What lies wholly below another call's base stays. -/
theorem Own.stay {E base w w' a l cap} (h : Own E base w a l cap) (hb : Below w.heap.size w w') : Own E base w' a l cap := by
  refine ⟨h.row.1, ?_⟩
  rcases h.row.2 with hn | ⟨g, c, cur, hv, hbg, hg, rest⟩
  · exact .inl hn
  · refine .inr ⟨g, c, cur, hv, hbg, ?_, rest⟩
    rw [hb.block g (Array.getElem?_eq_some_iff.1 hg).1]; exact hg
theorem Own.low {E base base' w a l cap} (h : Own E base w a l cap) (hb : base' ≤ base) : Own E base' w a l cap := by
  refine ⟨h.row.1, ?_⟩
  rcases h.row.2 with hn | ⟨g, c, cur, hv, hbg, rest⟩
  · exact .inl hn
  · exact .inr ⟨g, c, cur, hv, by omega, rest⟩

theorem Own.frozen {E base w a l cap} (h : Own E base w a l cap) (i : Nat) (hi : i < l.length) : w.frozen? (ad a i) = false := by
  rcases h.form with ⟨rfl, rfl, rfl⟩ | ⟨g, cur, rfl, hb, hg, _⟩
  · simp at hi
  · simpa [ad] using frozen_of_row w g i cur E hg
/-- A byte is stored into the call's own slice. -/
theorem Own.stored {E base w a l cap} (h : Own E base w a l cap) (i : Nat) (hi : i < l.length) (b : UInt8) :
    Own E base (w.setCell (ad a i) (vb b)) a (l.set i b) cap ∧ w.grownBy (w.setCell (ad a i) (vb b)) (blk a) := by
  rcases h.form with ⟨rfl, rfl, rfl⟩ | ⟨g, cur, rfl, hb, hg, _⟩
  · simp at hi
  · have hs := h.row.stored i (vb b)
    simp only [ad, Nat.zero_add]
    refine ⟨⟨?_⟩, hs.2⟩
    have := hs.1
    rwa [List.length_set, List.map_set]
/-- A row in new memory, from block base on, whose cells may be written (its block may hold more). -/
structure Mine (base : Nat) (w : World) (a : Option Addr) (l : List UInt8) (cap : Nat) : Prop where
  row : Row w a l cap
  new : ∀ g, blk a = some g → base ≤ g
  free : ∀ i, i < l.length → w.frozen? (ad a i) = false
theorem Own.mine {E base w a l cap} (h : Own E base w a l cap) : Mine base w a l cap := ⟨h.isRow, fun _ hg => (h.blk_ge hg).1, fun i hi => h.frozen i hi⟩
theorem Mine.nil (base : Nat) (w : World) : Mine base w none [] 0 := ⟨Row.nil_ w, fun g h => by simp [blk] at h, fun i h => by simp at h⟩
theorem Mine.low {base base' w a l cap} (h : Mine base w a l cap) (hb : base' ≤ base) : Mine base' w a l cap := ⟨h.row, fun g hg => Nat.le_trans hb (h.new g hg), h.free⟩
theorem Mine.stay {base w w' a l cap} (h : Mine base w a l cap) (hb : Below w.heap.size w w') : Mine base w' a l cap :=
  ⟨h.row.stay hb, h.new, fun i hi => (hb.frozen (h.row.blk hi)).trans (h.free i hi)⟩
theorem Mine.drewN {base w a l cap} (h : Mine base w a l cap) (n : Nat) : Mine base (w.drewN n) a l cap := ⟨h.row.drewN n, h.new, h.free⟩
/-- A byte is stored into a row of one's own. -/
theorem Mine.stored {base w a l cap} (h : Mine base w a l cap) (i : Nat) (hi : i < l.length) (b : UInt8) :
    Mine base (w.setCell (ad a i) (vb b)) a (l.set i b) cap ∧ w.grownBy (w.setCell (ad a i) (vb b)) (blk a) ∧ Below base w (w.setCell (ad a i) (vb b)) := by
  obtain ⟨g, off, rfl⟩ := h.row.spot (by intro h0; simp [h0] at hi)
  refine ⟨⟨⟨by rw [List.length_set]; exact h.row.le, h.row.top, h.row.nil, fun _ => ⟨g, off, rfl⟩, fun j hj => ?_⟩, h.new, fun j hj => ?_⟩, ⟨rfl, rfl, rfl, by simp [World.setCell], fun k hk hne => Below.heap_setCell _ _ _ _ (fun e => hne (by rw [e]; rfl))⟩, (Below.refl _ _).setCell (h.new g rfl) _⟩
  · rw [List.length_set] at hj
    have hc := h.row.cell j hj
    by_cases e : i = j
    · subst e
      rw [World.cell?_setCell_same' _ _ _ (by rw [hc]; rfl)]
      rw [List.getElem_set_self]
    · rw [World.cell?_setCell_other _ _ _ _ (by simp [ad] <;> omega), hc]
      simp [e]
  · rw [List.length_set] at hj
    have hf := h.free j hj
    simp only [World.frozen?, World.setCell, ad, Array.getElem?_modify] at hf ⊢
    cases hh : w.heap[g]? with
    | none => simp
    | some o =>
      rw [hh] at hf
      cases o <;> simp_all
/-- A store into another block leaves it. -/
theorem rowOther {w a l cap} (h : Row w a l cap) (p : Addr) (u : Value) (hne : ∀ g, blk a = some g → p.block ≠ g) : Row (w.setCell p u) a l cap := by
  refine ⟨h.le, h.top, h.nil, h.spot, fun i hi => ?_⟩
  obtain ⟨g, off, rfl⟩ := h.spot (by intro h0; simp [h0] at hi)
  rw [World.cell?_of_block (w := w) (Below.heap_setCell _ _ _ _ (fun e => hne g rfl e.symm))]
  exact h.cell i hi
theorem Mine.other {base w a l cap} (h : Mine base w a l cap) (p : Addr) (u : Value) (hne : ∀ g, blk a = some g → p.block ≠ g) : Mine base (w.setCell p u) a l cap := by
  refine ⟨rowOther h.row p u hne, h.new, fun i hi => ?_⟩
  obtain ⟨g, off, rfl⟩ := h.row.spot (by intro h0; simp [h0] at hi)
  rw [World.frozen?_of_block (w := w) (Below.heap_setCell _ _ _ _ (fun e => hne g rfl e.symm))]
  exact h.free i hi
theorem Mine.cellOf {base w a l cap} (h : Mine base w a l cap) {i : Nat} (hi : i < l.length) : w.cell? (ad a i) = some (vb l[i]) := h.row.cell i hi

theorem grown_below {w w' : World} {row : Option Nat} {base : Nat} (hg : w.grownBy w' row) (hb : base ≤ w.heap.size) (hr : ∀ k, row = some k → base ≤ k) : Below base w w' :=
  (Below.refl _ _).grown hg hb hr

section
variable {P : Program} {T E : TypeId}

/-- make([]byte, n). -/
theorem wp_make_bytes (hBT : ByteTypes P T E) {w : World} {ops : Array Oper} {rest : List Oper} {o : Oper} {act : Act} {Q : Exit → Act → World → Prop} (x y : Operand) (hgd : o.guard = none)
    (ho : o.op = .makeSlice T x y) (n : Nat) (k1 k2 : IntKind) {N : Int} (hx : act.eval x = .int k1 N) (hy : act.eval y = .int k2 N) (hN : N = (n : Int)) (hn : n ≤ 1000000000)
    (h : ∀ w', Own E w.heap.size w' (some ⟨w.heap.size, 0, none⟩) (List.replicate n 0) n → w.grownBy w' none → w.heap.size < w'.heap.size → wpList P ops Q rest (act.put o.dst (.slice (some ⟨w.heap.size, 0, none⟩) n n)) w') : wpList P ops Q (o :: rest) act w := by
  subst hN
  obtain ⟨i, hi, hz0, hz1, hz2⟩ := info_parts hBT.info
  refine wpList_make_full w hgd x y T ho w.heap.size E i (.int .u8 0) 1 hBT.slice hi hz0 hz1 k1 k2 n n n hx hy rfl rfl (by rw [hz2]; omega) (by unfold maxLen; omega) (Nat.le_refl _) ?_
  intro w' hown hgr
  have e1 : (madeCells (Value.int .u8 0).cells (n * 1)).toList = (List.replicate n (0 : UInt8)).map vb := by
    rw [show (Value.int .u8 0).cells = #[.int .u8 0] from rfl, toList_madeCells_one, Nat.mul_one, List.map_replicate]; rfl
  rw [e1] at hown
  have hO : Own E w.heap.size w' (some ⟨w.heap.size, 0, none⟩) (List.replicate n 0) n := ⟨by simpa using hown⟩
  exact h w' hO hgr (hO.blk_ge (g := w.heap.size) rfl).2

/-- append(s, x...), s the call's own, x a row. -/
theorem wp_append_row (hBT : ByteTypes P T E) {w : World} {ops : Array Oper} {rest : List Oper} {o : Oper} {act : Act} {Q : Exit → Act → World → Prop} (s x : Operand) (hgd : o.guard = none)
    (ho : o.op = .call { callee := .builtin .append, args := #[s, x], argTypes := #[T, T] }) {base : Nat}
    {a b : Option Addr} {l m : List UInt8} {cap c : Nat} (hown : Own E base w a l cap) (hm : Row w b m c) (hlen : l.length + m.length ≤ 1000000000) (hbase : base ≤ w.heap.size)
    (hs : act.eval s = .slice a l.length cap) (hx : act.eval x = .slice b m.length c)
    (h : ∀ a' cap' w', Own E base w' a' (l ++ m) cap' → w.grownBy w' (blk a) → wpList P ops Q rest (act.put o.dst (.slice a' (l ++ m).length cap')) w') : wpList P ops Q (o :: rest) act w := by
  obtain ⟨i, hi, hz0, hz1, hz2⟩ := info_parts hBT.info
  cases b with
  | none =>
    have hc := hm.nil rfl
    have hle := hm.le
    obtain rfl : m = [] := List.eq_nil_of_length_eq_zero (by omega)
    subst hc
    refine wpList_append_own_none hgd s x T ho base E i 1 hBT.slice hi (.slice a l.length cap) l.length (l.map vb) hs hown.row hx ?_
    have hk := h a cap w
    rw [List.append_nil] at hk
    exact hk hown ⟨rfl, rfl, rfl, Nat.le_refl _, fun _ _ _ => rfl⟩
  | some p =>
    refine wpList_append_own w hgd s x T ho base E i (.int .u8 0) 1 1 hBT.slice hi hz0 hz1 hz2 rfl (by decide) _ l.length (l.map vb) hs hown.row p m.length c (m.map vb) hx (by simp) ?_ ?_ ?_ ?_ hbase ?_
    · intro j u hu
      have hj : j < m.length := by
        have := (List.getElem?_eq_some_iff.1 hu).1
        simpa using this
      obtain ⟨g, off, e⟩ := hm.spot (by intro h0; simp [h0] at hj)
      injection e with e
      subst e
      have ea : (⟨g, off, none⟩ : Addr).add j = ad (some ⟨g, off, none⟩) j := by unfold Addr.add ad; split <;> simp_all
      rw [ea, hm.cell j hj]
      simpa [hj] using hu
    · intro u hu
      obtain ⟨y, _, rfl⟩ := List.mem_map.1 hu
      rfl
    · unfold maxLen; omega
    · omega
    · intro v' w' hown' hgr hnil
      rw [ownBlock_slice] at hgr
      have hv' : ∃ a' cap', v' = .slice a' (l ++ m).length cap' := by
        rcases hown'.2 with ⟨hv, hn⟩ | ⟨g', c', cur, hv, _⟩
        · exact ⟨none, 0, by rw [hv]; simp; omega⟩
        · exact ⟨some ⟨g', 0, none⟩, c', by rw [hv]; simp⟩
      obtain ⟨a', cap', rfl⟩ := hv'
      exact h a' cap' w' ⟨by simpa using hown'⟩ hgr

/-- A slice written out. -/
theorem own_lit (w : World) (cs : Array Value) (E : TypeId) (l : List UInt8) (h : cs = (l.map vb).toArray) (hl : l.length ≤ 1000000000) :
    Own E w.heap.size (w.alloc (.cells cs E)) (some ⟨w.heap.size, 0, none⟩) l l.length := by
  refine ⟨?_⟩
  subst h
  have := World.ownsRow_lit (base := w.heap.size) (e := E) (size := 1) w (l.map vb).toArray l.length (Nat.le_refl _) (by unfold maxLen; omega) (by simp)
  simpa using this

/-- append(s, x) of one byte x, s the call's own. -/
theorem wp_append_byte (hBT : ByteTypes P T E) {w : World} {ops : Array Oper} {rest : List Oper} {o : Oper} {act : Act} {Q : Exit → Act → World → Prop} (hgd : o.guard = none) (s x : Operand)
    (ho : o.op = .call { callee := .builtin .append, args := #[s, x], argTypes := #[T, T] }) (base : Nat)
    (a : Option Addr) (l : List UInt8) (cap : Nat) (hs : act.eval s = .slice a l.length cap) (hown : Own E base w a l cap)
    (g : Nat) (b : UInt8) (hx : act.eval x = .slice (some ⟨g, 0, none⟩) 1 1) (hc : w.cell? ⟨g, 0, none⟩ = some (vb b))
    (hlen : l.length ≤ 1000000000) (hbase : base ≤ w.heap.size)
    (h : ∀ a' cap' w', Own E base w' a' (l ++ [b]) cap' → w.grownBy w' (blk a) → wpList P ops Q rest (act.put o.dst (.slice a' (l ++ [b]).length cap')) w') : wpList P ops Q (o :: rest) act w := by
  obtain ⟨i, hi, hz0, hz1, hz2⟩ := info_parts hBT.info
  refine wpList_append_own w hgd s x T ho base E i (.int .u8 0) 1 1 hBT.slice hi hz0 hz1 hz2 rfl (by decide) _ l.length (l.map vb) hs hown.row ⟨g, 0, none⟩ 1 1 [vb b] hx rfl ?_ ?_ ?_ ?_ hbase ?_
  · intro j u hu
    match j with
    | 0 => simp at hu; subst hu; simpa [Addr.add] using hc
    | j + 1 => simp at hu
  · intro u hu; simp at hu; subst hu; rfl
  · unfold maxLen; omega
  · omega
  · intro v' w' hown' hgr hnil
    rw [ownBlock_slice] at hgr
    have hv' : ∃ a' cap', v' = .slice a' (l ++ [b]).length cap' := by
      rcases hown'.2 with ⟨hv, hn⟩ | ⟨g', c', cur, hv, _⟩
      · omega
      · exact ⟨some ⟨g', 0, none⟩, c', by rw [hv]; simp⟩
    obtain ⟨a', cap', rfl⟩ := hv'
    exact h a' cap' w' ⟨by simpa using hown'⟩ hgr

/-- The same, as a statement 's = append(s, x)' leaves it: x lies in a new box. All side conditions are facts of the world ahead of the box. -/
theorem wp_append_box (hBT : ByteTypes P T E) {w0 : World} {ops : Array Oper} {rest : List Oper} {o : Oper} {act : Act} {Q : Exit → Act → World → Prop} (s x : Operand) (hgd : o.guard = none)
    (ho : o.op = .call { callee := .builtin .append, args := #[s, x], argTypes := #[T, T] }) {base : Nat}
    {a : Option Addr} {l : List UInt8} {cap : Nat} {b : UInt8} (hown : Own E base w0 a l cap) (hlen : l.length ≤ 1000000000) (hbase : base ≤ w0.heap.size)
    (hs : act.eval s = .slice a l.length cap) (hx : act.eval x = .slice (some ⟨w0.heap.size, 0, none⟩) 1 1)
    (h : ∀ a' cap' w', Own E base w' a' (l ++ [b]) cap' → w0.grownBy w' (blk a) → wpList P ops Q rest (act.put o.dst (.slice a' (l ++ [b]).length cap')) w') : wpList P ops Q (o :: rest) act (w0.alloc (.cells #[vb b] E)) := by
  refine wp_append_byte hBT hgd s x ho base a l cap hs (hown.alloc _) w0.heap.size b hx ?_ hlen (by simp; omega) ?_
  · rw [World.cell?, heap_alloc_new]; rfl
  · intro a' cap' w' hown' hgr
    refine h a' cap' w' hown' ?_
    have h0 := World.grownBy_alloc w0 (.cells #[vb b] E) (blk a)
    refine ⟨hgr.os.trans h0.os, hgr.tape.trans h0.tape, hgr.output.trans h0.output, Nat.le_trans h0.size hgr.size, fun k hk hne => ?_⟩
    rw [hgr.block k (Nat.lt_of_lt_of_le hk h0.size) hne, h0.block k hk hne]
end
section
variable {P : Program} {T E : TypeId}
/-- The same as one step of a region that draws its order (the draw stands outermost). -/
theorem step_append_box (hBT : ByteTypes P T E) {w0 : World} {ops : Array Oper} {o : Oper} {act : Act} {K : Act → World → Prop} {Q : Exit → Act → World → Prop} {F : Prop} (s x : Operand) (hgd : o.guard = none)
    (ho : o.op = .call { callee := .builtin .append, args := #[s, x], argTypes := #[T, T] }) {base : Nat}
    {a : Option Addr} {l : List UInt8} {cap : Nat} {b : UInt8} (hown : Own E base w0 a l cap) (hlen : l.length ≤ 1000000000) (hbase : base ≤ w0.heap.size)
    (hs : act.eval s = .slice a l.length cap) (hx : act.eval x = .slice (some ⟨w0.heap.size, 0, none⟩) 1 1)
    (h : ∀ a' cap' w', Own E base w' a' (l ++ [b]) cap' → w0.grownBy w' (blk a) → K (act.put o.dst (.slice a' (l ++ [b]).length cap')) w') :
    if Region.wanted o (yielded ops act.tmps) = true then Oper.wp P o act ((w0.alloc (.cells #[vb b] E)).drew) K Q else F := by
  have hw : Region.wanted o (yielded ops act.tmps) = true := by simp [Region.wanted, hgd]
  rw [if_pos hw]
  obtain ⟨i, hi, hz0, hz1, hz2⟩ := info_parts hBT.info
  have hO : Own E base ((w0.alloc (.cells #[vb b] E)).drew) a l cap := (hown.alloc _).drew
  have hc : ((w0.alloc (.cells #[vb b] E)).drew).cell? ⟨w0.heap.size, 0, none⟩ = some (vb b) := by
    show (w0.alloc (.cells #[vb b] E)).cell? _ = _
    rw [World.cell?, heap_alloc_new]; rfl
  refine wp_append_own _ s x T ho base E i (.int .u8 0) 1 1 hBT.slice hi hz0 hz1 hz2 rfl (by decide) _ l.length (l.map vb) hs hO.row ⟨w0.heap.size, 0, none⟩ 1 1 [vb b] hx rfl ?_ ?_ ?_ ?_ ?_ ?_
  · intro j u hu
    match j with
    | 0 => simp at hu; subst hu; exact hc
    | j + 1 => simp at hu
  · intro u hu; simp at hu; subst hu; rfl
  · unfold maxLen; omega
  · omega
  · show base ≤ (w0.alloc (.cells #[vb b] E)).heap.size; simp; omega
  · intro v' w' hown' hgr _
    rw [ownBlock_slice] at hgr
    have hv' : ∃ a' cap', v' = .slice a' (l ++ [b]).length cap' := by
      rcases hown'.2 with ⟨hv, hn⟩ | ⟨g', c', cur, hv, _⟩
      · omega
      · exact ⟨some ⟨g', 0, none⟩, c', by rw [hv]; simp⟩
    obtain ⟨a', cap', rfl⟩ := hv'
    refine h a' cap' w' ⟨by simpa using hown'⟩ ?_
    have h0 : w0.grownBy ((w0.alloc (.cells #[vb b] E)).drew) (blk a) := ⟨rfl, rfl, rfl, by show _ ≤ (w0.alloc (.cells #[vb b] E)).heap.size; simp, fun k hk _ => (World.grownBy_alloc w0 (.cells #[vb b] E) none).block k hk (by simp)⟩
    refine ⟨hgr.os.trans h0.os, hgr.tape.trans h0.tape, hgr.output.trans h0.output, Nat.le_trans h0.size hgr.size, fun k hk hne => ?_⟩
    rw [hgr.block k (Nat.lt_of_lt_of_le hk h0.size) hne, h0.block k hk hne]
end

/-- A block that is known whole reads as its bytes. -/
theorem row_blk {w : World} {g : Nat} {cs : Array Value} {E : TypeId} {fr : Nat × Nat} (l : List UInt8) (hg : w.heap[g]? = some (.cells cs E fr)) (h : cs = (l.map vb).toArray) (hl : l.length ≤ 1000000000) :
    Row w (some ⟨g, 0, none⟩) l l.length := by
  refine ⟨Nat.le_refl _, by unfold maxLen; omega, fun h => by simp at h, fun _ => ⟨g, 0, rfl⟩, fun i hi => ?_⟩
  simp only [ad, Nat.zero_add]
  rw [cell_of_row w g i cs E fr hg, h]
  simp [hi]
theorem row_new (w : World) (cs : Array Value) (E : TypeId) (fr : Nat × Nat) (l : List UInt8) (h : cs = (l.map vb).toArray) (hl : l.length ≤ 1000000000) :
    Row (w.alloc (.cells cs E fr)) (some ⟨w.heap.size, 0, none⟩) l l.length := row_blk l (heap_alloc_new w _) h hl

/-- A contract whose result is a new row: the row under a name of its own, so that its length stays one term. -/
theorem toX {P : Program} {f : FuncId} {args : Array Value} {w w0 : World} {L : List UInt8} {B B' : Nat} (h : Calls P f args w fun e w' => ∃ a cp, e = .returned (.slice a L.length cp) ∧ Mine B w' a L cp ∧ Below B' w0 w') :
    Calls P f args w fun e w' => ∃ a X cp, Hid (X = L) ∧ e = .returned (.slice a X.length cp) ∧ Mine B w' a X cp ∧ Below B' w0 w' :=
  h.mono fun _ _ ⟨a, cp, h1, h2, h3⟩ => ⟨a, L, cp, rfl, h1, h2, h3⟩
theorem toXo {P : Program} {f : FuncId} {args : Array Value} {w w0 : World} {L : List UInt8} {E B B' : Nat} (h : Calls P f args w fun e w' => ∃ a cp, e = .returned (.slice a L.length cp) ∧ Own E B w' a L cp ∧ Below B' w0 w') :
    Calls P f args w fun e w' => ∃ a X cp, Hid (X = L) ∧ e = .returned (.slice a X.length cp) ∧ Mine B w' a X cp ∧ Below B' w0 w' :=
  h.mono fun _ _ ⟨a, cp, h1, h2, h3⟩ => ⟨a, L, cp, rfl, h1, h2.mine, h3⟩
/-- The same, the length told otherwise. -/
theorem toXn {P : Program} {f : FuncId} {args : Array Value} {w w0 : World} {L : List UInt8} {n E B B' : Nat} (hn : L.length = n) (h : Calls P f args w fun e w' => ∃ a cp, e = .returned (.slice a n cp) ∧ Own E B w' a L cp ∧ Below B' w0 w') :
    Calls P f args w fun e w' => ∃ a X cp, Hid (X = L) ∧ e = .returned (.slice a X.length cp) ∧ Mine B w' a X cp ∧ Below B' w0 w' :=
  h.mono fun _ _ ⟨a, cp, h1, h2, h3⟩ => ⟨a, L, cp, rfl, by rw [hn]; exact h1, h2.mine, h3⟩
end Go.Cit
