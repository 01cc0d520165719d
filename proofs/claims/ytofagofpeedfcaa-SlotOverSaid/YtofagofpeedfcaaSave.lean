/- What stays in a call, block by block; append of a row as a step of a region that draws its order. No condition. -/
import Derived.Test.YtofagofpeedfcaaOwn
import Derived.Deep.AppendLies
namespace Go.Cit
open Go Go.RowKit

/-- What lies in the blocks of S stays. -/
structure Save (S : Nat → Prop) (w w' : World) : Prop where
  os : w'.os = w.os
  tape : w'.tape = w.tape
  output : w'.output = w.output
  size : w.heap.size ≤ w'.heap.size
  block : ∀ k, k < w.heap.size → S k → w'.heap[k]? = w.heap[k]?

theorem Save.refl (S : Nat → Prop) (w : World) : Save S w w := ⟨rfl, rfl, rfl, Nat.le_refl _, fun _ _ _ => rfl⟩
theorem Save.trans {S : Nat → Prop} {a b c : World} (h : Save S a b) (k : Save S b c) : Save S a c :=
  ⟨k.os.trans h.os, k.tape.trans h.tape, k.output.trans h.output, Nat.le_trans h.size k.size, fun i hi hs => (k.block i (Nat.lt_of_lt_of_le hi h.size) hs).trans (h.block i hi hs)⟩
theorem Save.less {S T : Nat → Prop} {w w' : World} (h : Save S w w') (hS : ∀ k, k < w.heap.size → T k → S k) : Save T w w' := ⟨h.os, h.tape, h.output, h.size, fun k hk hs => h.block k hk (hS k hk hs)⟩
theorem Save.of {S : Nat → Prop} {w w' : World} (h : Below w.heap.size w w') : Save S w w' := ⟨h.os, h.tape, h.output, h.size, fun k hk _ => h.block k hk⟩
theorem Save.below {S : Nat → Prop} {w w' : World} {B : Nat} (h : Save S w w') (hB : B ≤ w.heap.size) (hS : ∀ k, k < B → S k) : Below B w w' := ⟨h.os, h.tape, h.output, h.size, fun k hk => h.block k (Nat.lt_of_lt_of_le hk hB) (hS k hk)⟩
theorem Save.set {w : World} {b i : Nat} {v : Value} : Save (· ≠ b) w (w.setCell ⟨b, i, none⟩ v) := ⟨rfl, rfl, rfl, by simp [World.setCell], fun k _ hs => Below.heap_setCell _ _ _ _ hs⟩
theorem Save.grown {w w' : World} {row : Option Nat} (h : w.grownBy w' row) : Save (fun k => some k ≠ row) w w' := ⟨h.os, h.tape, h.output, h.size, h.block⟩
theorem Save.alloc {S : Nat → Prop} (w : World) (o : Obj) : Save S w (w.alloc o) := .of ((Below.refl _ _).alloc (Nat.le_refl _) _)
theorem Save.drewN {S : Nat → Prop} (w : World) (n : Nat) : Save S w (w.drewN n) := ⟨rfl, rfl, rfl, Nat.le_refl _, fun _ _ _ => rfl⟩
theorem Save.drew {S : Nat → Prop} {a w : World} (h : Save S a w) : Save S a w.drew := ⟨h.os, h.tape, h.output, h.size, h.block⟩

theorem Save.cell {S : Nat → Prop} {w w' : World} (h : Save S w w') {p : Addr} (hp : p.block < w.heap.size) (hs : S p.block) : w'.cell? p = w.cell? p := World.cell?_of_block (w := w) (h.block p.block hp hs)
theorem Save.frozen {S : Nat → Prop} {w w' : World} (h : Save S w w') {p : Addr} (hp : p.block < w.heap.size) (hs : S p.block) : w'.frozen? p = w.frozen? p := World.frozen?_of_block (w := w) (h.block p.block hp hs)

theorem Row.save {S : Nat → Prop} {w w' : World} {a l cap} (r : Row w a l cap) (h : Save S w w') (hs : ∀ g, Go.Cit.blk a = some g → S g) : Row w' a l cap := by
  refine ⟨r.le, r.top, r.nil, r.spot, fun i hi => ?_⟩
  obtain ⟨g, off, rfl⟩ := r.spot (by intro h0; simp [h0] at hi)
  exact (h.cell (r.blk hi) (hs g rfl)).trans (r.cell i hi)
theorem Row.save' {S : Nat → Prop} {w w' : World} {a l cap} (r : Row w a l cap) (h : Save S w w') (hs : l ≠ [] → ∀ g, Go.Cit.blk a = some g → S g) : Row w' a l cap := by
  by_cases h0 : l = []
  · subst h0
    exact ⟨r.le, r.top, r.nil, r.spot, fun i hi => by simp at hi⟩
  · exact r.save h (hs h0)
theorem Own.save {S : Nat → Prop} {E base} {w w' : World} {a l cap} (r : Own E base w a l cap) (h : Save S w w') (hs : ∀ g, blk a = some g → S g) : Own E base w' a l cap := by
  refine ⟨r.row.1, ?_⟩
  rcases r.row.2 with hn | ⟨g, c, cur, hv, hbg, hg, rest⟩
  · exact .inl hn
  · injection hv with h1 h2 h3
    subst h1
    refine .inr ⟨g, c, cur, by rw [h2, h3], hbg, ?_, rest⟩
    rw [h.block g (Array.getElem?_eq_some_iff.1 hg).1 (hs g rfl)]; exact hg
theorem Mine.save {S : Nat → Prop} {base} {w w' : World} {a l cap} (r : Mine base w a l cap) (h : Save S w w') (hs : ∀ g, blk a = some g → S g) : Mine base w' a l cap := by
  refine ⟨r.row.save h hs, r.new, fun i hi => ?_⟩
  obtain ⟨g, off, rfl⟩ := r.row.spot (by intro h0; simp [h0] at hi)
  exact (h.frozen (r.row.blk hi) (hs g rfl)).trans (r.free i hi)

theorem blk_sub (a : Option Addr) (p : Prop) [Decidable p] (k : Nat) : blk (if p then a else a.map (·.add k)) = blk a := by
  split
  · rfl
  · cases a with
    | none => rfl
    | some x => simp [blk, Addr.add]; split <;> rfl
section
variable {P : Program} {T E : TypeId} (hT : P.underlying T = some (.slice E)) (hE : ∀ w, (sizeOf E).run P w = .ok 1 w)
include hT hE
/-- b[lo:], and that it lies in the same block. -/
theorem Row.from2 {w a l cap} (h : Row w a l cap) (lo : Nat) (h1 : lo ≤ l.length) : ∃ a' m cap', m = l.drop lo ∧
    (∀ w, (Instr.sliceAt T (.slice a l.length cap) (some (.int .i64 (lo : Int))) none none).run P w = .ok (.slice a' m.length cap') w) ∧ Row w a' m cap' ∧ Go.Cit.blk a' = Go.Cit.blk a := by
  have he : P.elem T = E := by simp [Program.elem, hT]
  refine ⟨_, _, _, rfl, fun w => ?_, by simpa using h.sub lo l.length cap h1 (Nat.le_refl _) h.le (Nat.le_refl _), blk_sub _ _ _⟩
  rw [run_sliceAt_slice _ _ _ _ _ _ (by rw [he]; exact hT), run_slice_l w T a _ _ (by rw [he]; exact hT) .i64 lo (by omega) (by omega), he, hE]
  simp [Result.andThen, sliced]
/-- b[:hi:hi], likewise. -/
theorem Row.upto2 {w a l cap} (h : Row w a l cap) (hi : Nat) (h1 : hi ≤ l.length) : ∃ a' m cap', m = l.take hi ∧
    (∀ w, (Instr.sliceAt T (.slice a l.length cap) none (some (.int .i64 (hi : Int))) (some (.int .i64 (hi : Int)))).run P w = .ok (.slice a' m.length cap') w) ∧ Row w a' m cap' ∧ Go.Cit.blk a' = Go.Cit.blk a := by
  have he : P.elem T = E := by simp [Program.elem, hT]
  have hle := h.le
  refine ⟨_, _, _, rfl, fun w => ?_, by simpa using h.sub 0 hi hi (Nat.zero_le _) h1 (Nat.le_refl _) (by omega), blk_sub _ _ _⟩
  rw [run_sliceAt_slice _ _ _ _ _ _ (by rw [he]; exact hT), run_slice_hm w T a _ _ (by rw [he]; exact hT) .i64 .i64 hi hi (by omega) (by omega) (by omega), he, hE]
  simp [Result.andThen, sliced]
  omega
end
section
variable {P : Program} {T E : TypeId}
/-- Where a slice lies behind an append: where it lay, or in new memory. -/
def Near (B : Nat) (a a' : Option Addr) : Prop := ∀ g, blk a' = some g → blk a = some g ∨ B ≤ g
theorem Near.refl (B : Nat) (a : Option Addr) : Near B a a := fun _ h => .inl h
theorem Near.trans {B B' : Nat} {a a' a'' : Option Addr} (h : Near B a a') (k : Near B' a' a'') (hB : B ≤ B') : Near B a a'' := fun g hg => by
  rcases k g hg with h1 | h1
  · exact h g h1
  · exact .inr (by omega)

theorem news_row {w : World} {g off : Nat} {m : List UInt8} {c : Nat} (hm : Row w (some ⟨g, off, none⟩) m c) : ∀ j u, (m.map vb)[j]? = some u → w.cell? ((⟨g, off, none⟩ : Addr).add j) = some u := by
  intro j u hu
  have hj : j < m.length := by
    have := (List.getElem?_eq_some_iff.1 hu).1
    simpa using this
  have ea : (⟨g, off, none⟩ : Addr).add j = ad (some ⟨g, off, none⟩) j := by unfold Addr.add ad; split <;> simp_all
  rw [ea, hm.cell j hj]
  simpa [hj] using hu
theorem one_vb {m : List UInt8} : ∀ u ∈ m.map vb, u.oneCell' = true := by
  intro u hu
  obtain ⟨y, _, rfl⟩ := List.mem_map.1 hu
  rfl

theorem wp_append_near (hBT : ByteTypes P T E) {w : World} {o : Oper} {act : Act} {K : Act → World → Prop} {Q : Exit → Act → World → Prop} (s x : Operand)
    (ho : o.op = .call { callee := .builtin .append, args := #[s, x], argTypes := #[T, T] }) {base : Nat}
    {a b : Option Addr} {l m : List UInt8} {cap c : Nat} (hown : Own E base w a l cap) (hm : Row w b m c) (hne : m ≠ []) (hlen : l.length + m.length ≤ 1000000000) (hbase : base ≤ w.heap.size)
    (hs : act.eval s = .slice a l.length cap) (hx : act.eval x = .slice b m.length c)
    (h : ∀ a' cap' w', Own E base w' a' (l ++ m) cap' → w.grownBy w' (blk a) → Near w.heap.size a a' → K (act.put o.dst (.slice a' (l ++ m).length cap')) w') : Oper.wp P o act w K Q := by
  obtain ⟨i, hi, hz0, hz1, hz2⟩ := info_parts hBT.info
  obtain ⟨g, off, rfl⟩ := hm.spot hne
  refine wp_append_lies w s x T ho base E i (.int .u8 0) 1 1 hBT.slice hi hz0 hz1 hz2 rfl (by decide) _ l.length (l.map vb) hs hown.row ⟨g, off, none⟩ m.length c (m.map vb) hx (by simp) (news_row hm) one_vb (List.length_pos_iff.2 hne) (by unfold maxLen; omega) (by omega) hbase w.heap.size rfl ?_
  intro g' cap' w' hown' hgr hat hlt
  rw [ownBlock_slice] at hgr hat
  rw [← List.length_append, ← List.map_append] at hown'
  rw [← List.length_append]
  refine h (some ⟨g', 0, none⟩) cap' w' ⟨hown'⟩ hgr (fun k hk => ?_)
  simp only [blk, Option.map_some, Option.some.injEq] at hk
  subst hk
  rcases hat with h1 | h1
  · exact .inl h1
  · exact .inr (by omega)

/-- append(s, x...) as one step of a region that draws its order: s the call's own, x a row that is not empty. -/
theorem step_append_row (hBT : ByteTypes P T E) {w : World} {ops : Array Oper} {o : Oper} {act : Act} {K : Act → World → Prop} {Q : Exit → Act → World → Prop} {F : Prop} (s x : Operand) (hgd : o.guard = none)
    (ho : o.op = .call { callee := .builtin .append, args := #[s, x], argTypes := #[T, T] }) {base : Nat}
    {a b : Option Addr} {l m : List UInt8} {cap c : Nat} (hown : Own E base w a l cap) (hm : Row w b m c) (hne : m ≠ []) (hlen : l.length + m.length ≤ 1000000000) (hbase : base ≤ w.heap.size)
    (hs : act.eval s = .slice a l.length cap) (hx : act.eval x = .slice b m.length c)
    (h : ∀ a' cap' w', Own E base w' a' (l ++ m) cap' → w.grownBy w' (blk a) → Near w.heap.size a a' → K (act.put o.dst (.slice a' (l ++ m).length cap')) w') :
    if Region.wanted o (yielded ops act.tmps) = true then Oper.wp P o act w K Q else F := by
  have hw : Region.wanted o (yielded ops act.tmps) = true := by simp [Region.wanted, hgd]
  rw [if_pos hw]
  exact wp_append_near hBT s x ho hown hm hne hlen hbase hs hx h

/-- The same in a region in the text's order; x may be nil. -/
theorem wp_append_at (hBT : ByteTypes P T E) {w : World} {ops : Array Oper} {rest : List Oper} {o : Oper} {act : Act} {Q : Exit → Act → World → Prop} (s x : Operand) (hgd : o.guard = none)
    (ho : o.op = .call { callee := .builtin .append, args := #[s, x], argTypes := #[T, T] }) {base : Nat}
    {a b : Option Addr} {l m : List UInt8} {cap c : Nat} (hown : Own E base w a l cap) (hm : Row w b m c) (hne : m = [] → b = none) (hlen : l.length + m.length ≤ 1000000000) (hbase : base ≤ w.heap.size)
    (hs : act.eval s = .slice a l.length cap) (hx : act.eval x = .slice b m.length c)
    (h : ∀ a' cap' w', Own E base w' a' (l ++ m) cap' → w.grownBy w' (blk a) → Near w.heap.size a a' → wpList P ops Q rest (act.put o.dst (.slice a' (l ++ m).length cap')) w') : wpList P ops Q (o :: rest) act w := by
  by_cases h0 : m = []
  · obtain ⟨i, hi, hz0, hz1, hz2⟩ := info_parts hBT.info
    have hb := hne h0
    subst h0 hb
    have hc := hm.nil rfl
    subst hc
    refine wpList_append_own_none hgd s x T ho base E i 1 hBT.slice hi (.slice a l.length cap) l.length (l.map vb) hs hown.row hx ?_
    have hk := h a cap w
    rw [List.append_nil] at hk
    exact hk hown ⟨rfl, rfl, rfl, Nat.le_refl _, fun _ _ _ => rfl⟩ (Near.refl _ _)
  · exact wpList_plain hgd fun K hK => wp_append_near hBT s x ho hown hm h0 hlen hbase hs hx (fun a' cap' w' h1 h2 h3 => hK _ _ (h a' cap' w' h1 h2 h3))
end
end Go.Cit
