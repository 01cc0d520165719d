/- Bytes of the call's own whose block may carry a mark behind its end (what a string was turned to): append onto them. No condition. -/
import Derived.Test.YtiemafgnpmoblaaInts
import Derived.Deep.AppendSrc
import Derived.Deep.MidRow
import Derived.Deep.Upon
namespace Go.Cit
open Go Go.RowKit

/-- Bytes in a block of the call's own whose room may be written. -/
structure Spare (B : Nat) (w : World) (a : Option Addr) (l : List UInt8) (cap : Nat) : Prop where
  row : Row w a l cap
  spot : ∃ g, a = some ⟨g, 0, none⟩ ∧ B ≤ g ∧ w.there g 0 cap

theorem tape_setCells (b : Nat) : ∀ (vs : List Value) (o : Nat) (w : World), (w.setCells b o vs).tape = w.tape
  | [], _, _ => rfl
  | v :: r, o, w => by rw [World.setCells, tape_setCells b r]; rfl
theorem size_setCells (b : Nat) : ∀ (vs : List Value) (o : Nat) (w : World), (w.setCells b o vs).heap.size = w.heap.size
  | [], _, _ => rfl
  | v :: r, o, w => by rw [World.setCells, size_setCells b r]; simp [World.setCell]

section
variable {P : Program} {T E : TypeId}
theorem wpList_sapp (hBT : ByteTypes P T E) {w : World} {ops : Array Oper} {rest : List Oper} {o : Oper} {act : Act} {Q : Exit → Act → World → Prop} (s x : Operand) (hgd : o.guard = none)
    (ho : o.op = .call { callee := .builtin .append, args := #[s, x], argTypes := #[T, T] }) {B : Nat}
    {a b : Option Addr} {l m : List UInt8} {cap c : Nat} (hown : Spare B w a l cap) (hm : Row w b m c) (hne : m ≠ []) (hlen : l.length + m.length ≤ 1000000000) (hbase : B ≤ w.heap.size)
    (hs : act.eval s = .slice a l.length cap) (hx : act.eval x = .slice b m.length c)
    (h : ∀ a' cap' w', Spare B w' a' (l ++ m) cap' → Below B w w' → wpList P ops Q rest (act.put o.dst (.slice a' (l ++ m).length cap')) w') : wpList P ops Q (o :: rest) act w := by
  obtain ⟨i, hi, hz0, hz1, hz2⟩ := info_parts hBT.info
  obtain ⟨g, rfl, hg, hth⟩ := hown.spot
  obtain ⟨g2, off, rfl⟩ := hm.spot hne
  have hsrc : Src P i.size T (.slice (some ⟨g2, off, none⟩) m.length c) m.length (m.map vb) w := by
    rw [hz1]
    exact Src.ofSlice w hBT.slice ⟨g2, off, none⟩ m.length c (m.map vb) (by simp) (news_row hm) (by intro u hu; obtain ⟨y, _, rfl⟩ := List.mem_map.1 hu; rfl)
  have hgs : g < w.heap.size ∨ cap = 0 := by
    rcases Nat.eq_zero_or_pos cap with h0 | h0
    · exact .inr h0
    · exact .inl (by obtain ⟨v, hv⟩ := Option.isSome_iff_exists.1 (hth 0 h0).1; exact World.block_lt_of_cell? w _ hv)
  by_cases hroom : l.length + m.length ≤ cap
  · have hr := run_append_room_src (P := P) w T T o.type E i hBT.slice hi g 0 l.length cap (.slice (some ⟨g2, off, none⟩) m.length c) m.length (m.map vb) hsrc hroom
      (fun j hj => by rw [hz1, Nat.mul_one]; have := (hth (l.length + j) (by simp at hj; omega)).1; simpa using this)
      (fun j hj => by rw [hz1, Nat.mul_one]; have := (hth (l.length + j) (by simp at hj; omega)).2; simpa using this)
    rw [hz1, Nat.mul_one, Nat.zero_add, ← List.length_append] at hr
    refine wpList_value hgd (by unfold execOp; simp only [ho, resolve, invoke, builtin, Sem.run_bind, Sem.run_pure, Result.andThen_ok, List.map_toArray, List.map_cons, List.map_nil, hs, hx, hr]; rfl) (h _ _ _ ⟨⟨by rw [List.length_append]; exact hroom, hown.row.top, fun h => by simp at h, fun _ => ⟨_, _, rfl⟩, fun j hj => ?_⟩, g, rfl, hg, World.there_setCells hth _ _ _⟩ ?_)
    · rw [ad_some]
      have hthm : ∀ k, k < (m.map vb).length → (w.cell? ⟨g, l.length + k, none⟩).isSome = true := fun k hk => by
        have := (hth (l.length + k) (by simp at hk; omega)).1; simpa using this
      by_cases hjl : j < l.length
      · rw [World.cell?_setCells_out g _ _ _ _ (fun _ _ => .inl hjl), List.getElem_append_left hjl]
        have := hown.row.cell j hjl
        rwa [ad_some] at this
      · have hj2 : j - l.length < m.length := by rw [List.length_append] at hj; omega
        have := World.cell?_setCells_in g (m.map vb) l.length w hthm (j - l.length) (by simpa using hj2)
        rw [show l.length + (j - l.length) = j by omega] at this
        rw [this, List.getElem_append_right (by omega)]
        simp
    · exact ⟨World.os_setCells _ _ _ _, tape_setCells _ _ _ _, World.output_setCells _ _ _ _, by rw [size_setCells]; exact Nat.le_refl _, fun k hk => World.heap_setCells_other w g _ _ (by omega) (by omega)⟩
  · have hold : (Builtin.firstCells i.size l.length (.slice (some ⟨g, 0, none⟩) l.length cap)).run P w.drew = .ok (l.map vb).toArray w.drew := by
      rw [hz1]
      exact run_firstCells_some w.drew 1 l.length ⟨g, 0, none⟩ l.length cap (l.map vb) (by simp) (news_row hown.row.drew)
    have hr := run_append_grow_src (P := P) w T T o.type E i (.int .u8 0) hBT.slice hi hz0 (some ⟨g, 0, none⟩) l.length cap (l.map vb) hold (.slice (some ⟨g2, off, none⟩) m.length c) m.length (m.map vb) hsrc (by omega) (by omega) (by have := nextslicecap_le (need := l.length + m.length) (old := cap) (by omega); rw [hz2]; omega)
    rw [← List.length_append] at hr
    refine wpList_value hgd (by unfold execOp; simp only [ho, resolve, invoke, builtin, Sem.run_bind, Sem.run_pure, Result.andThen_ok, List.map_toArray, List.map_cons, List.map_nil, hs, hx, hr]; rfl) (h _ _ _ ⟨⟨grownCap_ge _ _ _ _, grownCap_le_maxLen _ _ _ _ (by rw [List.length_append]; unfold maxLen; omega), fun h => by simp at h, fun _ => ⟨_, _, rfl⟩, fun j hj => ?_⟩, w.heap.size, rfl, hbase, fun j hj => ?_⟩ ?_)
    · rw [ad_some]
      have hz := heap_alloc_new w.drew (.cells (((l.map vb) ++ (m.map vb)).toArray ++ Builtin.zeroCells (Value.int .u8 0).cells (grownCap w (l ++ m).length cap E - (l ++ m).length)) E)
      rw [World.cell?, show w.heap.size = w.drew.heap.size from rfl, hz]
      have hj3 : j < l.length + m.length := by simpa using hj
      simp only [Array.getElem?_append, List.size_toArray, List.length_append, List.length_map, if_pos hj3, List.getElem?_toArray]
      rw [← List.map_append, List.getElem?_map, List.getElem?_eq_getElem hj]; rfl
    · have hz := heap_alloc_new w.drew (.cells (((l.map vb) ++ (m.map vb)).toArray ++ Builtin.zeroCells (Value.int .u8 0).cells (grownCap w (l ++ m).length cap E - (l ++ m).length)) E)
      rw [World.cell?, World.frozen?, Nat.zero_add, show w.heap.size = w.drew.heap.size from rfl, hz]
      refine ⟨?_, by simp⟩
      have hge := grownCap_ge w (l ++ m).length cap E
      have hsz : (((l.map vb) ++ (m.map vb)).toArray ++ Builtin.zeroCells (Value.int .u8 0).cells (grownCap w (l ++ m).length cap E - (l ++ m).length)).size = grownCap w (l ++ m).length cap E := by
        simp only [Array.size_append, List.size_toArray, size_zeroCells, List.length_append, List.length_map] at hge ⊢
        show _ + _ * 1 = _
        omega
      simp only [Option.isSome_iff_exists]
      exact ⟨_, Array.getElem?_eq_getElem (by rw [hsz]; exact hj)⟩
    · exact ((Below.refl _ _).drew).trans ((Below.refl _ w.drew).alloc hbase _)
end
end Go.Cit
