/- append onto a slice that was written out empty: no other memory is turned. No condition. -/
import Derived.Test.YtofagofpeedfcaaVec
import Derived.Deep.AppendSrc
namespace Go.Cit
open Go Go.RowKit

section
variable {P : Program} {T E : TypeId} {n by_ : Nat} {z : Value} {α : Type} {f : α → List Value}
theorem vec_src (hE : ElemType P T E n by_ z) (hf : ∀ x, (f x).length = n) (h1 : ∀ x, ∀ u ∈ f x, u.oneCell' = true) {w : World} {b : Option Addr} {m : List α} {c : Nat} (hm : Vec f n w b m c) : Src P n T (.slice b m.length c) m.length (m.flatMap f) w := by
  cases b with
  | none =>
    have hc := hm.nil rfl
    have hle := hm.le
    obtain rfl : m = [] := List.eq_nil_of_length_eq_zero (by omega)
    subst hc
    exact Src.ofNil w hE.slice 0
  | some p =>
    refine Src.ofSlice w hE.slice p m.length c _ (flatLen hf m) (fun j u hu => ?_) (fun u hu => ?_)
    · have hj : j < m.length * n := by rw [← flatLen hf m]; exact (List.getElem?_eq_some_iff.1 hu).1
      have hn := hE.pos
      have e1 : j = j / n * n + j % n := by rw [Nat.mul_comm]; exact (Nat.div_add_mod j n).symm
      have hi' : j / n < m.length := (Nat.div_lt_iff_lt_mul hn).2 hj
      have hj' : j % n < n := Nat.mod_lt _ hn
      obtain ⟨g, off, hp⟩ := hm.spot (by intro h0; simp [h0] at hi')
      injection hp with hp
      subst hp
      rw [add_ad]
      rw [e1] at hu ⊢
      rw [flatGet hf m _ _ hi' hj'] at hu
      rw [hm.cell _ hi' _ hj', hu]
    · obtain ⟨y, _, hy⟩ := List.mem_flatMap.1 hu
      exact h1 y u hy

theorem run_vapp0 (hE : ElemType P T E n by_ z) (hf : ∀ x, (f x).length = n) (h1 : ∀ x, ∀ u ∈ f x, u.oneCell' = true) {w : World} {g : Nat} {b : Option Addr} {m : List α} {c : Nat} {B : Nat} (ty : TypeId)
    (hown : VOwn f n E B w (some ⟨g, 0, none⟩) [] 0) (hm : Vec f n w b m c) (hlen : m.length ≤ 1000000) (hB : B ≤ w.heap.size) :
    ∃ a' c' w', (Builtin.append_ #[T, T] ty #[.slice (some ⟨g, 0, none⟩) 0 0, .slice b m.length c]).run P w = .ok (.slice a' m.length c') w' ∧ VOwn f n E B w' a' m c' ∧ Below w.heap.size w w' := by
  obtain ⟨i, hi, hz0, hz1, hz2⟩ := info_parts hE.info
  have hsrc := vec_src hE hf h1 hm
  rw [← hz1] at hsrc
  have hfew := hE.few
  by_cases h0 : m = []
  · subst h0
    have hr := run_append_room_src (P := P) w T T ty E i hE.slice hi g 0 0 0 (.slice b 0 c) 0 [] hsrc (Nat.le_refl _) (fun j hj => by simp at hj) (fun j hj => by simp at hj)
    exact ⟨_, _, _, hr, hown, Below.refl _ _⟩
  · have hpos : 0 < m.length := List.length_pos_iff.2 h0
    have hold : (Builtin.firstCells i.size 0 (.slice (some ⟨g, 0, none⟩) 0 0)).run P w.drew = .ok ([] : List Value).toArray w.drew := run_firstCells_some w.drew i.size 0 ⟨g, 0, none⟩ 0 0 [] (by simp) (fun j u hu => by simp at hu)
    have hcap := nextslicecap_le (need := 0 + m.length) (old := 0) (by omega)
    have hr := run_append_grow_src (P := P) w T T ty E i z hE.slice hi hz0 (some ⟨g, 0, none⟩) 0 0 [] hold (.slice b m.length c) m.length (m.flatMap f) hsrc (by omega) (by omega) (by rw [hz2]; exact Nat.le_trans (Nat.mul_le_mul (Nat.le_trans hcap (show 2 * (0 + m.length) ≤ 2000000 by omega)) hfew) (by decide))
    rw [Nat.zero_add] at hr
    refine ⟨_, _, _, hr, ⟨?_⟩, ((Below.refl _ w).drew).alloc (Nat.le_refl _) _⟩
    have hge := grownCap_ge w m.length 0 E
    refine ⟨flatLen hf m, .inr ⟨w.heap.size, _, _, rfl, hB, heap_alloc_new w.drew _, hge, grownCap_le_maxLen _ _ _ _ (by unfold maxLen; omega), ?_, ?_⟩⟩
    · simp only [List.nil_append, Array.size_append, List.size_toArray, size_zeroCells, hE.zs, flatLen hf m]
      rw [← Nat.add_mul]; congr 1; omega
    · simp only [List.nil_append, Array.toList_append]
      rw [List.take_append_of_le_length (by simp [flatLen hf m])]
      exact List.take_of_length_le (by simp [flatLen hf m])
end
end Go.Cit
