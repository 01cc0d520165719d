/- append(s[:k], s[k+1:]...) in a slice of one's own; a place by a number's remainder. No condition. -/
import Derived.Test.YtofagofpeedfcaaVec0
import Derived.Deep.MidRow
import Derived.Deep.Upon
import Derived.Deep.AppendSrc
import Derived.IntWalk
import Derived.Test.YtofagofpeedfcaaGc
namespace Go.Cit
open Go Go.RowKit

theorem pick_of (wh : Int) (n : Nat) (h : 0 < n) (h9 : n ≤ 1000000) : ∃ k : Nat, k < n ∧ wrap64 ((IntKind.u64.wrap wh).tmod (n : Int)) = (k : Int) := by
  have h0 : 0 ≤ IntKind.u64.wrap wh := by
    have e : IntKind.u64.wrap wh = wh % (18446744073709551616 : Int) := rfl
    rw [e]; omega
  generalize IntKind.u64.wrap wh = z at h0
  obtain ⟨m, rfl⟩ : ∃ m : Nat, z = (m : Int) := ⟨z.toNat, by omega⟩
  have e : (m : Int).tmod (n : Int) = ((m % n : Nat) : Int) := by
    rw [Int.tmod_eq_emod_of_nonneg (by omega)]; exact (Int.natCast_emod m n).symm
  have hlt := Nat.mod_lt m h
  refine ⟨m % n, hlt, ?_⟩
  rw [e]
  exact IntWalk.wrap64_in _ (by omega)

section
variable {α : Type} {f : α → List Value} {n by_ : Nat} {E T : TypeId} {z : Value} {P : Program}
theorem setCells_save (w : World) (g o : Nat) (vs : List Value) : Save (· ≠ g) w (w.setCells g o vs) := by
  have hk := World.keptBut_setCells g (may := fun _ => True) vs o w (fun _ _ => trivial)
  refine ⟨World.os_setCells w g o vs, ?_, World.output_setCells w g o vs, ?_, fun k hk hne => World.heap_setCells_other w g o vs hk hne⟩
  · clear hk
    induction vs generalizing w o with
    | nil => rfl
    | cons v r ih => rw [World.setCells]; exact (ih (w.setCell ⟨g, o, none⟩ v) (o + 1)).trans rfl
  · clear hk
    induction vs generalizing w o with
    | nil => exact Nat.le_refl _
    | cons v r ih => rw [World.setCells]; exact Nat.le_trans (by simp [World.setCell]) (ih (w.setCell ⟨g, o, none⟩ v) (o + 1))
theorem eraseIdx_get {l : List α} {k i : Nat} (h : i < (l.eraseIdx k).length) (hl : k < l.length) : (l.eraseIdx k)[i] = if h' : i < k then l[i]'(by omega) else l[i + 1]'(by rw [List.length_eraseIdx_of_lt hl] at h; omega) := by
  rw [List.getElem_eraseIdx]
/-- The elements behind place k move one place ahead. -/
theorem run_del (hE : ElemType P T E n by_ z) (hf : ∀ x, (f x).length = n) (h1 : ∀ x, ∀ u ∈ f x, u.oneCell' = true) {w : World} {g B cap k : Nat} {l : List α} (ty : TypeId) (h : VOwn f n E B w (some ⟨g, 0, none⟩) l cap) (hk : k < l.length) (X : Option Addr) (hX : k + 1 < l.length → X = some ⟨g, (k + 1) * n, none⟩) (hX0 : X ≠ none) (c : Nat) :
    ∃ w', (Builtin.append_ #[T, T] ty #[.slice (some ⟨g, 0, none⟩) k cap, .slice X (l.length - (k + 1)) c]).run P w = .ok (.slice (some ⟨g, 0, none⟩) (l.length - 1) cap) w' ∧ Vec f n w' (some ⟨g, 0, none⟩) (l.eraseIdx k) cap ∧ Save (· ≠ g) w w' := by
  obtain ⟨i, hi, hz0, hz1, hz2⟩ := info_parts hE.info
  have hv := h.vec hf
  have hn := hE.pos
  obtain ⟨cur, hcur, hcs⟩ : ∃ cur, w.heap[g]? = some (.cells cur E (0, 0)) ∧ cur.size = cap * n := by
    rcases h.row.2 with ⟨hv, _⟩ | ⟨g', c', cur, hv, _, hc, _, _, hs, _⟩
    · simp at hv
    · simp only [Value.slice.injEq, Option.some.injEq, Addr.mk.injEq, and_true, true_and] at hv
      obtain ⟨rfl, rfl⟩ := hv
      exact ⟨cur, hc, hs⟩
  have hcap := hv.le
  have hlen : ((l.drop (k + 1)).flatMap f).length = (l.length - (k + 1)) * n := by rw [flatLen hf, List.length_drop]
  have hsrc : Src P i.size T (.slice X (l.length - (k + 1)) c) (l.length - (k + 1)) ((l.drop (k + 1)).flatMap f) w := by
    rw [hz1]
    obtain ⟨p, rfl⟩ := Option.ne_none_iff_exists'.1 hX0
    refine Src.ofSlice w hE.slice p _ c _ hlen (fun j u hu => ?_) (fun u hu => ?_)
    · have hj : j < (l.length - (k + 1)) * n := by rw [← hlen]; exact (List.getElem?_eq_some_iff.1 hu).1
      have hpos : k + 1 < l.length := by
        rcases Nat.lt_or_ge (k + 1) l.length with h' | h'
        · exact h'
        · rw [Nat.sub_eq_zero_of_le h'] at hj; omega
      have e := hX hpos
      simp only [Option.some.injEq] at e
      subst e
      have e1 : j = j / n * n + j % n := by rw [Nat.mul_comm]; exact (Nat.div_add_mod j n).symm
      have hi' : j / n < (l.drop (k + 1)).length := by rw [List.length_drop]; exact (Nat.div_lt_iff_lt_mul hn).2 hj
      have hj' : j % n < n := Nat.mod_lt _ hn
      have hg := hu
      rw [e1, flatGet hf _ _ _ hi' hj', List.getElem_drop] at hg
      have hc := hv.cell (k + 1 + j / n) (by rw [List.length_drop] at hi'; omega) (j % n) hj'
      rw [hg] at hc
      rw [← hc]
      congr 1
      unfold Addr.add ad
      have e2 : (k + 1 + j / n) * n + j % n = (k + 1) * n + j := by rw [Nat.add_mul]; omega
      rw [e2]
      by_cases h0 : j = 0
      · subst h0; simp
      · simp [h0]
    · obtain ⟨y, _, hy⟩ := List.mem_flatMap.1 hu
      exact h1 y u hy
  have hcell : ∀ j, j < cap * n → (w.cell? ⟨g, j, none⟩).isSome = true := fun j hj => by rw [cell_of_row w g j cur E (0, 0) hcur]; simp; omega
  have hfit : k * n + (l.length - (k + 1)) * n ≤ cap * n := by rw [← Nat.add_mul]; exact Nat.mul_le_mul_right _ (by omega)
  have hr := run_append_room_src (P := P) w T T ty E i hE.slice hi g 0 k cap (.slice X (l.length - (k + 1)) c) (l.length - (k + 1)) ((l.drop (k + 1)).flatMap f) hsrc (by omega)
    (fun j hj => by
      rw [hz1, Nat.zero_add]
      exact hcell _ (Nat.lt_of_lt_of_le (Nat.add_lt_add_left (by rw [hlen] at hj; exact hj) _) hfit)) (fun j _ => by simp [World.frozen?, hcur])
  rw [hz1, Nat.zero_add, show k + (l.length - (k + 1)) = l.length - 1 by omega] at hr
  refine ⟨_, hr, ?_, setCells_save _ _ _ _⟩
  have hel : (l.eraseIdx k).length = l.length - 1 := List.length_eraseIdx_of_lt hk
  refine ⟨by omega, hv.top, hv.nil, fun _ => ⟨g, 0, rfl⟩, fun q hq j hj => ?_⟩
  rw [ad_some, eraseIdx_get hq hk]
  by_cases hqk : q < k
  · rw [dif_pos hqk]
    rw [World.cell?_setCells_out g _ _ _ _ (fun _ _ => .inl (by
      show q * n + j < k * n
      have := Nat.mul_le_mul_right n (show q + 1 ≤ k by omega)
      rw [Nat.add_mul] at this; omega))]
    have := hv.cell q (by omega) j hj
    rwa [ad_some] at this
  · rw [dif_neg hqk]
    have hq2 : q + 1 < l.length := by omega
    have e1 : q * n + j = k * n + ((q - k) * n + j) := by
      have : q = k + (q - k) := by omega
      rw [← Nat.add_assoc, ← Nat.add_mul, ← this]
    have hd : q - k < (l.drop (k + 1)).length := by rw [List.length_drop]; omega
    have hlt : (q - k) * n + j < ((l.drop (k + 1)).flatMap f).length := by
      rw [flatLen hf]
      have := Nat.mul_le_mul_right n (show q - k + 1 ≤ (l.drop (k + 1)).length by omega)
      rw [Nat.add_mul] at this; omega
    rw [e1, World.cell?_setCells_in g _ _ _ (fun j hj => hcell _ (Nat.lt_of_lt_of_le (Nat.add_lt_add_left (by rw [hlen] at hj; exact hj) _) hfit)) _ hlt]
    have := flatGet hf (l.drop (k + 1)) (q - k) j hd hj
    rw [List.getElem?_eq_getElem hlt] at this
    rw [this, List.getElem_drop]
    congr 2
    congr 1
    omega
/-- Where the elements from place lo on lie. -/
def behindA (g n cap lo : Nat) : Option Addr := if cap = lo then some ⟨g, 0, none⟩ else some ⟨g, lo * n, none⟩
theorem run_upto (hE : ElemType P T E n by_ z) (g len cap k : Nat) (h1 : k ≤ len) (h2 : len ≤ cap) (h3 : cap ≤ maxLen) : ∀ w, (Instr.sliceAt T (.slice (some ⟨g, 0, none⟩) len cap) none (some (.int .i64 (k : Int))) none).run P w = .ok (.slice (some ⟨g, 0, none⟩) k cap) w := by
  intro w
  have hT := hE.slice
  have he : P.elem T = E := by simp [Program.elem, hT]
  unfold maxLen at h3
  rw [run_sliceAt_slice _ _ _ _ _ _ (by rw [he]; exact hT), run_slice_h w _ _ _ _ (by rw [he]; exact hT) .i64 k (by omega) (by omega), he, hE.sz]
  by_cases h0 : cap = 0 <;> simp [Result.andThen, sliced, Addr.add, h0]
theorem run_behind (hE : ElemType P T E n by_ z) (g len cap k : Nat) (h1 : k + 1 ≤ len) (h2 : len ≤ cap) (h3 : cap ≤ maxLen) : ∀ w, (Instr.sliceAt T (.slice (some ⟨g, 0, none⟩) len cap) (some (.int .i64 ((k + 1 : Nat) : Int))) none none).run P w = .ok (.slice (behindA g n cap (k + 1)) (len - (k + 1)) (cap - (k + 1))) w := by
  intro w
  have hT := hE.slice
  have hn := hE.pos
  have he : P.elem T = E := by simp [Program.elem, hT]
  unfold maxLen at h3
  rw [run_sliceAt_slice _ _ _ _ _ _ (by rw [he]; exact hT), run_slice_l w T _ _ _ (by rw [he]; exact hT) .i64 ((k + 1 : Nat) : Int) (by omega) (by omega), he, hE.sz]
  have e1 : (((k + 1 : Nat) : Int)).toNat = k + 1 := by omega
  have e2 : (k + 1) * n ≠ 0 := Nat.ne_of_gt (Nat.mul_pos (Nat.succ_pos k) hn)
  by_cases h0 : cap = k + 1
  · simp [Result.andThen, sliced, behindA, h0]
  · have h4 : cap - (k + 1) ≠ 0 := by omega
    simp only [Result.andThen, sliced, behindA, h0, if_false, e1]
    simp [Addr.add, e2, h4, h0]
theorem behindA_some (g n cap lo : Nat) : behindA g n cap lo ≠ none := by unfold behindA; split <;> simp
theorem behindA_at {g n cap k len : Nat} (h : k + 1 < len) (h2 : len ≤ cap) : behindA g n cap (k + 1) = some ⟨g, (k + 1) * n, none⟩ := by unfold behindA; rw [if_neg (by omega)]
theorem store_slice {P : Program} {T : TypeId} {w : World} {p : Addr} {u : Value} {a : Option Addr} {n c : Nat} (hs : ∀ w, (sizeOf T).run P w = .ok 1 w) (h : w.cell? p = some u) (hf : w.frozen? p = false) : (Instr.storeAt T (.pointer (some p)) (.slice a n c)).run P w = .ok () (w.setCell p (.slice a n c)) := by
  unfold Instr.storeAt Instr.sureAddr storeVar
  simp [go_sem, hs, Result.andThen, h, hf]
theorem store_bool {P : Program} {T : TypeId} {w : World} {p : Addr} {u : Value} {b : Bool} (hs : ∀ w, (sizeOf T).run P w = .ok 1 w) (h : w.cell? p = some u) (hf : w.frozen? p = false) : (Instr.storeAt T (.pointer (some p)) (.bool b)).run P w = .ok () (w.setCell p (.bool b)) := by
  unfold Instr.storeAt Instr.sureAddr storeVar
  simp [go_sem, hs, Result.andThen, h, hf]
theorem store_int {P : Program} {T : TypeId} {w : World} {p : Addr} {u : Value} {k : IntKind} {z : Int} (hs : ∀ w, (sizeOf T).run P w = .ok 1 w) (h : w.cell? p = some u) (hf : w.frozen? p = false) : (Instr.storeAt T (.pointer (some p)) (.int k z)).run P w = .ok () (w.setCell p (.int k z)) := by
  unfold Instr.storeAt Instr.sureAddr storeVar
  simp [go_sem, hs, Result.andThen, h, hf]
end
theorem gp_slice {P : Program} {w : World} {o : Oper} {ρ : Operand → Value} {post : Value → World → Prop} {ty : TypeId} {x : Operand} {lo hi mx : Option Operand} (h : o.op = .slice ty x lo hi mx) {vx v : Value} {vl vh vm : Option Value} (hx : ρ x = vx) (hl : lo.map ρ = vl) (hh : hi.map ρ = vh) (hm : mx.map ρ = vm)
    (hr : ∀ w, (Instr.sliceAt ty vx vl vh vm).run P w = .ok v w) (hp : post v w) : GivesP P post ((execOp ρ o).run P w) := by
  refine gp_run (v := v) (w' := w) ?_ hp
  unfold execOp; rw [h]; dsimp only; rw [hx, hl, hh, hm, Sem.run_bind, hr]; rfl

end Go.Cit
