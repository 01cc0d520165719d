/- A map from the numbers of rows to rows of bytes (arrays), by its entries: looked up, stored into, cleared, its keys. No condition on the program. -/
import Derived.Test.YtofagofpeedfcaaGreatGc
import Derived.Maps.Own
import Derived.Lib.SlKeysI
import Derived.MapKept
namespace Go.Cit
open Go Go.RowKit Go.MapKept

/-- What a cache has for each number. -/
abbrev CacheV := List (Option (List UInt8))
/-- The numbers that are in a cache, ascending. -/
def dirtyL (C : CacheV) : List Nat := (List.range C.length).filter fun i => (C[i]?.join).isSome
theorem mem_dirtyL {C : CacheV} {i : Nat} : i ∈ dirtyL C ↔ ∃ r, C[i]? = some (some r) := by
  unfold dirtyL
  rw [List.mem_filter, List.mem_range]
  constructor
  · rintro ⟨h1, h2⟩
    rw [List.getElem?_eq_getElem h1] at h2 ⊢
    cases hc : C[i] with
    | none => rw [hc] at h2; simp at h2
    | some r => exact ⟨r, rfl⟩
  · rintro ⟨r, hr⟩
    exact ⟨(List.getElem?_eq_some_iff.1 hr).1, by rw [hr]; rfl⟩
theorem dirtyL_asc (C : CacheV) : (dirtyL C).Pairwise (· < ·) := List.Pairwise.sublist List.filter_sublist List.pairwise_lt_range
theorem dirtyL_nodup (C : CacheV) : (dirtyL C).Nodup := (dirtyL_asc C).imp (fun h => Nat.ne_of_lt h)
theorem dirtyL_len (C : CacheV) : (dirtyL C).length ≤ C.length := by
  unfold dirtyL
  exact Nat.le_trans (List.length_filter_le _ _) (by simp)
theorem dirtyL_lt {C : CacheV} {i : Nat} (h : i ∈ dirtyL C) : i < C.length := by
  obtain ⟨r, hr⟩ := mem_dirtyL.1 h
  exact (List.getElem?_eq_some_iff.1 hr).1

/-- The map in block b holds C. -/
structure CM (w : World) (b : Nat) (C : CacheV) : Prop where
  ex : ∃ es clock, w.heap[b]? = some (.map es clock) ∧ Stamped es clock ∧
    (∀ x ∈ es.toList, ∃ (i : Nat) (r : List UInt8), x.key = .int .i64 (i : Int) ∧ x.val = .agg (r.map vb).toArray ∧ C[i]? = some (some r)) ∧
    (∀ (i : Nat) (r : List UInt8), C[i]? = some (some r) → ∃ x ∈ es.toList, x.key = .int .i64 (i : Int))

theorem CM.lt {w b C} (h : CM w b C) : b < w.heap.size := by
  obtain ⟨es, clock, hb, _⟩ := h.ex
  exact (Array.getElem?_eq_some_iff.1 hb).1
theorem CM.save {S : Nat → Prop} {w w' : World} {b C} (h : CM w b C) (hs : Save S w w') (hb : S b) : CM w' b C := by
  obtain ⟨es, clock, h1, rest⟩ := h.ex
  exact ⟨⟨es, clock, (hs.block b (Array.getElem?_eq_some_iff.1 h1).1 hb).trans h1, rest⟩⟩
theorem CM.stay {w w' : World} {b C} (h : CM w b C) (hs : Below w.heap.size w w') : CM w' b C := h.save (Save.of (S := fun _ => True) hs) trivial
theorem CM.new (w : World) (n : Nat) : CM (w.alloc (.map #[] 0)) w.heap.size (List.replicate n none) := by
  refine ⟨#[], 0, heap_alloc_new w _, stamped_empty 0, fun x hx => by simp at hx, fun i r h => ?_⟩
  obtain ⟨h1, h2⟩ := List.getElem?_eq_some_iff.1 h
  simp at h2

section
variable {P : Program} {T K E : TypeId} {w : World} {b : Nat} {C : CacheV}
theorem cm_isKey {es : Array MapEntry} (h : ∀ x ∈ es.toList, ∃ (i : Nat) (r : List UInt8), x.key = .int .i64 (i : Int) ∧ x.val = .agg (r.map vb).toArray ∧ C[i]? = some (some r)) : ∀ x ∈ es.toList, IsKey (.int .i64) x.key := by
  intro x hx
  obtain ⟨i, r, h1, _⟩ := h x hx
  rw [h1]; rfl
theorem int_key_inj {i j : Nat} (h : Value.int .i64 (i : Int) = .int .i64 (j : Int)) : i = j := by
  injection h with _ h
  exact Int.ofNat.inj h

/-- m[i], where it is. -/
theorem run_cm_hit (hT : P.underlying T = some (.map K E)) (hK : P.underlying K = some (.int .i64)) (h : CM w b C) {i : Nat} {r : List UInt8} (hi : C[i]? = some (some r)) (ok : Bool) :
    (Instr.lookup T (.map (some b)) (.int .i64 (i : Int)) ok).run P w = .ok (if ok then .tuple #[.agg (r.map vb).toArray, .bool true] else .agg (r.map vb).toArray) w := by
  obtain ⟨es, clock, hb, hs, h1, h2⟩ := h.ex
  have hk : IsKey (.int .i64) (Value.int .i64 (i : Int)) := rfl
  rcases findNow_spec hk es.toList 0 (cm_isKey h1) with ⟨h3, h4⟩ | ⟨j, e, h3, h4, h5⟩
  · obtain ⟨x, hx, hxk⟩ := h2 i r hi
    exact absurd hxk (h4 x hx)
  · have hx : e ∈ es.toList := List.mem_of_getElem? h4
    obtain ⟨i', r', h6, h7, h8⟩ := h1 e hx
    obtain rfl : i' = i := int_key_inj (h6.symm.trans h5)
    rw [hi] at h8
    injection h8 with h8
    injection h8 with h8
    subst h8
    simp [Instr.lookup, run_underlying hT, MapKept.run_getObj_map hb, run_checkKey hK hk, run_findKey hK h3, Result.andThen, h7]
/-- m[i], where it isn't. -/
theorem run_cm_miss (hT : P.underlying T = some (.map K E)) (hK : P.underlying K = some (.int .i64)) {z : Value} (hz : (zeroValue E).run P w = .ok z w) (h : CM w b C) {i : Nat} (hi : ∀ r, C[i]? ≠ some (some r)) (ok : Bool) :
    (Instr.lookup T (.map (some b)) (.int .i64 (i : Int)) ok).run P w = .ok (if ok then .tuple #[z, .bool false] else z) w := by
  obtain ⟨es, clock, hb, hs, h1, h2⟩ := h.ex
  have hk : IsKey (.int .i64) (Value.int .i64 (i : Int)) := rfl
  rcases findNow_spec hk es.toList 0 (cm_isKey h1) with ⟨h3, h4⟩ | ⟨j, e, h3, h4, h5⟩
  · simp [Instr.lookup, run_underlying hT, MapKept.run_getObj_map hb, run_checkKey hK hk, run_findKey hK h3, Result.andThen, hz]
  · have hx : e ∈ es.toList := List.mem_of_getElem? h4
    obtain ⟨i', r', h6, h7, h8⟩ := h1 e hx
    obtain rfl : i' = i := int_key_inj (h6.symm.trans h5)
    exact absurd h8 (hi r')

theorem setObj_save {es : Array MapEntry} {clock : Nat} (hb : w.heap[b]? = some (.map es clock)) (o : Obj) : ({ w with heap := w.heap.setIfInBounds b o } : World).heap[b]? = some o ∧ Save (· ≠ b) w { w with heap := w.heap.setIfInBounds b o } :=
  ⟨(heap_set hb).1, ⟨rfl, rfl, rfl, by simp, fun k _ hk => (heap_set hb).2 k hk⟩⟩

/-- m[i] = r. -/
theorem run_cm_update (hT : P.underlying T = some (.map K E)) (hK : P.underlying K = some (.int .i64)) (h : CM w b C) {i : Nat} (hi : i < C.length) (r : List UInt8) :
    ∃ w', (Instr.mapUpdate T (.map (some b)) (.int .i64 (i : Int)) (.agg (r.map vb).toArray)).run P w = .ok () w' ∧ CM w' b (C.set i (some r)) ∧ Save (· ≠ b) w w' := by
  obtain ⟨es, clock, hb, hs, h1, h2⟩ := h.ex
  have hk : IsKey (.int .i64) (Value.int .i64 (i : Int)) := rfl
  rcases findNow_spec hk es.toList 0 (cm_isKey h1) with ⟨h3, h4⟩ | ⟨j, e, h3, h4, h5⟩
  · refine ⟨_, by simp [Instr.mapUpdate, run_underlying hT, MapKept.run_getObj_map hb, run_checkKey hK hk, run_findKey hK h3, run_setObj_map _ hb, Result.andThen], ⟨⟨_, _, (setObj_save hb _).1, stamped_push hs h4 (val := .agg (r.map vb).toArray), ?_, ?_⟩⟩, (setObj_save hb _).2⟩
    · intro x hx
      simp only [Array.toList_push, List.mem_append, List.mem_singleton] at hx
      rcases hx with hx | rfl
      · obtain ⟨i', r', g1, g2, g3⟩ := h1 x hx
        have hne : i ≠ i' := fun e => h4 x hx (by rw [g1, e])
        exact ⟨i', r', g1, g2, by rw [List.getElem?_set_ne hne]; exact g3⟩
      · exact ⟨i, r, rfl, rfl, by rw [List.getElem?_set_self hi]⟩
    · intro i' r' hr'
      by_cases e : i = i'
      · subst e
        exact ⟨_, by rw [Array.toList_push]; exact List.mem_append_right _ (List.mem_singleton.2 rfl), rfl⟩
      · rw [List.getElem?_set_ne e] at hr'
        obtain ⟨x, hx, hxk⟩ := h2 i' r' hr'
        exact ⟨x, by rw [Array.toList_push]; exact List.mem_append_left _ hx, hxk⟩
  · have hj : es[j]? = some e := by simpa using h4
    have hkey : ∀ e', es[j]? = some e' → ({ e' with key := Value.int .i64 (i : Int), val := .agg (r.map vb).toArray } : MapEntry).key = e'.key := fun e' he' => by rw [hj] at he'; cases he'; exact h5.symm
    refine ⟨_, by simp [Instr.mapUpdate, run_underlying hT, MapKept.run_getObj_map hb, run_checkKey hK hk, run_findKey hK h3, hj, h5, run_keyThatStays hk, run_setObj_map _ hb, Result.andThen], ⟨⟨_, _, (setObj_save hb _).1, stamped_modify hs j (fun e' => { e' with key := Value.int .i64 (i : Int), val := .agg (r.map vb).toArray }) (fun _ _ => rfl) (fun e' _ he' => hkey e' he'), ?_, ?_⟩⟩, (setObj_save hb _).2⟩
    · intro x hx
      obtain ⟨q, hq⟩ := List.getElem?_of_mem hx
      rw [Array.getElem?_toList, Array.getElem?_modify] at hq
      by_cases hjq : j = q
      · subst hjq
        rw [if_pos rfl, hj] at hq
        simp only [Option.map_some, Option.some.injEq] at hq
        subst hq
        exact ⟨i, r, rfl, rfl, by rw [List.getElem?_set_self hi]⟩
      · rw [if_neg hjq] at hq
        have hx' : x ∈ es.toList := List.mem_of_getElem? (by rw [Array.getElem?_toList]; exact hq)
        obtain ⟨i', r', g1, g2, g3⟩ := h1 x hx'
        have hne : i ≠ i' := by
          intro e'
          subst e'
          have h6 := hs.2.2
          have a1 : (es.toList.map (·.key))[j]? = some (.int .i64 (i : Int)) := by rw [List.getElem?_map, h4]; simp [h5]
          have a2 : (es.toList.map (·.key))[q]? = some (.int .i64 (i : Int)) := by rw [List.getElem?_map, Array.getElem?_toList, hq]; simp [g1]
          obtain ⟨b1, c1⟩ := List.getElem?_eq_some_iff.1 a1
          obtain ⟨b2, c2⟩ := List.getElem?_eq_some_iff.1 a2
          have h7 := List.pairwise_iff_getElem.1 h6
          rcases Nat.lt_or_gt_of_ne hjq with hlt | hlt
          · exact h7 _ _ b1 b2 hlt (c1.trans c2.symm)
          · exact h7 _ _ b2 b1 hlt (c2.trans c1.symm)
        exact ⟨i', r', g1, g2, by rw [List.getElem?_set_ne hne]; exact g3⟩
    · intro i' r' hr'
      by_cases hii : i = i'
      · subst hii
        exact ⟨{ e with key := .int .i64 (i : Int), val := .agg (r.map vb).toArray }, List.mem_of_getElem? (i := j) (by rw [Array.getElem?_toList, Array.getElem?_modify, if_pos rfl, hj]; rfl), rfl⟩
      · rw [List.getElem?_set_ne hii] at hr'
        obtain ⟨x, hx, hxk⟩ := h2 i' r' hr'
        obtain ⟨q, hq⟩ := List.getElem?_of_mem hx
        have hjq : j ≠ q := by
          intro e'
          subst e'
          rw [h4] at hq
          injection hq with hq
          subst hq
          exact hii (int_key_inj (h5.symm.trans hxk))
        exact ⟨x, List.mem_of_getElem? (i := q) (by rw [Array.getElem?_toList, Array.getElem?_modify, if_neg hjq]; rw [Array.getElem?_toList] at hq; exact hq), hxk⟩

/-- clear(m). -/
theorem run_cm_clear {ty : TypeId} (hT : P.underlying T = some (.map K E)) (h : CM w b C) :
    ∃ w', (Builtin.clear_ #[T] ty #[.map (some b)]).run P w = .ok (.tuple #[]) w' ∧ CM w' b (List.replicate C.length none) ∧ Save (· ≠ b) w w' := by
  obtain ⟨es, clock, hb, hs, h1, h2⟩ := h.ex
  refine ⟨_, by simp [Builtin.clear_, run_underlying hT, MapKept.run_getObj_map hb, run_setObj_map _ hb, Result.andThen]; rfl, ⟨⟨_, _, (setObj_save hb _).1, stamped_empty _, fun x hx => by simp at hx, fun i r hr => ?_⟩⟩, (setObj_save hb _).2⟩
  obtain ⟨_, h2⟩ := List.getElem?_eq_some_iff.1 hr
  simp at h2

/-- The map as the library's contracts ask for it: its keys. -/
theorem CM.owns (hK : P.underlying K = some (.int .i64)) (h : CM w b C) (hC : C.length ≤ 1000000000) :
    ∃ D0 : DataW Unit, w.ownsMap P K (fun _ => some (.nil, [])) b C.length D0 ∧ ((dirtyL C).map Int.ofNat).Perm (intKeys D0) ∧ Maps.size D0 ≤ C.length := by
  obtain ⟨es, clock, hb, hs, h1, h2⟩ := h.ex
  have hkey : ∀ x ∈ es.toList, ∃ i : Nat, i < C.length ∧ x.key = .int .i64 (i : Int) ∧ keyOf P K x.key = some (.int .i64 (i : Int)) := by
    intro x hx
    obtain ⟨i, r, g1, _, g3⟩ := h1 x hx
    have hi := (List.getElem?_eq_some_iff.1 g3).1
    exact ⟨i, hi, g1, by rw [g1]; exact Maps.keyOf_int_mk hK (WalkArith.wf_i64 (by omega))⟩
  have hrg : ∀ x ∈ es.toList, ∃ i : Nat, x.key = .int .i64 (i : Int) ∧ WideElems.rd P K (fun _ => some ((.nil : DataW Unit), [])) x = some (.int .i64 (i : Int), .nil) := by
    intro x hx
    obtain ⟨i, _, g1, g2⟩ := hkey x hx
    exact ⟨i, g1, by simp [WideElems.rd, g2]⟩
  have hnd : (es.toList.map (·.key)).Nodup := hs.2.2
  have hperm : (es.toList.map (·.key)).Perm ((dirtyL C).map fun i : Nat => Value.int .i64 (i : Int)) := by
    refine (List.perm_ext_iff_of_nodup hnd ?_).2 fun v => ?_
    · exact List.pairwise_map.2 ((dirtyL_nodup C).imp fun hne e => hne (int_key_inj e))
    · rw [List.mem_map, List.mem_map]
      constructor
      · rintro ⟨x, hx, rfl⟩
        obtain ⟨i, r, g1, _, g3⟩ := h1 x hx
        exact ⟨i, mem_dirtyL.2 ⟨r, g3⟩, g1.symm⟩
      · rintro ⟨i, hi, rfl⟩
        obtain ⟨r, hr⟩ := mem_dirtyL.1 hi
        obtain ⟨x, hx, hxk⟩ := h2 i r hr
        exact ⟨x, hx, hxk⟩
  have hlen : es.size ≤ C.length := by
    have := hperm.length_eq
    rw [List.length_map, List.length_map, Array.length_toList] at this
    rw [this]; exact dirtyL_len C
  have hfit : WideElems.Fit P K (fun _ => some ((.nil : DataW Unit), [])) es clock := ⟨by unfold maxLen; omega, hs, fun x hx => by obtain ⟨i, _, hi⟩ := hrg x hx; exact ⟨_, hi⟩⟩
  have hown : w.ownsMap P K (fun _ => some ((.nil : DataW Unit), [])) b C.length (.map ((es.toList.map (WideElems.rg P K (fun _ => some ((.nil : DataW Unit), [])))).foldr DataW.insert [])) := ⟨es, clock, hb, hfit, hlen, rfl⟩
  refine ⟨_, hown, ?_, ?_⟩
  · have hins : ((es.toList.map (WideElems.rg P K (fun _ => some ((.nil : DataW Unit), [])))).foldr DataW.insert []).Perm (es.toList.map (WideElems.rg P K (fun _ => some ((.nil : DataW Unit), [])))) := by
      generalize es.toList.map (WideElems.rg P K (fun _ => some ((.nil : DataW Unit), []))) = L
      have ins : ∀ (x : Lit × DataW Unit) (l : List (Lit × DataW Unit)), (DataW.insert x l).Perm (x :: l) := by
        intro x l
        induction l with
        | nil => exact List.Perm.refl _
        | cons y r ih =>
          unfold DataW.insert
          split
          · exact List.Perm.refl _
          · exact (List.Perm.cons y ih).trans (List.Perm.swap x y r)
      induction L with
      | nil => exact List.Perm.refl _
      | cons x l ih => exact (ins x _).trans (List.Perm.cons x ih)
    have e1 : (es.toList.map (WideElems.rg P K (fun _ => some ((.nil : DataW Unit), [])))).map (fun p => intOf p.1) = (es.toList.map (·.key)).map (fun v => match v with | .int _ a => a | _ => 0) := by
      rw [List.map_map, List.map_map]
      refine List.map_congr_left fun x hx => ?_
      obtain ⟨i, g1, g2⟩ := hrg x hx
      simp only [Function.comp, WideElems.rg_of g2, g1, intOf]
    have e2 := hins.map (fun p : Lit × DataW Unit => intOf p.1)
    rw [e1] at e2
    have e3 := hperm.map (fun v => match v with | .int _ a => a | _ => (0 : Int))
    have e4 := e2.trans e3
    rw [List.map_map] at e4
    exact e4.symm
  · show ((es.toList.map _).foldr DataW.insert []).length ≤ _
    rw [length_sorted]
    simpa using hlen
end
end Go.Cit
