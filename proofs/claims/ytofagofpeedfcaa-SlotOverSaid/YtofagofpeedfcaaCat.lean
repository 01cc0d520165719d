/- words.Cat (bytes.Join without a separator, by the shelf's contract), words.Same, words.Ahead: contracts. -/
import Derived.Test.YtofagofpeedfcaaShelf
import Derived.Test.YtofagofpeedfcaaRefCat
import Derived.Test.YtofagofpeedfcaaRefOrder
namespace Go.Proofs.Ytofagofpeedfcaa
open Go Go.RowKit Go.Cit

theorem join_flat : ∀ ls : List (List UInt8), Lib.join ls [] = ls.flatten
  | [] => rfl
  | [x] => by simp [Lib.join_one]
  | x :: y :: ls => by
    have h := join_flat (y :: ls)
    simp only [Lib.join, List.intercalate] at h ⊢
    rw [List.intersperse_cons_cons]
    simp [h]
theorem lens_flat (ls : List (List UInt8)) : Lib.lens ls = ls.flatten.length := by
  simp [Lib.lens, List.length_flatten]

theorem holds_of_row {w a l cap} (h : Row w a l cap) : Lib.HoldsBytes w (.slice a l.length cap) l := by
  refine ⟨a, cap, rfl, fun hn => ?_, fun x hx i y hy => ?_⟩
  · rcases List.eq_nil_or_concat l with h0 | ⟨_, _, h0⟩
    · exact h0
    · obtain ⟨b, o, e⟩ := h.spot (by simp [h0])
      rw [hn] at e; simp at e
  · subst hx
    obtain ⟨hi, rfl⟩ := List.getElem?_eq_some_iff.1 hy
    obtain ⟨b, o, e⟩ := h.spot (by intro h0; simp [h0] at hi)
    injection e with e
    subst e
    have := h.cell i hi
    have ea : (⟨b, o, none⟩ : Addr).add i = ad (some ⟨b, o, none⟩) i := by unfold Addr.add ad; split <;> simp_all
    rw [ea]; exact this

theorem mine_of_fresh {B : Nat} {w : World} {v : Value} {l : List UInt8} (h : Lib.FreshBytes B w v l) : ∃ a c, v = .slice a l.length c ∧ Mine B w a l c := by
  obtain ⟨g, cap, zs, rfl, hB, hle, hm, hz, hr, hb, hc, hf⟩ := h
  refine ⟨_, _, rfl, ⟨hle, hm, fun h => by simp at h, fun _ => ⟨g, 0, rfl⟩, fun i hi => ?_⟩, fun k hk => ?_, fun i hi => ?_⟩
  · have h1 := hc i (by omega)
    simp only [ad, Nat.zero_add]
    rw [h1]
    have hzi : i < zs.length := by omega
    have hzr := hr zs[i] (List.getElem_mem hzi)
    have e : l[i] = UInt8.ofNat (zs[i]).toNat := by
      have hb' : l = Lib.bytesOf (zs.take l.length) := hb.symm
      have : l[i]? = (Lib.bytesOf (zs.take l.length))[i]? := by rw [← hb']
      simp only [Lib.bytesOf, List.getElem?_map, List.getElem?_take, if_pos hi, List.getElem?_eq_getElem hi, List.getElem?_eq_getElem hzi, Option.map_some, Option.some.injEq] at this
      exact this
    rw [e, List.getD, List.getElem?_eq_getElem hzi]
    simp only [Option.getD_some, vb]
    rw [UInt8.toNat_ofNat_of_lt' (by show _ < 256; omega)]
    congr 2; omega
  · simp [blk] at hk; omega
  · simp only [ad, Nat.zero_add]; exact hf i (by omega)

/-- bytes.Join of parts, no separator. -/
theorem join_calls (w : World) (b o c : Nat) (vs : List Value) (ls : List (List UInt8)) (hP : Lib.PartsAt w ⟨b, o, none⟩ vs ls) (hcap : ls.length ≤ c) (hl : ls.flatten.length ≤ 1000000000) (hn : ls.length ≤ 1000000000) :
    Calls Try.prog 80 #[.slice (some ⟨b, o, none⟩) ls.length c, .slice none 0 0] w fun e w' => ∃ a cp, e = .returned (.slice a ls.flatten.length cp) ∧ Mine w.heap.size w' a ls.flatten cp ∧ Below w.heap.size w w' := by
  match ls, hP, hcap, hl, hn with
  | [], hP, hcap, hl, hn =>
    refine (Try.bytes_Join_none _ c _ w).mono ?_
    rintro e w' ⟨rfl, rfl⟩
    exact ⟨_, _, rfl, ⟨⟨Nat.le_refl _, Nat.zero_le _, fun h => rfl, fun h => (h rfl).elim, fun i h => by simp at h⟩, fun g hg => by simp [blk] at hg; omega, fun i h => by simp at h⟩, (Below.refl _ _).alloc (Nat.le_refl _) _⟩
  | [l], hP, hcap, hl, hn =>
    obtain ⟨p, cap, l', hl', hcell, hnone, hby⟩ := hP.get 0 (by simp)
    simp only [List.getElem?_cons_zero, Option.some.injEq] at hl'
    subst hl'
    have hcell0 : w.cell? ⟨b, o, none⟩ = some (.slice p l.length cap) := by simpa [Addr.add] using hcell
    simp only [List.flatten_cons, List.flatten_nil, List.append_nil] at hl ⊢
    rcases Nat.eq_zero_or_pos l.length with h0 | h0
    · rw [h0] at hcell0
      refine (Try.bytes_Join_one_empty b o c p cap _ w hcell0).mono ?_
      rintro e w' ⟨rfl, rfl⟩
      obtain rfl : l = [] := List.eq_nil_of_length_eq_zero h0
      exact ⟨none, 0, rfl, Mine.nil _ _, Below.refl _ _⟩
    · obtain ⟨a0, rfl⟩ : ∃ a0, p = some a0 := by
        cases p with
        | none => have := hnone rfl; simp [this] at h0
        | some a0 => exact ⟨a0, rfl⟩
      refine (Try.bytes_Join_one b o c a0 cap l _ w hcell0 (hby a0 rfl) h0 (by omega)).mono ?_
      rintro e w' ⟨v', rfl, hf, hb⟩
      obtain ⟨a, cp, rfl, hm⟩ := mine_of_fresh hf
      exact ⟨a, cp, rfl, hm, hb⟩
  | x :: y :: ls, hP, hcap, hl, hn =>
    refine (Try.bytes_Join_many b o _ c vs (x :: y :: ls) (.slice none 0 0) [] w rfl (by simp) hP hcap (holds_of_row (Row.nil_ w)) (by omega) (by rw [lens_flat]; simp at hl ⊢; omega)).mono ?_
    rintro e w' ⟨v', rfl, hf, hb⟩
    rw [join_flat] at hf
    obtain ⟨a, cp, rfl, hm⟩ := mine_of_fresh hf
    exact ⟨a, cp, rfl, hm, hb⟩

theorem cat_calls (w : World) (b o c : Nat) (vs : List Value) (ls : List (List UInt8)) (hP : Lib.PartsAt w ⟨b, o, none⟩ vs ls) (hcap : ls.length ≤ c) (hl : ls.flatten.length ≤ 1000000000) (hn : ls.length ≤ 1000000000) :
    Calls Try.prog 62 #[.slice (some ⟨b, o, none⟩) ls.length c] w fun e w' => ∃ a cp, e = .returned (.slice a ls.flatten.length cp) ∧ Mine w.heap.size w' a ls.flatten cp ∧ Below w.heap.size w w' := by
  have hj := join_calls w b o c vs ls hP hcap hl hn
  obtain ⟨f, hf⟩ : ∃ f, ls.flatten = f := ⟨_, rfl⟩
  rw [hf] at hj ⊢
  clear hf hl hP hn
  go_enter Try.func62, Try.ntmps62
  go_wp2_with (go_at_call 80; refine hj.mono ?_; rintro e w' ⟨a, cp, rfl, hm, hb⟩)
  go_ret
  exact ⟨a, cp, rfl, hm, hb⟩

/-- The parts that a call lays in a new array. -/
theorem parts_new (W : World) (vs : List Value) (ls : List (List UInt8)) (t : TypeId) (hlen : vs.length = ls.length) (h : ∀ (i : Nat) v l, vs[i]? = some v → ls[i]? = some l → Lib.HoldsBytes W v l) :
    Lib.PartsAt (W.alloc (.cells vs.toArray t)) ⟨W.heap.size, 0, none⟩ vs ls := by
  refine ⟨hlen, fun i v hv => ?_, fun i v l hv hl => ?_⟩
  · have ea : (⟨W.heap.size, 0, none⟩ : Addr).add i = ⟨W.heap.size, i, none⟩ := by unfold Addr.add; split <;> simp_all
    rw [ea, World.cell?, heap_alloc_new]
    simpa using hv
  · obtain ⟨p, cap, e, h1, h2⟩ := h i v l hv hl
    refine ⟨p, cap, e, h1, fun a ha j x hx => ?_⟩
    have hc := h2 a ha j x hx
    have hlt := World.block_lt_of_cell? W _ hc
    rw [((Below.refl W.heap.size W).alloc (Nat.le_refl _) (.cells vs.toArray t)).cell hlt]
    exact hc

theorem cat1_calls (W : World) (t : TypeId) {a1 : Option Addr} {l1 : List UInt8} {c1 : Nat} (r1 : Row W a1 l1 c1) (hl : l1.length ≤ 1000000000) :
    Calls Try.prog 62 #[.slice (some ⟨W.heap.size, 0, none⟩) 1 1] (W.alloc (.cells #[.slice a1 l1.length c1] t)) fun e w' => ∃ a cp, e = .returned (.slice a l1.length cp) ∧ Mine W.heap.size w' a l1 cp ∧ Below W.heap.size W w' := by
  have hP := parts_new W [.slice a1 l1.length c1] [l1] t rfl (by
    intro i v l hv hl
    match i with
    | 0 => simp at hv hl; subst hv hl; exact holds_of_row r1
    | i + 1 => simp at hv)
  refine (cat_calls _ _ _ 1 _ _ hP (by simp) (by simpa using hl) (by simp)).mono ?_
  rintro e w' ⟨a, cp, rfl, hm, hb⟩
  simp only [List.flatten_cons, List.flatten_nil, List.append_nil] at hm ⊢
  exact ⟨a, cp, rfl, hm.low (by simp), ((Below.refl _ _).alloc (Nat.le_refl _) _).trans (hb.mono (by simp))⟩

theorem cat2_calls (W : World) (t : TypeId) {a1 a2 : Option Addr} {l1 l2 : List UInt8} {c1 c2 : Nat} (r1 : Row W a1 l1 c1) (r2 : Row W a2 l2 c2) (hl : l1.length ≤ 300000000) (hl2 : l2.length ≤ 300000000) :
    Calls Try.prog 62 #[.slice (some ⟨W.heap.size, 0, none⟩) 2 2] (W.alloc (.cells #[.slice a1 l1.length c1, .slice a2 l2.length c2] t)) fun e w' => ∃ a cp, e = .returned (.slice a (l1 ++ l2).length cp) ∧ Mine W.heap.size w' a (l1 ++ l2) cp ∧ Below W.heap.size W w' := by
  have hP := parts_new W [.slice a1 l1.length c1, .slice a2 l2.length c2] [l1, l2] t rfl (by
    intro i v l hv hl
    match i with
    | 0 => simp at hv hl; subst hv hl; exact holds_of_row r1
    | 1 => simp at hv hl; subst hv hl; exact holds_of_row r2
    | i + 2 => simp at hv)
  refine (cat_calls _ _ _ 2 _ _ hP (by simp) (by simp; omega) (by simp)).mono ?_
  rintro e w' ⟨a, cp, rfl, hm, hb⟩
  simp only [List.flatten_cons, List.flatten_nil, List.append_nil] at hm ⊢
  exact ⟨a, cp, rfl, hm.low (by simp), ((Below.refl _ _).alloc (Nat.le_refl _) _).trans (hb.mono (by simp))⟩

theorem cat3_calls (W : World) (t : TypeId) {a1 a2 a3 : Option Addr} {l1 l2 l3 : List UInt8} {c1 c2 c3 : Nat} (r1 : Row W a1 l1 c1) (r2 : Row W a2 l2 c2) (r3 : Row W a3 l3 c3) (hl : l1.length ≤ 300000000) (hl2 : l2.length ≤ 300000000) (hl3 : l3.length ≤ 300000000) :
    Calls Try.prog 62 #[.slice (some ⟨W.heap.size, 0, none⟩) 3 3] (W.alloc (.cells #[.slice a1 l1.length c1, .slice a2 l2.length c2, .slice a3 l3.length c3] t)) fun e w' => ∃ a cp, e = .returned (.slice a (l1 ++ (l2 ++ l3)).length cp) ∧ Mine W.heap.size w' a (l1 ++ (l2 ++ l3)) cp ∧ Below W.heap.size W w' := by
  have hP := parts_new W [.slice a1 l1.length c1, .slice a2 l2.length c2, .slice a3 l3.length c3] [l1, l2, l3] t rfl (by
    intro i v l hv hl
    match i with
    | 0 => simp at hv hl; subst hv hl; exact holds_of_row r1
    | 1 => simp at hv hl; subst hv hl; exact holds_of_row r2
    | 2 => simp at hv hl; subst hv hl; exact holds_of_row r3
    | i + 3 => simp at hv)
  refine (cat_calls _ _ _ 3 _ _ hP (by simp) (by simp; omega) (by simp)).mono ?_
  rintro e w' ⟨a, cp, rfl, hm, hb⟩
  simp only [List.flatten_cons, List.flatten_nil, List.append_nil] at hm ⊢
  exact ⟨a, cp, rfl, hm.low (by simp), ((Below.refl _ _).alloc (Nat.le_refl _) _).trans (hb.mono (by simp))⟩

theorem cat0_calls (w : World) :
    Calls Try.prog 62 #[.slice none 0 0] w fun e w' => ∃ a cp, e = .returned (.slice a 0 cp) ∧ Mine w.heap.size w' a [] cp ∧ Below w.heap.size w w' := by
  go_enter Try.func62, Try.ntmps62
  go_wp2_with (go_at_call 80; refine (Try.bytes_Join_none none 0 _ _).mono ?_; rintro e w' ⟨rfl, rfl⟩)
  go_ret
  exact ⟨_, _, rfl, ⟨⟨Nat.le_refl _, Nat.zero_le _, fun h => rfl, fun h => (h rfl).elim, fun i h => by simp at h⟩, fun g hg => by simp [blk] at hg; omega, fun i h => by simp at h⟩, (Below.refl _ _).alloc (Nat.le_refl _) _⟩
end Go.Proofs.Ytofagofpeedfcaa
