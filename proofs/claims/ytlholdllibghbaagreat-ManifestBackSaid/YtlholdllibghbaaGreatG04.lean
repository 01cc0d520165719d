/- Texts of the proof, one behind the other: RefCat, Cat, WordsDef, WordsRow. No condition but those that each names. -/
import Derived.Test.YtlholdllibghbaaGreatProg
import Derived.Test.YtlholdllibghbaaGreatG00
import Derived.Test.YtlholdllibghbaaGreatShelf
/- The reference's Cat, Copy: walked. -/
namespace Go.Proofs.YtlholdllibghbaaGreat
open Go Go.RowKit Go.Cit

theorem bt : ByteTypes Tryz.prog 40 5 := ⟨Tryz.underlying40, by intro w; kernel_rfl, by kernel_rfl⟩

theorem take_snoc {α : Type} (l : List α) (k : Nat) (h : k < l.length) : l.take k ++ [l[k]] = l.take (k + 1) := by
  rw [List.take_succ_eq_append_getElem h]

end Go.Proofs.YtlholdllibghbaaGreat

/- words.Cat (bytes.Join without a separator, by the shelf's contract), words.Same, words.Ahead: contracts. -/
namespace Go.Proofs.YtlholdllibghbaaGreat
open Go Go.RowKit Go.Cit

theorem join_flat : ∀ ls : List (List UInt8), Lib.join ls [] = ls.flatten
  | [] => rfl
  | [x] => by simp [Lib.join_one]
  | x :: y :: ls => by
    have h := join_flat (y :: ls)
    simp only [Lib.join, List.intercalate] at h ⊢
    rw [List.intersperse_cons_cons]
    simp [h]
theorem lens_flat (ls : List (List UInt8)) : Lib.lens ls = ls.flatten.length := by
  simp [Lib.lens, List.length_flatten]

theorem holds_of_row {w a l cap} (h : Row w a l cap) : Lib.HoldsBytes w (.slice a l.length cap) l := by
  refine ⟨a, cap, rfl, fun hn => ?_, fun x hx i y hy => ?_⟩
  · rcases List.eq_nil_or_concat l with h0 | ⟨_, _, h0⟩
    · exact h0
    · obtain ⟨b, o, e⟩ := h.spot (by simp [h0])
      rw [hn] at e; simp at e
  · subst hx
    obtain ⟨hi, rfl⟩ := List.getElem?_eq_some_iff.1 hy
    obtain ⟨b, o, e⟩ := h.spot (by intro h0; simp [h0] at hi)
    injection e with e
    subst e
    have := h.cell i hi
    have ea : (⟨b, o, none⟩ : Addr).add i = ad (some ⟨b, o, none⟩) i := by unfold Addr.add ad; split <;> simp_all
    rw [ea]; exact this

theorem mine_of_fresh {B : Nat} {w : World} {v : Value} {l : List UInt8} (h : Lib.FreshBytes B w v l) : ∃ a c, v = .slice a l.length c ∧ Mine B w a l c := by
  obtain ⟨g, cap, zs, rfl, hB, hle, hm, hz, hr, hb, hc, hf⟩ := h
  refine ⟨_, _, rfl, ⟨hle, hm, fun h => by simp at h, fun _ => ⟨g, 0, rfl⟩, fun i hi => ?_⟩, fun k hk => ?_, fun i hi => ?_⟩
  · have h1 := hc i (by omega)
    simp only [ad, Nat.zero_add]
    rw [h1]
    have hzi : i < zs.length := by omega
    have hzr := hr zs[i] (List.getElem_mem hzi)
    have e : l[i] = UInt8.ofNat (zs[i]).toNat := by
      have hb' : l = Lib.bytesOf (zs.take l.length) := hb.symm
      have : l[i]? = (Lib.bytesOf (zs.take l.length))[i]? := by rw [← hb']
      simp only [Lib.bytesOf, List.getElem?_map, List.getElem?_take, if_pos hi, List.getElem?_eq_getElem hi, List.getElem?_eq_getElem hzi, Option.map_some, Option.some.injEq] at this
      exact this
    rw [e, List.getD, List.getElem?_eq_getElem hzi]
    simp only [Option.getD_some, vb]
    rw [UInt8.toNat_ofNat_of_lt' (by show _ < 256; omega)]
    congr 2; omega
  · simp [blk] at hk; omega
  · simp only [ad, Nat.zero_add]; exact hf i (by omega)

theorem join_calls (w : World) (b o c : Nat) (vs : List Value) (ls : List (List UInt8)) (hP : Lib.PartsAt w ⟨b, o, none⟩ vs ls) (hcap : ls.length ≤ c) (hl : ls.flatten.length ≤ 1000000000) (hn : ls.length ≤ 1000000000) :
    Calls Tryz.prog 190 #[.slice (some ⟨b, o, none⟩) ls.length c, .slice none 0 0] w fun e w' => ∃ a cp, e = .returned (.slice a ls.flatten.length cp) ∧ Mine w.heap.size w' a ls.flatten cp ∧ Below w.heap.size w w' := by
  match ls, hP, hcap, hl, hn with
  | [], hP, hcap, hl, hn =>
    refine (Tryz.bytes_Join_none _ c _ w).mono ?_
    rintro e w' ⟨rfl, rfl⟩
    exact ⟨_, _, rfl, ⟨⟨Nat.le_refl _, Nat.zero_le _, fun h => rfl, fun h => (h rfl).elim, fun i h => by simp at h⟩, fun g hg => by simp [blk] at hg; omega, fun i h => by simp at h⟩, (Below.refl _ _).alloc (Nat.le_refl _) _⟩
  | [l], hP, hcap, hl, hn =>
    obtain ⟨p, cap, l', hl', hcell, hnone, hby⟩ := hP.get 0 (by simp)
    simp only [List.getElem?_cons_zero, Option.some.injEq] at hl'
    subst hl'
    have hcell0 : w.cell? ⟨b, o, none⟩ = some (.slice p l.length cap) := by simpa [Addr.add] using hcell
    simp only [List.flatten_cons, List.flatten_nil, List.append_nil] at hl ⊢
    rcases Nat.eq_zero_or_pos l.length with h0 | h0
    · rw [h0] at hcell0
      refine (Tryz.bytes_Join_one_empty b o c p cap _ w hcell0).mono ?_
      rintro e w' ⟨rfl, rfl⟩
      obtain rfl : l = [] := List.eq_nil_of_length_eq_zero h0
      exact ⟨none, 0, rfl, Mine.nil _ _, Below.refl _ _⟩
    · obtain ⟨a0, rfl⟩ : ∃ a0, p = some a0 := by
        cases p with
        | none => have := hnone rfl; simp [this] at h0
        | some a0 => exact ⟨a0, rfl⟩
      refine (Tryz.bytes_Join_one b o c a0 cap l _ w hcell0 (hby a0 rfl) h0 (by omega)).mono ?_
      rintro e w' ⟨v', rfl, hf, hb⟩
      obtain ⟨a, cp, rfl, hm⟩ := mine_of_fresh hf
      exact ⟨a, cp, rfl, hm, hb⟩
  | x :: y :: ls, hP, hcap, hl, hn =>
    refine (Tryz.bytes_Join_many b o _ c vs (x :: y :: ls) (.slice none 0 0) [] w rfl (by simp) hP hcap (holds_of_row (Row.nil_ w)) (by omega) (by rw [lens_flat]; simp at hl ⊢; omega)).mono ?_
    rintro e w' ⟨v', rfl, hf, hb⟩
    rw [join_flat] at hf
    obtain ⟨a, cp, rfl, hm⟩ := mine_of_fresh hf
    exact ⟨a, cp, rfl, hm, hb⟩

theorem cat_calls (w : World) (b o c : Nat) (vs : List Value) (ls : List (List UInt8)) (hP : Lib.PartsAt w ⟨b, o, none⟩ vs ls) (hcap : ls.length ≤ c) (hl : ls.flatten.length ≤ 1000000000) (hn : ls.length ≤ 1000000000) :
    Calls Tryz.prog 110 #[.slice (some ⟨b, o, none⟩) ls.length c] w fun e w' => ∃ a cp, e = .returned (.slice a ls.flatten.length cp) ∧ Mine w.heap.size w' a ls.flatten cp ∧ Below w.heap.size w w' := by
  have hj := join_calls w b o c vs ls hP hcap hl hn
  obtain ⟨f, hf⟩ : ∃ f, ls.flatten = f := ⟨_, rfl⟩
  rw [hf] at hj ⊢
  clear hf hl hP hn
  go_enter Tryz.func110, Tryz.ntmps110
  go_wp2_with (go_at_call 190; refine hj.mono ?_; rintro e w' ⟨a, cp, rfl, hm, hb⟩)
  go_ret
  exact ⟨a, cp, rfl, hm, hb⟩

theorem parts_new (W : World) (vs : List Value) (ls : List (List UInt8)) (t : TypeId) (hlen : vs.length = ls.length) (h : ∀ (i : Nat) v l, vs[i]? = some v → ls[i]? = some l → Lib.HoldsBytes W v l) :
    Lib.PartsAt (W.alloc (.cells vs.toArray t)) ⟨W.heap.size, 0, none⟩ vs ls := by
  refine ⟨hlen, fun i v hv => ?_, fun i v l hv hl => ?_⟩
  · have ea : (⟨W.heap.size, 0, none⟩ : Addr).add i = ⟨W.heap.size, i, none⟩ := by unfold Addr.add; split <;> simp_all
    rw [ea, World.cell?, heap_alloc_new]
    simpa using hv
  · obtain ⟨p, cap, e, h1, h2⟩ := h i v l hv hl
    refine ⟨p, cap, e, h1, fun a ha j x hx => ?_⟩
    have hc := h2 a ha j x hx
    have hlt := World.block_lt_of_cell? W _ hc
    rw [((Below.refl W.heap.size W).alloc (Nat.le_refl _) (.cells vs.toArray t)).cell hlt]
    exact hc

theorem cat1_calls (W : World) (t : TypeId) {a1 : Option Addr} {l1 : List UInt8} {c1 : Nat} (r1 : Row W a1 l1 c1) (hl : l1.length ≤ 1000000000) :
    Calls Tryz.prog 110 #[.slice (some ⟨W.heap.size, 0, none⟩) 1 1] (W.alloc (.cells #[.slice a1 l1.length c1] t)) fun e w' => ∃ a cp, e = .returned (.slice a l1.length cp) ∧ Mine W.heap.size w' a l1 cp ∧ Below W.heap.size W w' := by
  have hP := parts_new W [.slice a1 l1.length c1] [l1] t rfl (by
    intro i v l hv hl
    match i with
    | 0 => simp at hv hl; subst hv hl; exact holds_of_row r1
    | i + 1 => simp at hv)
  refine (cat_calls _ _ _ 1 _ _ hP (by simp) (by simpa using hl) (by simp)).mono ?_
  rintro e w' ⟨a, cp, rfl, hm, hb⟩
  simp only [List.flatten_cons, List.flatten_nil, List.append_nil] at hm ⊢
  exact ⟨a, cp, rfl, hm.low (by simp), ((Below.refl _ _).alloc (Nat.le_refl _) _).trans (hb.mono (by simp))⟩

theorem cat2_calls (W : World) (t : TypeId) {a1 a2 : Option Addr} {l1 l2 : List UInt8} {c1 c2 : Nat} (r1 : Row W a1 l1 c1) (r2 : Row W a2 l2 c2) (hl : l1.length ≤ 300000000) (hl2 : l2.length ≤ 300000000) :
    Calls Tryz.prog 110 #[.slice (some ⟨W.heap.size, 0, none⟩) 2 2] (W.alloc (.cells #[.slice a1 l1.length c1, .slice a2 l2.length c2] t)) fun e w' => ∃ a cp, e = .returned (.slice a (l1 ++ l2).length cp) ∧ Mine W.heap.size w' a (l1 ++ l2) cp ∧ Below W.heap.size W w' := by
  have hP := parts_new W [.slice a1 l1.length c1, .slice a2 l2.length c2] [l1, l2] t rfl (by
    intro i v l hv hl
    match i with
    | 0 => simp at hv hl; subst hv hl; exact holds_of_row r1
    | 1 => simp at hv hl; subst hv hl; exact holds_of_row r2
    | i + 2 => simp at hv)
  refine (cat_calls _ _ _ 2 _ _ hP (by simp) (by simp; omega) (by simp)).mono ?_
  rintro e w' ⟨a, cp, rfl, hm, hb⟩
  simp only [List.flatten_cons, List.flatten_nil, List.append_nil] at hm ⊢
  exact ⟨a, cp, rfl, hm.low (by simp), ((Below.refl _ _).alloc (Nat.le_refl _) _).trans (hb.mono (by simp))⟩

end Go.Proofs.YtlholdllibghbaaGreat

/- Numbers and their rows, as plain functions. No condition. -/
namespace Go.Cit

def dv : Nat → UInt64 → UInt64
  | 0, x => x
  | k + 1, x => qDiv (dv k x) (qI 256)
def rowB (x : UInt64) : Nat → List UInt8
  | 0 => []
  | k + 1 => bOfQ (dv k x) :: rowB x k
theorem rowB_length (x : UInt64) : ∀ n, (rowB x n).length = n
  | 0 => rfl
  | n + 1 => by rw [rowB, List.length_cons, rowB_length x n]

def numB (l : List UInt8) : UInt64 := l.foldl (fun x d => qAdd (qMul (qI 256) x) (qOfB d)) (qI 0)

/-! The two numbers are one. -/
def stepF (x : UInt64) (d : UInt8) : UInt64 := qAdd (qMul (qI 256) x) (qOfB d)
end Go.Cit

/- words.Row, words.Number, words.load, Load32, Load64, Put32, Put64: walked. -/
namespace Go.Proofs.YtlholdllibghbaaGreat
open Go Go.RowKit Go.Cit

theorem zeros_rowB (x : UInt64) (n k : Nat) (h : k < n) : (List.replicate (n - k) 0 ++ rowB x k).set (n - k - 1) (bOfQ (dv k x)) = List.replicate (n - (k + 1)) 0 ++ rowB x (k + 1) := by
  obtain ⟨m, hm⟩ : ∃ m, n - k = m + 1 := ⟨n - k - 1, by omega⟩
  rw [hm, show n - (k + 1) = m from by omega, Nat.add_sub_cancel, List.replicate_succ', List.append_assoc, List.set_append_right _ _ (by simp)]
  simp [rowB]

set_option maxHeartbeats 1000000 in
theorem row_calls (w : World) (x : UInt64) (n : Nat) (h1 : 1 ≤ n) (h8 : n ≤ 8) :
    Calls Tryz.prog 221 #[vq x, .int .i64 n] w fun e w' => ∃ a c, e = .returned (.slice a n c) ∧ Own 5 w.heap.size w' a (rowB x n) c ∧ Below w.heap.size w w' := by
  have t1 : decide ((n : Int) < 1) = false := by simp; omega
  have t2 : decide (8 < (n : Int)) = false := by simp; omega
  go_enter Tryz.func221, Tryz.ntmps221
  go_wp2_with (refine wp_make_bytes bt (.tmp 12) (.tmp 12) rfl rfl n .i64 .i64 rfl rfl rfl (by omega) ?_; intro w1 hown hgr hsz)
  go_loopw [0, 1] (fun y i wr => ∃ (k : Nat) (l : List UInt8), Hid (l = List.replicate (n - k) 0 ++ rowB x k) ∧ Hid (l.length = n) ∧ k ≤ n ∧ i = .int .i64 ((n : Int) - k - 1) ∧ y = vq (dv k x) ∧ Own 5 w.heap.size wr (some ⟨w.heap.size, 0, none⟩) l n ∧ Below w.heap.size w wr) (fun _ i _ => (intOf i + 1).toNat)
  case atStart => exact ⟨0, List.replicate n 0, by simp [Hid, rowB], by simp [Hid], Nat.zero_le _, by go_num, rfl, hown, grown_below hgr (Nat.le_refl _) (by simp)⟩
  case round =>
    clear hown hgr hsz
    obtain ⟨k, l, HX, HL, hk, rfl, rfl, hown, hb⟩ := hrel
    by_cases hlt : k < n
    · have hi : n - k - 1 < l.length := by rw [HL.out]; omega
      have i0 := hown.isRow.index bt.slice bt.sz (n - k - 1) hi
      have e0 := hown.isRow.cell (n - k - 1) hi
      have f0 := hown.frozen (n - k - 1) hi
      have ei : ((n : Int) - k - 1) = ((n - k - 1 : Nat) : Int) := by omega
      rw [HL.out, ← ei] at i0
      have hst := hown.stored (n - k - 1) hi (bOfQ (dv k x))
      clear ei
      have HST := Lib.hid hst
      clear hst
      go_wp2
      go_roundw
      case rel =>
        exact ⟨k + 1, l.set (n - k - 1) (bOfQ (dv k x)), by rw [Hid, HX.out]; exact zeros_rowB x n k hlt, by rw [Hid, List.length_set]; exact HL.out, by omega, by go_num, rfl, HST.out.1, hb.grown HST.out.2 hb.size (fun j hj => (hown.blk_ge hj).1)⟩
      case measure => simp [intOf]; omega
    · have hk2 : k = n := by omega
      subst hk2
      have HX2 : Hid (l = rowB x k) := by rw [Hid, HX.out]; simp
      clear HX
      go_wp2
      go_ret
      refine ⟨_, _, rfl, ?_, hb⟩
      rw [← HX2.out]; exact hown

end Go.Proofs.YtlholdllibghbaaGreat

