/- DiskWhole's plain part: what a crash leaves of each sector; two slices of rows that grow side by side. -/
import Derived.Test.YtofagofpeedfcaaRws
import Derived.Test.YtofagofpeedfcaaGpMore
namespace Go.Proofs.Ytofagofpeedfcaa
open Go Go.RowKit Go.Cit

theorem spillK_get (q : Nat → Bool) (D : Dk) (k : Nat) {i : Nat} (h : i ∉ dirtyL D.C) : (spillK q D k)[i]? = D.S[i]? := by
  unfold spillK
  have hm : ∀ x ∈ ((dirtyL D.C).take k).zipIdx, x.1 ≠ i := fun x hx e => by
    have h1 := List.mem_zipIdx hx
    exact h (by rw [← e]; exact List.mem_of_mem_take (by rw [h1.2.2]; exact List.getElem_mem _))
  generalize ((dirtyL D.C).take k).zipIdx = Z at hm
  have : ∀ S : List (List UInt8), (Z.foldl (fun S x => if q x.2 then S.set x.1 ((D.C[x.1]?.join).getD []) else S) S)[i]? = S[i]? := by
    induction Z with
    | nil => intro S; rfl
    | cons x Z ih =>
      intro S
      rw [List.foldl_cons, ih (fun y hy => hm y (List.mem_cons_of_mem _ hy))]
      split
      · rw [List.getElem?_set_ne (hm x (List.mem_cons_self ..))]
      · rfl
  exact this D.S
/-- What is spilled of one sector. -/
theorem spillK_at (q : Nat → Bool) (D : Dk) (h : D.Ok) {i j : Nat} {r : List UInt8} (hj : (dirtyL D.C)[j]? = some i) (hr : D.C[i]? = some (some r)) : ∀ k, k ≤ (dirtyL D.C).length → (spillK q D k)[i]? = if j < k ∧ q j = true then some r else D.S[i]?
  | 0, _ => by rw [spillK_zero, if_neg (by omega)]
  | k + 1, hk => by
    have ih := spillK_at q D h hj hr k (by omega)
    have hk' : k < (dirtyL D.C).length := hk
    have hm := mem_dirtyL.1 (List.getElem_mem hk')
    obtain ⟨r2, hr2⟩ := hm
    rw [spillK_succ q D hk' rfl hr2]
    have hjl : j < (dirtyL D.C).length := (List.getElem?_eq_some_iff.1 hj).1
    have hji : (dirtyL D.C)[j] = i := (List.getElem?_eq_some_iff.1 hj).2
    by_cases e : k = j
    · subst e
      rw [hji] at hr2
      have er : r2 = r := by rw [hr] at hr2; exact (Option.some.inj (Option.some.inj hr2)).symm
      subst er
      rw [hji]
      cases hq : q k with
      | true =>
        rw [if_pos rfl, if_pos ⟨by omega, rfl⟩, List.getElem?_set_self]
        rw [(spillK_ok q D h k).1, ← h.len]
        exact (List.getElem?_eq_some_iff.1 hr).1
      | false =>
        rw [if_neg (by decide), if_neg (by simp)]
        rw [ih, if_neg (by omega)]
    · have hne : (dirtyL D.C)[k] ≠ i := fun e2 => by
        have hp := List.pairwise_iff_getElem.1 (dirtyL_nodup D.C)
        rcases Nat.lt_or_gt_of_ne e with h1 | h1
        · exact hp k j hk' hjl h1 (e2.trans hji.symm)
        · exact hp j k hjl hk' h1 (hji.trans e2.symm)
      have e3 : (if j < k + 1 ∧ q j = true then some r else D.S[i]?) = if j < k ∧ q j = true then some r else D.S[i]? := by
        by_cases e4 : q j = true
        · by_cases e5 : j < k
          · rw [if_pos ⟨by omega, e4⟩, if_pos ⟨e5, e4⟩]
          · rw [if_neg (by omega), if_neg (by omega)]
        · rw [if_neg (fun e6 => e4 e6.2), if_neg (fun e6 => e4 e6.2)]
      rw [e3, ← ih]
      split
      · rw [List.getElem?_set_ne hne]
      · rfl
/-- Where a number stands among the first m of a list: the last place, or none. -/
def AtM (N : List Nat) (i m : Nat) : Option Nat → Prop
  | none => ∀ j, j < m → N[j]? ≠ some i
  | some j => j < m ∧ N[j]? = some i
def atI : Option Nat → Int
  | none => -1
  | some j => (j : Int)
theorem AtM.zero (N : List Nat) (i : Nat) : AtM N i 0 none := fun _ h => absurd h (by omega)
theorem AtM.hit {N : List Nat} {i m : Nat} (h : N[m]? = some i) : AtM N i (m + 1) (some m) := ⟨by omega, h⟩
theorem AtM.miss {N : List Nat} {i m : Nat} {t : Option Nat} (h : AtM N i m t) (hn : N[m]? ≠ some i) : AtM N i (m + 1) t := by
  cases t with
  | none =>
    intro j hj
    rcases Nat.lt_or_ge j m with h1 | h1
    · exact h j h1
    · obtain rfl : j = m := by omega
      exact hn
  | some j => exact ⟨by have := h.1; omega, h.2⟩
/-- What a crash leaves. -/
def stayQ (l : List UInt8) : Option Nat → Bool
  | none => false
  | some j => bitQ l j
theorem crash_at {D : Dk} (h : D.Ok) (l : List UInt8) {i : Nat} (hi : i < D.S.length) {t : Option Nat} (ht : AtM (dirtyL D.C) i (dirtyL D.C).length t) :
    flushedR (fallD l D) i = (if stayQ l t = true then getR D i else flushedR D i) ∧ (t = none → flushedR D i = getR D i) := by
  have e1 : (fallD l D).S.length = D.S.length := (spillK_ok _ D h _).1
  have e2 : flushedR (fallD l D) i = ((spillK (bitQ l) D (dirtyL D.C).length)[i]?).getD [] := by
    rw [flushedR, e1, if_pos (by omega), Int.toNat_natCast]; rfl
  have e3 : flushedR D i = (D.S[i]?).getD [] := by rw [flushedR, if_pos (by omega), Int.toNat_natCast]
  cases t with
  | none =>
    have hn : i ∉ dirtyL D.C := fun hm => by
      obtain ⟨j, hj, e⟩ := List.mem_iff_getElem.1 hm
      exact ht j hj (by rw [List.getElem?_eq_getElem hj, e])
    refine ⟨?_, fun _ => ?_⟩
    · rw [e2, e3, spillK_get _ _ _ hn, stayQ, if_neg (by decide)]
    · rw [e3, getR]
      have : D.C[i]?.join = none := by
        cases hc : D.C[i]? with
        | none => rfl
        | some o =>
          cases o with
          | none => rfl
          | some r => exact absurd (mem_dirtyL.2 ⟨r, hc⟩) hn
      rw [this]; rfl
  | some j =>
    refine ⟨?_, fun e => by cases e⟩
    obtain ⟨r, hr⟩ := mem_dirtyL.1 (List.mem_of_getElem? ht.2)
    rw [e2, e3, spillK_at _ D h ht.2 hr _ (Nat.le_refl _), stayQ, getR, hr]
    by_cases hq : bitQ l j = true
    · rw [if_pos ⟨ht.1, hq⟩, if_pos hq]; rfl
    · rw [if_neg (fun e => hq e.2), if_neg hq]
/-- A row that lies below. -/
theorem row_off {w : World} {a : Option Addr} {l : List UInt8} {c : Nat} (hrow : Row w a l c) {p : Pl} (hp : ∀ k, k < w.heap.size → p.Off k) : l ≠ [] → ∀ g, Go.Cit.blk a = some g → p.Off g := fun hne g hg => by
  obtain ⟨g2, off, e2⟩ := hrow.spot hne
  rw [e2] at hg hrow
  have e3 := blk_eq hg
  have := hrow.blk (i := 0) (List.length_pos_iff.2 hne)
  simp [ad] at this
  exact hp g (by omega)
theorem flushed_row (w : World) (p : Pl) (D : Dk) (h : DiskAt w p D) (i : Int) {X : List UInt8} (hX : flushedR D i = X) : Calls Try.prog 22 #[.pointer (some ⟨p.b, 0, none⟩), .int .i64 i] w fun e w' =>
    ∃ a c, e = .returned (.slice a X.length c) ∧ Row w' a X c ∧ Below w.heap.size w w' := by
  subst hX
  exact (flushed_calls w p D h i).mono fun e w' ⟨a, c, h1, h2, h3⟩ => ⟨a, c, h1, h2.isRow, h3⟩
theorem wsame_self (w : World) (a0 a1 : Option Addr) (l : List UInt8) (c0 c1 : Nat) (h0 : Row w a0 l c0) (h1 : Row w a1 l c1) :
    Calls Try.prog 30 #[.slice a0 l.length c0, .slice a1 l.length c1] w fun e w' => e = .returned (.bool true) ∧ Below w.heap.size w w' :=
  (wsame_calls w a0 a1 l l c0 c1 h0 h1).mono fun e w' ⟨h2, h3⟩ => ⟨by rw [h2, ordB_self], by rw [h3]; exact Below.refl _ _⟩
/-- A row, or a number, as a drawn region tells it. -/
def tR (L : List UInt8) (v : Value) (w : World) : Prop := ∃ a c, v = .slice a L.length c ∧ Row w a L c
theorem tR_stay {L : List UInt8} {v : Value} {w1 w2 : World} (hb : Below w1.heap.size w1 w2) (h : tR L v w1) : tR L v w2 := by
  obtain ⟨a, c, h1, h2⟩ := h
  exact ⟨a, c, h1, h2.stay hb⟩

/-- Two slices of rows, side by side. -/
structure Rws2 (B : Nat) (w : World) (a : Option Addr) (L : List Rs) (c : Nat) (a2 : Option Addr) (L2 : List Rs) (c2 : Nat) : Prop where
  x : Rws B w a L c
  y : Rws B w a2 L2 c2
  n1 : ∀ g, Go.Cit.blk a = some g → Go.Cit.blk a2 ≠ some g
  n2 : ∀ s ∈ L2, ∀ g, Go.Cit.blk s.a = some g → Go.Cit.blk a ≠ some g
  n3 : ∀ s ∈ L, ∀ g, Go.Cit.blk s.a = some g → Go.Cit.blk a2 ≠ some g
theorem Rws2.nil (B : Nat) (w : World) : Rws2 B w none [] 0 none [] 0 := ⟨Rws.nil _ _, Rws.nil _ _, fun _ h => by simp [Go.Cit.blk] at h, fun s hs => by simp at hs, fun s hs => by simp at hs⟩
theorem Rws2.swap {B : Nat} {w : World} {a a2 : Option Addr} {L L2 : List Rs} {c c2 : Nat} (h : Rws2 B w a L c a2 L2 c2) : Rws2 B w a2 L2 c2 a L c := ⟨h.y, h.x, fun g h1 h2 => h.n1 g h2 h1, h.n3, h.n2⟩
theorem Rws2.save {B : Nat} {S : Nat → Prop} {w w' : World} {a a2 : Option Addr} {L L2 : List Rs} {c c2 : Nat} (h : Rws2 B w a L c a2 L2 c2) (hs : Save S w w') (hS : ∀ k, B ≤ k → S k) : Rws2 B w' a L c a2 L2 c2 :=
  ⟨h.x.save hs hS, h.y.save hs hS, h.n1, h.n2, h.n3⟩
theorem Rws2.stay {B : Nat} {w w' : World} {a a2 : Option Addr} {L L2 : List Rs} {c c2 : Nat} (h : Rws2 B w a L c a2 L2 c2) (hb : Below w.heap.size w w') : Rws2 B w' a L c a2 L2 c2 := ⟨h.x.stay hb, h.y.stay hb, h.n1, h.n2, h.n3⟩
theorem Rws2.app {B : Nat} {w w' : World} {a a' a2 : Option Addr} {L L2 : List Rs} {c c' c2 : Nat} {s : Rs} (h : Rws2 B w a L c a2 L2 c2) (hr : Row w s.a s.l s.c) (hb : ∀ g, Go.Cit.blk s.a = some g → B ≤ g ∧ g < w.heap.size ∧ Go.Cit.blk a ≠ some g ∧ Go.Cit.blk a2 ≠ some g)
    (ho : VOwn cRs 1 22 B w' a' (L ++ [s]) c') (hg : w.grownBy w' (Go.Cit.blk a)) (hn : Near w.heap.size a a') : Rws2 B w' a' (L ++ [s]) c' a2 L2 c2 := by
  refine ⟨h.x.app hr (fun g hg => ⟨(hb g hg).1, (hb g hg).2.1, (hb g hg).2.2.1⟩) ho hg hn, ⟨h.y.own.save (Save.grown hg) (fun g h1 h2 => h.n1 g h2.symm h1), fun x hx => ⟨(h.y.rows x hx).1.save (Save.grown hg) (fun g h1 h2 => h.n2 x hx g h1 h2.symm), fun g h1 => ?_⟩⟩, fun g h1 h2 => ?_, fun x hx g h1 h2 => ?_, fun x hx g h1 => ?_⟩
  · have := (h.y.rows x hx).2 g h1
    exact ⟨this.1, Nat.lt_of_lt_of_le this.2.1 hg.size, this.2.2⟩
  · rcases hn g h1 with h3 | h3
    · exact h.n1 g h3 h2
    · have := (h.y.own.blk_ge h2).2; omega
  · rcases hn g h2 with h3 | h3
    · exact h.n2 x hx g h1 h3
    · have := ((h.y.rows x hx).2 g h1).2.1; omega
  · rcases List.mem_append.1 hx with hx | hx
    · exact h.n3 x hx g h1
    · rw [List.mem_singleton.1 hx] at h1; exact (hb g h1).2.2.2
/-- A fresh row is none of them. -/
theorem Rws2.fresh {B : Nat} {w w' : World} {a a2 b : Option Addr} {L L2 : List Rs} {c c2 d : Nat} {l : List UInt8} (h : Rws2 B w a L c a2 L2 c2) (hr : Row w' b l d) (hl : l ≠ []) (hn : ∀ g, Go.Cit.blk b = some g → w.heap.size ≤ g) (hB : B ≤ w.heap.size) :
    ∀ g, Go.Cit.blk b = some g → B ≤ g ∧ g < w'.heap.size ∧ Go.Cit.blk a ≠ some g ∧ Go.Cit.blk a2 ≠ some g := fun g hg => by
  have h1 := hn g hg
  obtain ⟨g2, off, e2⟩ := hr.spot hl
  rw [e2] at hg hr
  have e3 := blk_eq hg
  have := hr.blk (i := 0) (List.length_pos_iff.2 hl)
  simp [ad] at this
  exact ⟨by omega, by omega, fun e4 => by have := (h.x.own.blk_ge e4).2; omega, fun e4 => by have := (h.y.own.blk_ge e4).2; omega⟩
theorem rows_at {M : List Rs} {n : Nat} {f : Nat → List UInt8} (h : M.map (·.l) = (List.range n).map f) {k : Nat} (hk : k < n) (hM : k < M.length) : (M[k]).l = f k := by
  have h2 : (M.map (·.l))[k]? = ((List.range n).map f)[k]? := by rw [h]
  rw [List.getElem?_map, List.getElem?_eq_getElem hM, List.getElem?_map, List.getElem?_range hk] at h2
  exact Option.some.inj h2
theorem rows_len {M : List Rs} {n : Nat} {f : Nat → List UInt8} (h : M.map (·.l) = (List.range n).map f) : M.length = n := by
  have := congrArg List.length h; rw [List.length_map, List.length_map, List.length_range] at this; exact this
theorem rows_add {M : List Rs} {q : Nat} {f : Nat → List UInt8} (h : M.map (·.l) = (List.range q).map f) {s : Rs} (hs : s.l = f q) : (M ++ [s]).map (·.l) = (List.range (q + 1)).map f := by
  rw [List.map_append, h, List.range_succ, List.map_append, List.map_singleton, hs, List.map_singleton]
theorem dirty_none (n : Nat) : dirtyI (List.replicate n (none : Option (List UInt8))) = [] := by
  unfold dirtyI dirtyL
  rw [List.filter_eq_nil_iff.2 (fun i _ => by rw [List.getElem?_replicate]; split <;> simp)]; rfl
theorem bit_modW (x : UInt8) (k : Nat) : ((wrap64 (x.toNat : Int) / 2 ^ k).tmod 2 == 1) = decide (x.toNat / 2 ^ k % 2 = 1) := by
  have hx := b_lt x
  have e0 : wrap64 (x.toNat : Int) = (x.toNat : Int) := by unfold wrap64; omega
  have e : ((x.toNat : Int) / 2 ^ k) = ((x.toNat / 2 ^ k : Nat) : Int) := by rw [Int.natCast_ediv, Int.natCast_pow]; rfl
  rw [e0, e, Int.tmod_eq_emod_of_nonneg (Int.natCast_nonneg _)]
  generalize x.toNat / 2 ^ k = y
  rw [Bool.eq_iff_iff, beq_iff_eq, decide_eq_true_iff]
  omega
end Go.Proofs.Ytofagofpeedfcaa
