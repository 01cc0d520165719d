/- Chapter 6's acts: opened, indexed; Great: walked. -/
import Derived.Test.YtofagofpeedfcaaGreatDisk6
import Derived.Test.YtofagofpeedfcaaGreatGc
namespace Go.Proofs.YtofagofpeedfcaaGreat
open Go Go.RowKit Go.Cit

structure Ac where
  kind : Int
  n : Int
  a : Option Addr
  l : List UInt8
  c : Nat
abbrev Ac.cs (x : Ac) : List Value := [.int .i64 x.kind, .int .i64 x.n, .slice x.a x.l.length x.c]
structure Ac.At (x : Ac) (w : World) : Prop where
  row : Row w x.a x.l x.c
  hk : -9223372036854775808 ≤ x.kind ∧ x.kind ≤ 9223372036854775807
  hn : -9223372036854775808 ≤ x.n ∧ x.n ≤ 9223372036854775807
  lr : x.l.length ≤ 140737488351232
theorem Ac.At.stay {x : Ac} {w w' : World} (h : x.At w) (hb : Below w.heap.size w w') : x.At w' := ⟨h.row.stay hb, h.hk, h.hn, h.lr⟩
def shAc : Sh false := .st (.cons .i64 (.cons .i64 (.cons .bytes .nil)))
def toAc (d : shAc.D) : Ac := ⟨d.1, d.2.1, d.2.2.1.a, d.2.2.1.l, d.2.2.1.c⟩
theorem toAc_cs (d : shAc.D) : shAc.enc d = (toAc d).cs := by
  obtain ⟨k, n, ⟨a, c, l⟩, ⟨⟩⟩ := d
  rfl
theorem toAc_at {w : World} {d : shAc.D} (h : shAc.ok w d) : (toAc d).At w := by
  obtain ⟨k, n, ⟨a, c, l⟩, ⟨⟩⟩ := d
  obtain ⟨h1, h2, h3, _⟩ := h
  exact ⟨h3.1, h1, h2, Nat.le_trans h3.1.le h3.2⟩
/-- A slice of acts. -/
structure Acts (w : World) (a : Option Addr) (L : List Ac) (c : Nat) : Prop where
  vec : Vec Ac.cs 3 w a L c
  at_ : ∀ x ∈ L, x.At w
theorem Acts.stay {w w' : World} {a : Option Addr} {L : List Ac} {c : Nat} (h : Acts w a L c) (hb : Below w.heap.size w w') : Acts w' a L c := ⟨h.vec.stay (fun _ => rfl) hb, fun x hx => (h.at_ x hx).stay hb⟩
theorem acts_of {w : World} {d : Sl shAc.D} (h : (Sh.slice shAc).ok w d) : Acts w d.a (d.l.map toAc) d.c := by
  obtain ⟨h1, h2, h3, h4, h5⟩ := h
  refine ⟨⟨by rw [List.length_map]; exact h1, by unfold maxLen; omega, h3, fun hne => h4 (by simpa using hne), fun i hi j hj => ?_⟩, fun x hx => ?_⟩
  · rw [List.length_map] at hi
    have := (h5 i hi).1 j hj
    rw [List.getElem_map, ← toAc_cs]; exact this
  · obtain ⟨d', hd, rfl⟩ := List.mem_map.1 hx
    obtain ⟨i, hi, rfl⟩ := List.mem_iff_getElem.1 hd
    exact toAc_at (h5 i hi).2
theorem Acts.cells {w : World} {a : Option Addr} {L : List Ac} {c : Nat} (h : Acts w a L c) (i : Nat) (hi : i < L.length) :
    w.cell? (ad a (i * 3)) = some (.int .i64 L[i].kind) ∧ w.cell? ⟨(ad a (i * 3)).block, (ad a (i * 3)).off + 1, none⟩ = some (.int .i64 L[i].n) ∧ w.cell? ⟨(ad a (i * 3)).block, (ad a (i * 3)).off + 2, none⟩ = some (.slice L[i].a L[i].l.length L[i].c) := by
  obtain ⟨b, off, rfl⟩ := h.vec.spot (by intro h0; simp [h0] at hi)
  exact ⟨h.vec.cell i hi 0 (by decide), h.vec.cell i hi 1 (by decide), h.vec.cell i hi 2 (by decide)⟩
/-- What acts are worth. -/
def totA (L : List Ac) : Nat := (L.map fun x => x.l.length + 20).sum
theorem totA_take (L : List Ac) (k : Nat) (h : k < L.length) : totA (L.take (k + 1)) = totA (L.take k) + (L[k].l.length + 20) := by
  rw [totA, totA, List.take_succ_eq_append_getElem h, List.map_append, List.sum_append]; simp
theorem totA_le (L : List Ac) (k : Nat) : totA (L.take k) ≤ totA L := by
  have := congrArg totA (List.take_append_drop k L)
  simp only [totA, List.map_append, List.sum_append] at this ⊢
  omega
theorem totA_len (L : List Ac) : L.length * 20 ≤ totA L := by
  induction L with
  | nil => simp
  | cons f L ih => simp only [totA, List.map_cons, List.sum_cons, List.length_cons] at ih ⊢; omega
theorem totA_one (L : List Ac) (i : Nat) (h : i < L.length) : L[i].l.length ≤ totA L := by
  have h1 := totA_take L i h
  have h2 := totA_le L (i + 1)
  omega
end Go.Proofs.YtofagofpeedfcaaGreat
