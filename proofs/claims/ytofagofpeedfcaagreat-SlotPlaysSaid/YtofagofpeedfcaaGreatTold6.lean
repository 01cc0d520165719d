/- Chapter 6's law: sector, told: walked. -/
import Derived.Test.YtofagofpeedfcaaGreatRDisk5
import Derived.Test.YtofagofpeedfcaaGreatAct6
namespace Go.Proofs.YtofagofpeedfcaaGreat
open Go Go.RowKit Go.Cit

/-- What an act writes. -/
def secL (l : List UInt8) : List UInt8 := if l.length = 1 then List.replicate 64 (l.getD 0 0) else l
/-- What is told of a disk and the reference's. -/
structure Pair (w : World) (p : Pl) (q : Rl) (D : Dk) : Prop where
  d : DiskAt w p D
  r : RefAt w q D
  hx : ∀ k, (k = q.b ∨ k = q.lb) → p.x k
  lt : p.b < q.B ∧ p.sb < q.B ∧ p.mb < q.B
theorem Pair.stay {w w' : World} {p : Pl} {r : Rl} {D : Dk} (h : Pair w p r D) (hb : Below w.heap.size w w') : Pair w' p r D := ⟨h.d.stay hb, h.r.stay hb, h.hx, h.lt⟩
theorem RefAt.low {w : World} {r : Rl} {D : Dk} (h : RefAt w r D) : r.B ≤ r.b ∧ r.B ≤ r.lb := by
  obtain ⟨L, c, sa, sc, h⟩ := h
  exact ⟨h.bB, h.lB⟩
/-- Behind an operation of the disk. -/
theorem Pair.ref {w w' : World} {p : Pl} {r : Rl} {D : Dk} (h : Pair w p r D) (hs : Save p.Off w w') : RefAt w' r D :=
  h.r.save hs (fun k hk => ⟨by have := h.lt.1; omega, by have := h.lt.2.1; omega, by have := h.lt.2.2; omega⟩)
/-- Behind the reference's, too. -/
theorem Pair.both {w w1 w2 : World} {p : Pl} {r : Rl} {D D' : Dk} (h : Pair w p r D) (hd : DiskAt w1 p D') (hr : RefAt w2 r D') (hs : Save r.Off w1 w2) : Pair w2 p r D' := by
  refine ⟨hd.saveX hs (fun k hk => ?_) (fun k hk => ⟨fun e => hk (h.hx k (.inl e)), fun e => hk (h.hx k (.inr e))⟩), hr, h.hx, h.lt⟩
  have hl := h.r.low
  have h1 := h.lt
  refine ⟨fun e => hk ⟨?_, ?_, ?_⟩, fun e => hk ⟨?_, ?_, ?_⟩⟩ <;> omega
theorem RefAt.cells {w : World} {r : Rl} {D : Dk} (h : RefAt w r D) : (∃ c, w.cell? ⟨r.b, 0, none⟩ = some (.slice (some ⟨r.lb, 0, none⟩) D.S.length c)) ∧ w.cell? ⟨r.b, 1, none⟩ = some (.bool (!D.up)) := by
  obtain ⟨L, c, sa, sc, h⟩ := h
  obtain ⟨h0, h1, _⟩ := h.cells
  rw [h.len] at h0
  exact ⟨⟨c, h0⟩, h1⟩
theorem RefAt.flushed {w : World} {r : Rl} {D : Dk} (h : RefAt w r D) (k : Nat) (hk : k < D.S.length) : ∃ a c, w.cell? ⟨r.lb, k * 2, none⟩ = some (.slice a (D.S[k]).length c) ∧ Row w a D.S[k] c := by
  obtain ⟨L, c, sa, sc, h⟩ := h
  have hkL : k < L.length := by rw [h.len]; exact hk
  have e : D.S[k] = L[k].f := by
    have := h.hS
    have h2 : D.S[k]? = (L.map (·.f))[k]? := by rw [this]
    rw [List.getElem?_eq_getElem hk, List.getElem?_map, List.getElem?_eq_getElem hkL] at h2
    exact Option.some.inj h2
  rw [e]
  exact ⟨_, _, (h.elem k hkL).1, (h.rows _ (List.getElem_mem hkL)).rf⟩
end Go.Proofs.YtofagofpeedfcaaGreat
