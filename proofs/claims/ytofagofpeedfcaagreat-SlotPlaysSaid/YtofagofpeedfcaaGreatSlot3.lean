/- Chapter 15: what a write into a slot does, piece by piece; plain. -/
import Derived.Test.YtofagofpeedfcaaGreatSlot2
namespace Go.Proofs.YtofagofpeedfcaaGreat
open Go Go.RowKit Go.Cit

/-- A disk, where a block has turned that is none of its, or holds no cells. -/
theorem DiskAt.keep {w w' : World} {p : Pl} {D : Dk} {row : Option Nat} (h : DiskAt w p D) (hg : w.grownBy w' row) (hr : ∀ r, row = some r → p.Off r ∧ (p.x r ∨ ∃ o : Obj, w.heap[r]? = some o ∧ o.isCells = false)) : DiskAt w' p D := by
  obtain ⟨a, c, h1, h2, h3⟩ := h.box
  have hs := Save.grown hg
  have lt : ∀ {k : Nat} {o : Obj}, w.heap[k]? = some o → k < w.heap.size := fun e => (Array.getElem?_eq_some_iff.1 e).1
  have off : ∀ k, ¬ p.Off k → some k ≠ row := fun k hk e => hk (hr k e.symm).1
  refine ⟨⟨a, c, (hs.block _ (lt h1) (off _ (fun e => e.1 rfl))).trans h1, ?_, fun g hg => ⟨(h3 g hg).1, (h3 g hg).2.1, Nat.lt_of_lt_of_le (h3 g hg).2.2 hs.size⟩⟩, (hs.block _ (lt h.sec) (off _ (fun e => e.2.1 rfl))).trans h.sec, h.map.save hs (off _ (fun e => e.2.2 rfl)), h.ne1, h.ne2, h.ne3, fun k hk => Nat.lt_of_lt_of_le (h.xlt k hk) hs.size, h.ok⟩
  refine h2.save' hs (fun hne g e e2 => ?_)
  rcases (hr g e2.symm).2 with h4 | ⟨o, h4, h5⟩
  · exact (h3 g e).2.1 h4
  · obtain ⟨g2, off, e3⟩ := h2.spot hne
    rw [e3] at e h2
    have e4 : g2 = g := by simpa [Go.Cit.blk] using e
    subst e4
    have h6 := h2.cell 0 (List.length_pos_iff.2 hne)
    rw [World.cell?] at h6
    simp only [ad] at h6
    rw [h4] at h6
    cases o <;> simp_all [Obj.isCells]

/-- A row, a part of which is written over. -/
def patchL (r : List UInt8) (lo : Nat) (m : List UInt8) : List UInt8 := r.take lo ++ m ++ r.drop (lo + m.length)
theorem patch_len {r m : List UInt8} {lo : Nat} (h : lo + m.length ≤ r.length) : (patchL r lo m).length = r.length := by
  unfold patchL; simp; omega
/-- What a piece comes to. -/
def stepE (D : Dk) (x : Pc) : Int := if readE D x.sec ≠ 0 then readE D x.sec else writeE D x.sec 64
def stepT (D : Dk) (m : List UInt8) (x : Pc) : Dk := if readE D x.sec ≠ 0 then D else writeT D x.sec (patchL (getR D x.sec) x.lo (m.take (x.hi - x.lo)))
/-- All pieces, till one fails. -/
def wrP : Dk → List UInt8 → List Pc → Dk × Int
  | D, _, [] => (D, 0)
  | D, m, x :: xs => if stepE D x ≠ 0 then (stepT D m x, stepE D x) else wrP (stepT D m x) (m.drop (x.hi - x.lo)) xs
/-- Behind the first pieces, none of which failed, a write goes on so. -/
def Cont (D : Dk) (m : List UInt8) (pre : List Pc) (D' : Dk) (m' : List UInt8) : Prop := ∀ xs, wrP D m (pre ++ xs) = wrP D' m' xs
theorem Cont.nil (D : Dk) (m : List UInt8) : Cont D m [] D m := fun _ => rfl
theorem Cont.add {D D' : Dk} {m m' : List UInt8} {pre : List Pc} (h : Cont D m pre D' m') (x : Pc) (h0 : stepE D' x = 0) : Cont D m (pre ++ [x]) (stepT D' m' x) (m'.drop (x.hi - x.lo)) := fun xs => by
  rw [List.append_assoc, h, List.singleton_append, wrP, if_neg (by rw [h0]; decide)]
theorem Cont.all {D D' : Dk} {m m' : List UInt8} {xs : List Pc} (h : Cont D m xs D' m') : wrP D m xs = (D', 0) := by
  have := h []
  rwa [List.append_nil] at this
theorem Cont.stop {D D' : Dk} {m m' : List UInt8} {pre : List Pc} (h : Cont D m pre D' m') (x : Pc) (h0 : stepE D' x ≠ 0) (xs : List Pc) : wrP D m (pre ++ [x] ++ xs) = (stepT D' m' x, stepE D' x) := by
  rw [List.append_assoc, h, List.singleton_append, wrP, if_pos h0]
theorem Leads.append {base en : Nat} : ∀ {xs ys : List Pc} {a b c : Nat}, Leads base en a xs b → Leads base en b ys c → Leads base en a (xs ++ ys) c
  | [], _, a, b, _, h, k => by
    obtain rfl : a = b := h
    exact k
  | _ :: _, _, _, _, _, ⟨h1, h2, h3⟩, k => ⟨h1, h2, h3.append k⟩
theorem Leads.exist (base en : Nat) : ∀ (k b : Nat), en - b ≤ k → b ≤ en → ∃ xs, Leads base en b xs en
  | 0, b, h, h2 => ⟨[], show b = en by omega⟩
  | k + 1, b, h, h2 => by
    by_cases e : b < en
    · have h3 := pcNext_le e
      obtain ⟨xs, hx⟩ := Leads.exist base en k (pcNext en b) (by omega) h3.2
      exact ⟨pcAt base en b :: xs, e, rfl, hx⟩
    · exact ⟨[], show b = en by omega⟩
theorem Leads.det {base en : Nat} : ∀ {xs ys : List Pc} {a : Nat}, Leads base en a xs en → Leads base en a ys en → xs = ys
  | [], [], _, _, _ => rfl
  | [], _ :: _, a, h, k => by
    have h1 : a = en := h
    have := k.1
    omega
  | _ :: _, [], a, h, k => by
    have h1 : a = en := k
    have := h.1
    omega
  | x :: xs, y :: ys, a, ⟨_, h2, h3⟩, ⟨_, k2, k3⟩ => by rw [h2, k2, h3.det k3]
/-- The pieces of bytes. -/
theorem pc_in {base en b : Nat} (h : b < en) : (pcAt base en b).lo < (pcAt base en b).hi ∧ (pcAt base en b).hi ≤ 64 ∧ (pcAt base en b).hi - (pcAt base en b).lo ≤ en - b ∧ pcNext en b = b + ((pcAt base en b).hi - (pcAt base en b).lo) := by
  show b % 64 < min 64 (b % 64 + en - b) ∧ min 64 (b % 64 + en - b) ≤ 64 ∧ min 64 (b % 64 + en - b) - b % 64 ≤ en - b ∧ b + (min 64 (b % 64 + en - b) - b % 64) = b + (min 64 (b % 64 + en - b) - b % 64)
  omega
theorem stepT_ok {D : Dk} (h : D.Ok) (m : List UInt8) (x : Pc) : (stepT D m x).Ok := by
  unfold stepT
  split
  · exact h
  · exact writeT_ok h _ _
theorem writeT_len (D : Dk) (h : D.Ok) (i : Int) (l : List UInt8) : (writeT D i l).S.length = D.S.length := by
  unfold writeT
  split
  · rfl
  · split
    · exact (spillK_ok _ D h _).1
    · rfl
theorem stepT_len {D : Dk} (h : D.Ok) (m : List UInt8) (x : Pc) : (stepT D m x).S.length = D.S.length := by
  unfold stepT
  split
  · rfl
  · exact writeT_len D h _ _
end Go.Proofs.YtofagofpeedfcaaGreat
