/- A slice of rows that grows while its rows stay readable. -/
import Derived.Test.YtofagofpeedfcaaAwk06
namespace Go.Proofs.Ytofagofpeedfcaa
open Go Go.RowKit Go.Cit

structure Rs where
  a : Option Addr
  l : List UInt8
  c : Nat
abbrev cRs (s : Rs) : List Value := [.slice s.a s.l.length s.c]
theorem cRs_len : ∀ s, (cRs s).length = 1 := fun _ => rfl
theorem cRs_one : ∀ s, ∀ u ∈ cRs s, u.oneCell' = true := by
  intro s u hu
  obtain rfl : u = .slice s.a s.l.length s.c := by simpa using hu
  rfl
theorem etRs : ElemType Try.prog 55 22 1 24 (.slice none 0 0) := ⟨Try.underlying55, by kernel_rfl, fun w => by kernel_rfl, rfl, by decide, by decide⟩
structure Rws (B : Nat) (w : World) (a : Option Addr) (L : List Rs) (c : Nat) : Prop where
  own : VOwn cRs 1 22 B w a L c
  rows : ∀ s ∈ L, Row w s.a s.l s.c ∧ ∀ g, Go.Cit.blk s.a = some g → B ≤ g ∧ g < w.heap.size ∧ Go.Cit.blk a ≠ some g
theorem Rws.nil (B : Nat) (w : World) : Rws B w none [] 0 := ⟨VOwn.nil_ _ _ _ _ _, fun s hs => by simp at hs⟩
theorem Rws.save {B : Nat} {S : Nat → Prop} {w w' : World} {a : Option Addr} {L : List Rs} {c : Nat} (h : Rws B w a L c) (hs : Save S w w') (hS : ∀ k, B ≤ k → S k) : Rws B w' a L c :=
  ⟨h.own.save hs (fun g hg => hS g (h.own.blk_ge hg).1), fun s hs' => ⟨(h.rows s hs').1.save hs (fun g hg => hS g ((h.rows s hs').2 g hg).1), fun g hg => ⟨((h.rows s hs').2 g hg).1, Nat.lt_of_lt_of_le ((h.rows s hs').2 g hg).2.1 hs.size, ((h.rows s hs').2 g hg).2.2⟩⟩⟩
theorem Rws.stay {B : Nat} {w w' : World} {a : Option Addr} {L : List Rs} {c : Nat} (h : Rws B w a L c) (hb : Below w.heap.size w w') : Rws B w' a L c := h.save (S := fun _ => True) (Save.of hb) (fun _ _ => trivial)
/-- A row more. -/
theorem Rws.app {B : Nat} {w w' : World} {a a' : Option Addr} {L : List Rs} {c c' : Nat} {s : Rs} (h : Rws B w a L c) (hr : Row w s.a s.l s.c) (hb : ∀ g, Go.Cit.blk s.a = some g → B ≤ g ∧ g < w.heap.size ∧ Go.Cit.blk a ≠ some g)
    (ho : VOwn cRs 1 22 B w' a' (L ++ [s]) c') (hg : w.grownBy w' (Go.Cit.blk a)) (hn : Near w.heap.size a a') : Rws B w' a' (L ++ [s]) c' := by
  refine ⟨ho, fun x hx => ?_⟩
  have key : ∀ x : Rs, Row w x.a x.l x.c → (∀ g, Go.Cit.blk x.a = some g → B ≤ g ∧ g < w.heap.size ∧ Go.Cit.blk a ≠ some g) → Row w' x.a x.l x.c ∧ ∀ g, Go.Cit.blk x.a = some g → B ≤ g ∧ g < w'.heap.size ∧ Go.Cit.blk a' ≠ some g := fun x h1 h2 =>
    ⟨h1.save (Save.grown hg) (fun g e => fun e2 => (h2 g e).2.2 e2.symm), fun g e => ⟨(h2 g e).1, Nat.lt_of_lt_of_le (h2 g e).2.1 hg.size, fun e2 => by
      rcases hn g e2 with h3 | h3
      · exact (h2 g e).2.2 h3
      · have := (h2 g e).2.1; omega⟩⟩
  rcases List.mem_append.1 hx with hx | hx
  · exact key x (h.rows x hx).1 (h.rows x hx).2
  · rw [List.mem_singleton.1 hx]; exact key s hr hb
theorem Rws.below {B : Nat} {w w' : World} {a : Option Addr} {L : List Rs} {c : Nat} (h : Rws B w a L c) (hg : w.grownBy w' (Go.Cit.blk a)) (hB : B ≤ w.heap.size) : Below B w w' := h.own.grown hg hB

/-- The acts, one behind the other. -/
theorem actD_ok {D : Dk} (h : D.Ok) (x : Ac) (hl : x.l.length ≤ 6000) (hn : x.n ≤ 9223372036854775807) : (actD D x).Ok ∧ (actD D x).S.length = D.S.length := by
  have hsp : ∀ q D', D'.Ok → (spillD q D').Ok ∧ (spillD q D').S.length = D'.S.length := fun q D' h' => ⟨spillD_ok q D' h', (spillK_ok q D' h' _).1⟩
  have htk : (tickD D).Ok := h.same rfl rfl (by show D.left - 1 ≤ _; have := h.left; omega) h.stay
  unfold actD
  split
  · refine ⟨writeT_ok h _ _, ?_⟩
    unfold writeT
    split
    · rfl
    · split
      · exact (hsp _ _ h).2
      · rfl
  split
  · unfold flushT
    split
    · exact ⟨h, rfl⟩
    · split
      · exact ⟨fallD_ok _ _ h, (hsp _ _ h).2⟩
      · exact hsp _ _ htk
  split
  · unfold crashT
    split
    · exact ⟨h, rfl⟩
    · exact ⟨fallD_ok _ _ h, (hsp _ _ h).2⟩
  split
  · unfold armD
    split
    · exact ⟨h, rfl⟩
    · exact ⟨h.same rfl rfl (by show x.n.toNat ≤ _; omega) (by show x.l.length ≤ _; omega), rfl⟩
  split
  · exact ⟨h.same rfl rfl h.left h.stay, rfl⟩
  · exact ⟨h, rfl⟩
/-- A disk behind acts. -/
def actsD (D : Dk) (L : List Ac) : Dk := L.foldl actD D
theorem actsD_succ (D : Dk) (L : List Ac) (k : Nat) (h : k < L.length) : actsD D (L.take (k + 1)) = actD (actsD D (L.take k)) L[k] := by
  unfold actsD
  rw [List.take_succ_eq_append_getElem h, List.foldl_append]; rfl
theorem act_off {w : World} {L : List Ac} {a : Option Addr} {c : Nat} (h : Acts w a L c) {p : Pl} (hp : ∀ k, k < w.heap.size → p.Off k) (q : Nat) (hq : q < L.length) : (L[q]).l ≠ [] → ∀ g, Go.Cit.blk (L[q]).a = some g → p.Off g := fun hne g hg => by
  have hrow := (h.at_ _ (List.getElem_mem hq)).row
  obtain ⟨g2, off, e2⟩ := hrow.spot hne
  rw [e2] at hg hrow
  have e3 := blk_eq hg
  have := hrow.blk (i := 0) (List.length_pos_iff.2 hne)
  simp [ad] at this
  exact hp g (by omega)
theorem wpList_load_rn {P : Program} {ops : Array Oper} {rest : List Oper} {o : Oper} {act : Act} {w : World} {Q : Exit → Act → World → Prop} {T : TypeId} {q : Addr} {v : Value} (x : Operand) (hw : Region.wanted o (yielded ops act.tmps) = true) (ho : o.op = .load T x) (hx : act.eval x = .pointer (some q)) (hr : (loadVar T q).run P w = .ok v w)
    (h : wpList P ops Q rest (act.put o.dst v) w) : wpList P ops Q (o :: rest) act w := by
  refine wpList_step fun K hK => ?_
  rw [if_pos hw]
  unfold Oper.wp execOp
  simp only [ho, hx, Sem.run_bind, Instr.loadAt, Instr.sureAddr, Sem.run_pure, Result.andThen, hr]
  exact hK _ _ h
end Go.Proofs.Ytofagofpeedfcaa
