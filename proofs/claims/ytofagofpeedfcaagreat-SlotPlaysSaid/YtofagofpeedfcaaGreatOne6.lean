/- Chapter 6's law: one: walked. -/
import Derived.Test.YtofagofpeedfcaaGreatTold6
import Derived.Test.YtofagofpeedfcaaGreatGpMore
namespace Go.Proofs.YtofagofpeedfcaaGreat
open Go Go.RowKit Go.Cit

/-- What an act does. -/
def actD (D : Dk) (x : Ac) : Dk :=
  if x.kind = 0 ∨ x.kind = 1 ∨ x.kind = 2 then writeT D x.n (secL x.l) else if x.kind = 3 ∨ x.kind = 4 then flushT D else if x.kind = 5 then crashT x.l D
  else if x.kind = 6 then armD D x.n x.l else if x.kind = 7 ∨ x.kind = 8 then startD D else D
theorem secL_len {l : List UInt8} (h : l.length ≤ 6000) : (secL l).length ≤ 6000 := by
  unfold secL
  split
  · rw [List.length_replicate]; decide
  · exact h
/-- What the line of calls leaves. -/
def onSt (w : World) (q : Rl) (D' : Dk) (S : List UInt8) (E : Int) : List Value → World → Prop
  | [], wx => Cit.Alike w wx
  | [v1], wx => ∃ a c, v1 = .slice a S.length c ∧ Cit.Own 5 w.heap.size wx a S c ∧ Below w.heap.size w wx
  | [_, v2], wx => v2 = .int .i64 E ∧ RefAt wx q D' ∧ Save q.Off w wx
  | [_, v2, v3], wx => v2 = .int .i64 E ∧ RefAt wx q D' ∧ Save q.Off w wx ∧ ∃ a c, v3 = .slice a S.length c ∧ Row wx a S c
  | [_, v2, _, v4], wx => v2 = .int .i64 E ∧ RefAt wx q D' ∧ Save q.Off w wx ∧ v4 = .bool true
  | _ :: _ :: _ :: _ :: _ :: _, _ => True
theorem onSt_save {w : World} {q : Rl} {D' : Dk} {S : List UInt8} {E : Int} {vs : List Value} {wx : World} (h : onSt w q D' S E vs wx) (hl : vs.length ≤ 4) : Save q.Off w wx := by
  match vs, h, hl with
  | [], h, _ => exact Save.of h.1
  | [_], h, _ => obtain ⟨_, _, _, _, hb⟩ := h; exact Save.of hb
  | [_, _], h, _ => exact h.2.2
  | [_, _, _], h, _ => exact h.2.2.1
  | [_, _, _, _], h, _ => exact h.2.2.1
  | _ :: _ :: _ :: _ :: _ :: _, _, hl => simp at hl
theorem onSt_v2 {w : World} {q : Rl} {D' : Dk} {S : List UInt8} {E : Int} {vs : List Value} {wx : World} (h : onSt w q D' S E vs wx) (h1 : 1 < vs.length) (hl : vs.length ≤ 4) : vs[1]? = some (.int .i64 E) := by
  match vs, h, h1, hl with
  | [_, _], h, _, _ => rw [← h.1]; rfl
  | [_, _, _], h, _, _ => rw [← h.1]; rfl
  | [_, _, _, _], h, _, _ => rw [← h.1]; rfl
  | _ :: _ :: _ :: _ :: _ :: _, _, _, hl => simp at hl
theorem onSt_v4 {w : World} {q : Rl} {D' : Dk} {S : List UInt8} {E : Int} {vs : List Value} {wx : World} (h : onSt w q D' S E vs wx) (h1 : 3 < vs.length) (hl : vs.length ≤ 4) : vs[3]? = some (.bool true) := by
  match vs, h, h1, hl with
  | [_, _, _, _], h, _, _ => rw [← h.2.2.2]; rfl
  | _ :: _ :: _ :: _ :: _ :: _, _, _, hl => simp at hl
/-- What has been laid since is none of theirs. -/
def Pl.more (p : Pl) (n m : Nat) : Pl := { p with x := fun k => p.x k ∨ (n ≤ k ∧ k < m) }
def Rl.more (r : Rl) (n m : Nat) : Rl := { r with x := fun k => r.x k ∨ (n ≤ k ∧ k < m) }
theorem Pair.more {w w1 : World} {p : Pl} {r : Rl} {D : Dk} (h : Pair w p r D) (hb : Below w.heap.size w w1) : Pair w1 (p.more w.heap.size w1.heap.size) (r.more w.heap.size w1.heap.size) D :=
  ⟨h.d.more hb, h.r.more hb, fun k hk => .inl (h.hx k hk), h.lt⟩
theorem Pair.less {w : World} {p : Pl} {r : Rl} {D : Dk} {n m : Nat} (h : Pair w (p.more n m) (r.more n m) D) (hx : ∀ k, (k = r.b ∨ k = r.lb) → p.x k) : Pair w p r D :=
  ⟨DiskAt.less (p := p) h.d (fun _ hk => .inl hk), RefAt.less (r := r) h.r (fun _ hk => .inl hk), hx, h.lt⟩
/-- A block that is none of theirs is written. -/
theorem Pair.free {w w' : World} {p : Pl} {r : Rl} {D : Dk} {n m : Nat} (h : Pair w (p.more n m) (r.more n m) D) {T : Nat → Prop} (hs : Save T w w') (hT : ∀ k, ¬ (n ≤ k ∧ k < m) → T k) (hn : p.b < n ∧ p.sb < n ∧ p.mb < n) : Pair w' (p.more n m) (r.more n m) D :=
  ⟨h.d.saveX hs (fun k hk => hT k (fun e => hk ⟨by show k ≠ p.b; omega, by show k ≠ p.sb; omega, by show k ≠ p.mb; omega⟩)) (fun k hk => hT k (fun e => hk (.inr e))), h.r.saveX hs (fun k _ hk => hT k (fun e => hk (.inr e))), h.hx, h.lt⟩
def on7 (r : Rl) (Bx : Nat) (x : Ac) (S : List UInt8) (E : Int) (am : Option Addr) (cm : Nat) : Nat → Value
  | 36 => (.int .i64 E)
  | 37 => (.pointer (some ⟨r.b, 0, none⟩))
  | 38 => (.pointer (some ⟨Bx, 1, none⟩))
  | 39 => (.int .i64 x.n)
  | 40 => (.pointer (some ⟨Bx, 2, none⟩))
  | 41 => (.slice x.a x.l.length x.c)
  | 44 => (.bool true)
  | 45 => (.bool true)
  | 46 => (.slice am S.length cm)
  | 47 => (.pointer (some ⟨Bx, 2, none⟩))
  | 48 => (.slice x.a x.l.length x.c)
  | 51 => (.bool true)
  | 9 => (.bool true)
  | _ => undef
def on7o (r : Rl) (Bx : Nat) (_ : Ac) (S : List UInt8) (E : Int) (am : Option Addr) (cm : Nat) : Nat → Value
  | 1 => (.pointer (some ⟨r.b, 0, none⟩))
  | 5 => (.pointer (some ⟨Bx, 0, none⟩))
  | 7 => (.slice am S.length cm)
  | 8 => (.int .i64 E)
  | _ => undef

end Go.Proofs.YtofagofpeedfcaaGreat
