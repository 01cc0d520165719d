/- Chapter 15: writes and reads of a disk that is not armed; an empty disk. -/
import Derived.Test.YtofagofpeedfcaaSlot7
import Derived.Test.YtofagofpeedfcaaGb
namespace Go.Proofs.Ytofagofpeedfcaa
open Go Go.RowKit Go.Cit

theorem swrite_wr (w : World) (p : Pl) (D : Dk) (h : DiskAt w p D) (hu : D.up = true) (hl : D.left = 0) (hS : 131 ≤ D.S.length) (s at_ : Nat) (hs : s ≤ 1) (a : Option Addr) (l : List UInt8) (c : Nat) (hr : Row w a l c) (ha : l ≠ [] → ∀ g, Go.Cit.blk a = some g → p.Off g) (hal : at_ + l.length ≤ 4096) :
    Calls Try.prog 35 #[.pointer (some ⟨p.b, 0, none⟩), .int .i64 (s : Int), .int .i64 (at_ : Int), .slice a l.length c] w fun e w' => ∃ D', e = .returned (.int .i64 0) ∧ DiskAt w' p D' ∧ Wr D D' (64 * (3 + 64 * s) + at_) l ∧ Save p.Off w w' :=
  (swrite_good w p D h hu s at_ hs a l c hr ha hal).mono fun e w' ⟨xs, h1, h2, h3, h4⟩ => by
    obtain ⟨h5, h6⟩ := wr_plain (3 + 64 * s) (at_ + l.length) hal xs D at_ l h.ok hu hl (by omega) (by omega) (by omega) h1
    rw [h5] at h2
    exact ⟨_, h2, h3, h6, h4⟩
theorem sread_ct (w : World) (p : Pl) (D : Dk) (h : DiskAt w p D) (hu : D.up = true) (hS : 131 ≤ D.S.length) (s : Nat) (hs : s ≤ 1) (n : Nat) (hn : n ≤ 4096) :
    Calls Try.prog 36 #[.pointer (some ⟨p.b, 0, none⟩), .int .i64 (s : Int), .int .i64 (n : Int)] w fun e w' => ∃ a c, e = .returned (.tuple #[.slice a n c, .int .i64 0]) ∧ Go.Cit.Own 5 w.heap.size w' a (contD D (64 * (3 + 64 * s)) n) c ∧ Below w.heap.size w w' :=
  (sread_good w p D h hu s hs n hn).mono fun e w' ⟨xs, a, c, h1, h2, h3, h4⟩ => by
    have h5 := rd_plain (3 + 64 * s) n hn D h.ok hu (by omega) xs 0 [] (by omega) h1
    rw [List.nil_append, Nat.add_zero, Nat.sub_zero] at h5
    rw [h5] at h2 h3
    rw [contD_len] at h2
    exact ⟨a, c, h2, h3, h4⟩
/-- A write that is refused; a read that is. -/
theorem swrite_no (w : World) (p : Pl) (D : Dk) (h : DiskAt w p D) (s at_ : Int) (a : Option Addr) (l : List UInt8) (c : Nat) (hr : Row w a l c) (hE : refE D.S.length s at_ l.length ≠ 0) (hs : -9223372036854775808 ≤ s ∧ s ≤ 9223372036854775807) (ha : -9223372036854775808 ≤ at_ ∧ at_ ≤ 9223372036854775807) :
    Calls Try.prog 35 #[.pointer (some ⟨p.b, 0, none⟩), .int .i64 s, .int .i64 at_, .slice a l.length c] w fun e w' => e = .returned (.int .i64 (refE D.S.length s at_ l.length)) ∧ Below w.heap.size w w' :=
  swrite_ref w _ s at_ a l.length c _ hE hr.len_le (fun W hb => refused_calls W p D (h.stay hb) s at_ l.length hs ha (by have := hr.len_le; omega))
set_option maxRecDepth 100000 in
theorem empty_calls (w : World) : Calls Try.prog 34 #[] w fun e w' => ∃ p : Pl, e = .returned (.tuple #[.pointer (some ⟨p.b, 0, none⟩), .bool true]) ∧ DiskAt w' p (newD 323) ∧ (w.heap.size ≤ p.b ∧ w.heap.size ≤ p.sb ∧ w.heap.size ≤ p.mb) ∧ Below w.heap.size w w' := by
  have hnew := new_calls w 323 (by omega) (by omega)
  rw [show ((323 : Nat) : Int) = 323 from rfl] at hnew
  go_enter Try.func34, Try.ntmps34
  go_wp2_with fail
  refine (hnew).mono ?_
  rintro e w3 ⟨p, rfl, hD, _, hpl, hb3⟩
  have HQ := Lib.hid (And.intro hD (And.intro hpl hb3))
  clear hD hpl hb3
  go_wp2_with fail
  go_ret2
  exact ⟨p, rfl, HQ.out.1, HQ.out.2.1, HQ.out.2.2⟩
theorem wsame_id (w : World) (a0 a1 : Option Addr) (l : List UInt8) (c0 c1 : Nat) (h0 : Row w a0 l c0) (h1 : Row w a1 l c1) :
    Calls Try.prog 30 #[.slice a0 l.length c0, .slice a1 l.length c1] w fun e w' => e = .returned (.bool true) ∧ Below w.heap.size w w' :=
  (wsame_calls w a0 a1 l l c0 c1 h0 h1).mono fun e w' ⟨h2, h3⟩ => ⟨by rw [h2, ordB_self], by rw [h3]; exact Below.refl _ _⟩
end Go.Proofs.Ytofagofpeedfcaa
