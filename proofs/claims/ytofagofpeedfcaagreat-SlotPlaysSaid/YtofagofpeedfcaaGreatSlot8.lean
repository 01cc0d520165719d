/- Chapter 15: writes and reads of a disk that is not armed; an empty disk. -/
import Derived.Test.YtofagofpeedfcaaGreatSlot7
import Derived.Test.YtofagofpeedfcaaGreatGb
namespace Go.Proofs.YtofagofpeedfcaaGreat
open Go Go.RowKit Go.Cit

theorem swrite_wr (w : World) (p : Pl) (D : Dk) (h : DiskAt w p D) (hu : D.up = true) (hl : D.left = 0) (hS : 131 ≤ D.S.length) (s at_ : Nat) (hs : s ≤ 1) (a : Option Addr) (l : List UInt8) (c : Nat) (hr : Row w a l c) (ha : l ≠ [] → ∀ g, Go.Cit.blk a = some g → p.Off g) (hal : at_ + l.length ≤ 4096) :
    Calls Tryz.prog 10 #[.pointer (some ⟨p.b, 0, none⟩), .int .i64 (s : Int), .int .i64 (at_ : Int), .slice a l.length c] w fun e w' => ∃ D', e = .returned (.int .i64 0) ∧ DiskAt w' p D' ∧ Wr D D' (64 * (3 + 64 * s) + at_) l ∧ Save p.Off w w' :=
  (swrite_good w p D h hu s at_ hs a l c hr ha hal).mono fun e w' ⟨xs, h1, h2, h3, h4⟩ => by
    obtain ⟨h5, h6⟩ := wr_plain (3 + 64 * s) (at_ + l.length) hal xs D at_ l h.ok hu hl (by omega) (by omega) (by omega) h1
    rw [h5] at h2
    exact ⟨_, h2, h3, h6, h4⟩
theorem sread_ct (w : World) (p : Pl) (D : Dk) (h : DiskAt w p D) (hu : D.up = true) (hS : 131 ≤ D.S.length) (s : Nat) (hs : s ≤ 1) (n : Nat) (hn : n ≤ 4096) :
    Calls Tryz.prog 13 #[.pointer (some ⟨p.b, 0, none⟩), .int .i64 (s : Int), .int .i64 (n : Int)] w fun e w' => ∃ a c, e = .returned (.tuple #[.slice a n c, .int .i64 0]) ∧ Go.Cit.Own 5 w.heap.size w' a (contD D (64 * (3 + 64 * s)) n) c ∧ Below w.heap.size w w' :=
  (sread_good w p D h hu s hs n hn).mono fun e w' ⟨xs, a, c, h1, h2, h3, h4⟩ => by
    have h5 := rd_plain (3 + 64 * s) n hn D h.ok hu (by omega) xs 0 [] (by omega) h1
    rw [List.nil_append, Nat.add_zero, Nat.sub_zero] at h5
    rw [h5] at h2 h3
    rw [contD_len] at h2
    exact ⟨a, c, h2, h3, h4⟩
/-- A write that is refused; a read that is. -/
theorem swrite_no (w : World) (p : Pl) (D : Dk) (h : DiskAt w p D) (s at_ : Int) (a : Option Addr) (l : List UInt8) (c : Nat) (hr : Row w a l c) (hE : refE D.S.length s at_ l.length ≠ 0) (hs : -9223372036854775808 ≤ s ∧ s ≤ 9223372036854775807) (ha : -9223372036854775808 ≤ at_ ∧ at_ ≤ 9223372036854775807) :
    Calls Tryz.prog 10 #[.pointer (some ⟨p.b, 0, none⟩), .int .i64 s, .int .i64 at_, .slice a l.length c] w fun e w' => e = .returned (.int .i64 (refE D.S.length s at_ l.length)) ∧ Below w.heap.size w w' :=
  swrite_ref w _ s at_ a l.length c _ hE hr.len_le (fun W hb => refused_calls W p D (h.stay hb) s at_ l.length hs ha (by have := hr.len_le; omega))
end Go.Proofs.YtofagofpeedfcaaGreat
