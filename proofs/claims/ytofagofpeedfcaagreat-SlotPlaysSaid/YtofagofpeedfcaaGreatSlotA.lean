/- Chapter 15: writes, reads, gets of the program and of the reference, at any arguments. -/
import Derived.Test.YtofagofpeedfcaaGreatRSlotW
import Derived.Test.YtofagofpeedfcaaGreatRSlotG
import Derived.Test.YtofagofpeedfcaaGreatSlot6
namespace Go.Proofs.YtofagofpeedfcaaGreat
open Go Go.RowKit Go.Cit

abbrev IV (x : Int) : Prop := -9223372036854775808 ≤ x ∧ x ≤ 9223372036854775807
set_option maxRecDepth 100000 in
theorem rwr_ref (w : World) (q : Value) (s at_ : Int) (a : Option Addr) (n c : Nat) (hs : IV s) (ha : IV at_) (hn : n ≤ 9223372036854775807) (hE : rfE s at_ n ≠ 0) :
    Calls Tryz.prog 11 #[q, .int .i64 s, .int .i64 at_, .slice a n c] w fun e w' => e = .returned (.int .i64 (rfE s at_ n)) ∧ w' = w := by
  have hrf := rrefused_calls w s at_ n hs ha (by omega)
  generalize rfE s at_ n = E at *
  clear hs ha
  go_enter Tryz.func11, Tryz.ntmps11
  go_wp2_with fail
  refine (hrf).mono ?_
  rintro e w2 ⟨rfl, rfl⟩
  clear hrf
  go_wp2_with fail
  go_ret
  exact ⟨rfl, rfl⟩
set_option maxRecDepth 100000 in
theorem rwr_down (w : World) (r : Rl) (D : Dk) (h : RefAt w r D) (hu : D.up = false) (s at_ : Int) (a : Option Addr) (n c : Nat) (hs : IV s) (ha : IV at_) (hn : n ≤ 9223372036854775807) (hE : rfE s at_ n = 0) :
    Calls Tryz.prog 11 #[.pointer (some ⟨r.b, 0, none⟩), .int .i64 s, .int .i64 at_, .slice a n c] w fun e w' => e = .returned (.int .i64 60) ∧ w' = w := by
  have hrf := rrefused_calls w s at_ n hs ha (by omega)
  rw [hE] at hrf
  have q1 : w.cell? ⟨r.b, 1, none⟩ = some (.bool true) := by have := h.cells.2; rw [hu] at this; exact this
  clear hs ha h hu hE
  go_enter Tryz.func11, Tryz.ntmps11
  go_wp2_with fail
  refine (hrf).mono ?_
  rintro e w2 ⟨rfl, rfl⟩
  clear hrf
  go_wp2_with fail
  go_ret
  exact ⟨rfl, rfl⟩
set_option maxRecDepth 100000 in
theorem rrd_ref (w : World) (q : Value) (s n : Int) (hs : IV s) (hn : IV n) (hE : rfE s 0 n ≠ 0) :
    Calls Tryz.prog 14 #[q, .int .i64 s, .int .i64 n] w fun e w' => e = .returned (.tuple #[.slice none 0 0, .int .i64 (rfE s 0 n)]) ∧ w' = w := by
  have hrf := rrefused_calls w s 0 n hs (by decide) hn
  generalize rfE s 0 n = E at *
  clear hs hn
  go_enter Tryz.func14, Tryz.ntmps14
  go_wp2_with fail
  refine (hrf).mono ?_
  rintro e w2 ⟨rfl, rfl⟩
  clear hrf
  go_wp2_with fail
  go_ret2
  exact ⟨rfl, rfl⟩
set_option maxRecDepth 100000 in
theorem rrd_down (w : World) (r : Rl) (D : Dk) (h : RefAt w r D) (hu : D.up = false) (s n : Int) (hs : IV s) (hn : IV n) (hE : rfE s 0 n = 0) :
    Calls Tryz.prog 14 #[.pointer (some ⟨r.b, 0, none⟩), .int .i64 s, .int .i64 n] w fun e w' => e = .returned (.tuple #[.slice none 0 0, .int .i64 60]) ∧ w' = w := by
  have hrf := rrefused_calls w s 0 n hs (by decide) hn
  rw [hE] at hrf
  have q1 : w.cell? ⟨r.b, 1, none⟩ = some (.bool true) := by have := h.cells.2; rw [hu] at this; exact this
  clear hs hn h hu hE
  go_enter Tryz.func14, Tryz.ntmps14
  go_wp2_with fail
  refine (hrf).mono ?_
  rintro e w2 ⟨rfl, rfl⟩
  clear hrf
  go_wp2_with fail
  go_ret2
  exact ⟨rfl, rfl⟩
/-- What the program's write does the reference's does. -/
def AsRef (r : Rl) (D D' : Dk) (E s at_ : Int) (l : List UInt8) : Prop :=
  ∀ (W : World) (a : Option Addr) (c : Nat), RefAt W r D → Row W a l c → (l ≠ [] → ∀ g, Go.Cit.blk a = some g → r.Off g) →
    Calls Tryz.prog 11 #[.pointer (some ⟨r.b, 0, none⟩), .int .i64 s, .int .i64 at_, .slice a l.length c] W fun e W' => e = .returned (.int .i64 E) ∧ RefAt W' r D' ∧ Save r.Off W W'
theorem swrite_any (w : World) (p : Pl) (r : Rl) (D : Dk) (h : DiskAt w p D) (s at_ : Int) (hs : IV s) (hat : IV at_) (a : Option Addr) (l : List UInt8) (c : Nat) (hr : Row w a l c) (ha : l ≠ [] → ∀ g, Go.Cit.blk a = some g → p.Off g) :
    Calls Tryz.prog 10 #[.pointer (some ⟨p.b, 0, none⟩), .int .i64 s, .int .i64 at_, .slice a l.length c] w fun e w' => ∃ E D', e = .returned (.int .i64 E) ∧ DiskAt w' p D' ∧ Save p.Off w w' ∧ AsRef r D D' E s at_ l := by
  have hll := hr.len_le
  have hpos := h.ok.pos
  have hE : ∀ W, Below w.heap.size w W → Calls Tryz.prog 33 #[.pointer (some ⟨p.b, 0, none⟩), .int .i64 s, .int .i64 at_, .int .i64 (l.length : Int)] W fun e w' => e = .returned (.int .i64 (rfE s at_ l.length)) ∧ w' = W := fun W hb => by
    have h9 := refused_calls W p D (h.stay hb) s at_ l.length hs hat (by omega)
    rwa [rfE_eq _ _ _ _ (by omega)] at h9
  by_cases hz : rfE s at_ l.length = 0
  · by_cases hu : D.up = true
    · have h0 : 0 ≤ s ∧ s ≤ 1 ∧ 0 ≤ at_ ∧ at_ + l.length ≤ 4096 := by
        unfold rfE at hz
        split at hz
        · simp at hz
        · split at hz
          · simp at hz
          · omega
      obtain ⟨s, rfl⟩ : ∃ k : Nat, s = (k : Int) := ⟨s.toNat, by omega⟩
      obtain ⟨x, rfl⟩ : ∃ k : Nat, at_ = (k : Int) := ⟨at_.toNat, by omega⟩
      refine (swrite_good w p D h hu s x (by omega) a l c hr ha (by omega)).mono fun e w' ⟨xs, h1, h2, h3, h4⟩ => ⟨_, _, h2, h3, h4, fun W a2 c2 hR hr2 ho => ?_⟩
      refine (rwr_good W r D hR h.ok hu s x (by omega) a2 l c2 hr2 ho (by omega)).mono fun e w' ⟨ys, g1, g2, g3, g4⟩ => ?_
      obtain rfl := h1.det g1
      exact ⟨g2, g3, g4⟩
    · have hd : D.up = false := by simpa using hu
      refine (swrite_down w _ s at_ a l.length c hll (fun W hb => by have := hE W hb; rwa [hz] at this) (fun W hb => by have := up_calls W p D (h.stay hb); rwa [hd] at this)).mono fun e w' ⟨h1, h2⟩ => ⟨60, D, h1, h.stay h2, Save.of h2, fun W a2 c2 hR hr2 ho => ?_⟩
      exact (rwr_down W r D hR hd s at_ a2 l.length c2 hs hat hll hz).mono fun e w' ⟨g1, g2⟩ => ⟨g1, by rw [g2]; exact hR, by rw [g2]; exact Save.refl _ _⟩
  · refine (swrite_ref w _ s at_ a l.length c _ hz hll hE).mono fun e w' ⟨h1, h2⟩ => ⟨_, D, h1, h.stay h2, Save.of h2, fun W a2 c2 hR hr2 ho => ?_⟩
    exact (rwr_ref W _ s at_ a2 l.length c2 hs hat hll hz).mono fun e w' ⟨g1, g2⟩ => ⟨g1, by rw [g2]; exact hR, by rw [g2]; exact Save.refl _ _⟩
/-- What a slot's first bytes are read as. -/
def rdA (D : Dk) (s n : Int) : List UInt8 × Int := if rfE s 0 n ≠ 0 then ([], rfE s 0 n) else if D.up = false then ([], 60) else rdF D (3 + 64 * s.toNat) n.toNat
theorem rdA_good {D : Dk} {s n : Int} (h : rfE s 0 n = 0) : 0 ≤ s ∧ s ≤ 1 ∧ 0 ≤ n ∧ n ≤ 4096 := by
  unfold rfE at h
  split at h
  · simp at h
  · split at h
    · simp at h
    · omega
theorem rdA_len (D : Dk) (s n : Int) : (rdA D s n).1.length ≤ 4096 := by
  unfold rdA
  by_cases h : rfE s 0 n = 0
  · rw [if_neg (by rw [h]; decide)]
    have := rdA_good (D := D) h
    split
    · simp
    · have := rdF_len D (3 + 64 * s.toNat) n.toNat
      omega
  · rw [if_pos h]; simp
theorem sread_any (w : World) (p : Pl) (D : Dk) (h : DiskAt w p D) (s n : Int) (hs : IV s) (hn : IV n) :
    Calls Tryz.prog 13 #[.pointer (some ⟨p.b, 0, none⟩), .int .i64 s, .int .i64 n] w fun e w' => ∃ a c m, e = .returned (.tuple #[.slice a m.length c, .int .i64 (rdA D s n).2]) ∧ m = (rdA D s n).1 ∧ Row w' a m c ∧ Below w.heap.size w w' := by
  have hpos := h.ok.pos
  have hE : ∀ W, Below w.heap.size w W → Calls Tryz.prog 33 #[.pointer (some ⟨p.b, 0, none⟩), .int .i64 s, .int .i64 0, .int .i64 n] W fun e w' => e = .returned (.int .i64 (rfE s 0 n)) ∧ w' = W := fun W hb => by
    have h9 := refused_calls W p D (h.stay hb) s 0 n hs (by decide) hn
    rwa [rfE_eq _ _ _ _ (by omega)] at h9
  by_cases hz : rfE s 0 n = 0
  · have h0 := rdA_good (D := D) hz
    by_cases hu : D.up = true
    · have e : rdA D s n = rdF D (3 + 64 * s.toNat) n.toNat := by rw [rdA, if_neg (by rw [hz]; decide), if_neg (by rw [hu]; decide)]
      obtain ⟨s, rfl⟩ : ∃ k : Nat, s = (k : Int) := ⟨s.toNat, by omega⟩
      obtain ⟨n, rfl⟩ : ∃ k : Nat, n = (k : Int) := ⟨n.toNat, by omega⟩
      rw [e, Int.toNat_natCast, Int.toNat_natCast]
      refine (sread_good w p D h hu s (by omega) n (by omega)).mono fun e w' ⟨xs, a, c, h1, h2, h3, h4⟩ => ?_
      rw [rdP_F (3 + 64 * s) n (by omega) D h.ok hu xs h1] at h2 h3
      exact ⟨a, c, _, h2, rfl, h3.isRow, h4⟩
    · have hd : D.up = false := by simpa using hu
      rw [rdA, if_neg (by rw [hz]; decide), if_pos hd]
      exact (sread_down w _ s n (fun W hb => by have := hE W hb; rwa [hz] at this) (fun W hb => by have := up_calls W p D (h.stay hb); rwa [hd] at this)).mono fun e w' ⟨h1, h2⟩ => ⟨none, 0, [], h1, rfl, Row.nil_ _, h2⟩
  · rw [rdA, if_pos hz]
    exact (sread_ref w _ s n _ hz hE).mono fun e w' ⟨h1, h2⟩ => ⟨none, 0, [], h1, rfl, Row.nil_ _, h2⟩
theorem rrd_any (w : World) (r : Rl) (D : Dk) (h : RefAt w r D) (hok : D.Ok) (s n : Int) (hs : IV s) (hn : IV n) :
    Calls Tryz.prog 14 #[.pointer (some ⟨r.b, 0, none⟩), .int .i64 s, .int .i64 n] w fun e w' => ∃ a c m, e = .returned (.tuple #[.slice a m.length c, .int .i64 (rdA D s n).2]) ∧ m = (rdA D s n).1 ∧ Row w' a m c ∧ Below w.heap.size w w' := by
  by_cases hz : rfE s 0 n = 0
  · have h0 := rdA_good (D := D) hz
    by_cases hu : D.up = true
    · have e : rdA D s n = rdF D (3 + 64 * s.toNat) n.toNat := by rw [rdA, if_neg (by rw [hz]; decide), if_neg (by rw [hu]; decide)]
      obtain ⟨s, rfl⟩ : ∃ k : Nat, s = (k : Int) := ⟨s.toNat, by omega⟩
      obtain ⟨n, rfl⟩ : ∃ k : Nat, n = (k : Int) := ⟨n.toNat, by omega⟩
      rw [e, Int.toNat_natCast, Int.toNat_natCast]
      exact rrd_good w r D h hok hu s (by omega) n (by omega)
    · have hd : D.up = false := by simpa using hu
      rw [rdA, if_neg (by rw [hz]; decide), if_pos hd]
      exact (rrd_down w r D h hd s n hs hn hz).mono fun e w' ⟨h1, h2⟩ => ⟨none, 0, [], h1, rfl, Row.nil_ _, by rw [h2]; exact Below.refl _ _⟩
  · rw [rdA, if_pos hz]
    exact (rrd_ref w _ s n hs hn hz).mono fun e w' ⟨h1, h2⟩ => ⟨none, 0, [], h1, rfl, Row.nil_ _, by rw [h2]; exact Below.refl _ _⟩
/-- What is got. -/
def getA (D : Dk) (s n : Int) (H : List UInt8) : List UInt8 × Int := if (rdA D s n).2 ≠ 0 then ([], (rdA D s n).2) else if sumB (rdA D s n).1 = H then ((rdA D s n).1, 0) else ([], 150)
theorem rdA_err {D : Dk} {s n : Int} (h : (rdA D s n).2 ≠ 0) : (rdA D s n).1 = [] := by
  unfold rdA at h ⊢
  split
  · rfl
  · rename_i h1
    rw [if_neg h1] at h
    split
    · rfl
    · rename_i h2
      rw [if_neg h2] at h
      unfold rdF at h ⊢
      split
      · rfl
      · rename_i h3
        rw [if_neg h3] at h
        exact absurd rfl h
theorem sget_any (w : World) (p : Pl) (D : Dk) (h : DiskAt w p D) (s n : Int) (hs : IV s) (hn : IV n) (H : List UInt8) (hH : H.length = 32) :
    Calls Tryz.prog 16 #[.pointer (some ⟨p.b, 0, none⟩), .int .i64 s, .int .i64 n, .agg (H.map vb).toArray] w fun e w' => ∃ a c m, e = .returned (.tuple #[.slice a m.length c, .int .i64 (getA D s n H).2]) ∧ m = (getA D s n H).1 ∧ Row w' a m c ∧ Below w.heap.size w w' := by
  have hrd := fun W (hb : Below w.heap.size w W) => sread_any W p D (h.stay hb) s n hs hn
  have hlen := rdA_len D s n
  by_cases h0 : (rdA D s n).2 = 0
  · rw [getA, if_neg (by rw [h0]; decide)]
    refine (sget_good w _ s n H hH (rdA D s n).1 (by omega) (fun W hb => (hrd W hb).mono fun e w' ⟨a, c, m, h1, h2, h3, h4⟩ => ?_)).mono fun e w' ⟨a, c, m, h1, h2, h3, h4⟩ => ?_
    · subst h2; rw [h0] at h1; exact ⟨a, c, h1, h3, h4⟩
    · refine ⟨a, c, m, ?_, ?_, h3, h4⟩
      · rw [h1]; split <;> rfl
      · rw [h2]; split <;> rfl
  · rw [getA, if_pos h0]
    exact (sget_err2 w _ s n H _ h0 (fun W hb => (hrd W hb).mono fun e w' ⟨a, c, m, h1, h2, h3, h4⟩ => ⟨_, h1, h4⟩)).mono fun e w' ⟨h1, h2⟩ => ⟨none, 0, [], h1, rfl, Row.nil_ _, h2⟩
theorem rget_any (w : World) (r : Rl) (D : Dk) (h : RefAt w r D) (hok : D.Ok) (s n : Int) (hs : IV s) (hn : IV n) (H : List UInt8) (hH : H.length = 32) :
    Calls Tryz.prog 17 #[.pointer (some ⟨r.b, 0, none⟩), .int .i64 s, .int .i64 n, .agg (H.map vb).toArray] w fun e w' => ∃ a c m, e = .returned (.tuple #[.slice a m.length c, .int .i64 (getA D s n H).2]) ∧ m = (getA D s n H).1 ∧ Row w' a m c ∧ Below w.heap.size w w' := by
  have hrd := fun W (hb : Below w.heap.size w W) => rrd_any W r D (h.stay hb) hok s n hs hn
  have hlen := rdA_len D s n
  by_cases h0 : (rdA D s n).2 = 0
  · rw [getA, if_neg (by rw [h0]; decide)]
    refine (rget_good w _ s n H hH (rdA D s n).1 (by omega) (fun W hb => (hrd W hb).mono fun e w' ⟨a, c, m, h1, h2, h3, h4⟩ => ?_)).mono fun e w' ⟨a, c, m, h1, h2, h3, h4⟩ => ?_
    · subst h2; rw [h0] at h1; exact ⟨a, c, h1, h3, h4⟩
    · refine ⟨a, c, m, ?_, ?_, h3, h4⟩
      · rw [h1]; split <;> rfl
      · rw [h2]; split <;> rfl
  · rw [getA, if_pos h0]
    exact (rget_err2 w _ s n H _ h0 (fun W hb => (hrd W hb).mono fun e w' ⟨a, c, m, h1, h2, h3, h4⟩ => ⟨_, h1, h4⟩)).mono fun e w' ⟨h1, h2⟩ => ⟨none, 0, [], h1, rfl, Row.nil_ _, h2⟩
end Go.Proofs.YtofagofpeedfcaaGreat
