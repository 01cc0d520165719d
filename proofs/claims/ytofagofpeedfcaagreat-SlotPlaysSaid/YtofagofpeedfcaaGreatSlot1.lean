/- Chapter 15: which pieces of sectors bytes take; slot.refused, slot.pieces: walked. -/
import Derived.Test.YtofagofpeedfcaaGreatDisk6
import Derived.Test.YtofagofpeedfcaaGreatLineR
import Derived.Test.YtofagofpeedfcaaGreatGc
namespace Go.Proofs.YtofagofpeedfcaaGreat
open Go Go.RowKit Go.Cit Go.Shelf
attribute [local go_sem] Oper.semAt_some

/-- A piece of a sector. -/
structure Pc where
  sec : Nat
  lo : Nat
  hi : Nat
abbrev Pc.v (x : Pc) : Value := .agg #[.int .i64 (x.sec : Int), .int .i64 (x.lo : Int), .int .i64 (x.hi : Int)]
/-- The piece at a place of a slot, of bytes that end at another. -/
def pcAt (base en at_ : Nat) : Pc := ⟨base + at_ / 64, at_ % 64, min 64 (at_ % 64 + en - at_)⟩
def pcNext (en at_ : Nat) : Nat := at_ + (min 64 (at_ % 64 + en - at_) - at_ % 64)
theorem pcNext_le {en at_ : Nat} (h : at_ < en) : at_ < pcNext en at_ ∧ pcNext en at_ ≤ en := by unfold pcNext; omega
/-- Pieces that lead from a place to a place. -/
def Leads (base en : Nat) : Nat → List Pc → Nat → Prop
  | at_, [], b => at_ = b
  | at_, x :: xs, b => at_ < en ∧ x = pcAt base en at_ ∧ Leads base en (pcNext en at_) xs b
theorem Leads.snoc {base en : Nat} : ∀ {xs : List Pc} {a b : Nat}, Leads base en a xs b → b < en → Leads base en a (xs ++ [pcAt base en b]) (pcNext en b)
  | [], a, b, h0, h => by
    obtain rfl : a = b := h0
    exact ⟨h, rfl, rfl⟩
  | _ :: _, _, _, ⟨h1, h2, h3⟩, h => ⟨h1, h2, h3.snoc h⟩
theorem Leads.le {base en : Nat} : ∀ {xs : List Pc} {a b : Nat}, Leads base en a xs b → a + xs.length ≤ b ∧ (xs = [] ∨ b ≤ en)
  | [], a, b, h0 => by
    obtain rfl : a = b := h0
    exact ⟨by simp, .inl rfl⟩
  | x :: xs, a, b, ⟨h1, h2, h3⟩ => by
    have h4 := pcNext_le h1
    have h5 := h3.le
    refine ⟨by rw [List.length_cons]; omega, .inr ?_⟩
    rcases h5.2 with rfl | h6
    · obtain rfl : _ = b := h3
      exact h4.2
    · exact h6
theorem Leads.uniq {base en : Nat} : ∀ {xs : List Pc} {a b c : Nat}, Leads base en a xs b → Leads base en a xs c → b = c
  | [], _, _, _, h, k => h.symm.trans k
  | _ :: _, _, _, _, ⟨_, _, h⟩, ⟨_, _, k⟩ => h.uniq k
/-- Why bytes can't be in a slot. -/
def refE (N slot at_ n : Int) : Int := if N = 0 then 1 else if slot < 0 ∨ 1 < slot ∨ at_ < 0 ∨ n < 0 then 2 else if 4096 < n ∨ 4096 - n < at_ then 4 else 0
set_option maxRecDepth 100000 in
theorem refused_gen (w : World) (d : Value) (N : Nat) (slot at_ n : Int) (hlen : Calls Tryz.prog 57 #[d] w fun e w' => e = .returned (.int .i64 (N : Int)) ∧ w' = w) (hN : N ≤ 1024) (hs : -9223372036854775808 ≤ slot ∧ slot ≤ 9223372036854775807) (ha : -9223372036854775808 ≤ at_ ∧ at_ ≤ 9223372036854775807) (hn : -9223372036854775808 ≤ n ∧ n ≤ 9223372036854775807) :
    Calls Tryz.prog 33 #[d, .int .i64 slot, .int .i64 at_, .int .i64 n] w fun e w' => e = .returned (.int .i64 (refE N slot at_ n)) ∧ w' = w := by
  obtain ⟨R, hR⟩ : ∃ R, Hid (R = refE N slot at_ n) := ⟨_, rfl⟩
  rw [← hR.out]
  go_enter Tryz.func33, Tryz.ntmps33
  go_wp2_with fail
  refine (hlen).mono ?_
  rintro e w1 ⟨rfl, rfl⟩
  by_cases h0 : N = 0
  · have HR : Hid (R = 1) := by rw [Hid, hR.out, refE, if_pos (by omega)]
    subst h0
    go_wp2_with fail
    go_ret
    exact ⟨congrArg (fun z => Ending.returned (Value.int .i64 z)) HR.out.symm, rfl⟩
  have t0 : ((N : Int) == 0) = false := by simp [h0]
  by_cases h1 : slot < 0 ∨ 1 < slot ∨ at_ < 0 ∨ n < 0
  · have HR : Hid (R = 2) := by rw [Hid, hR.out, refE, if_neg (by omega), if_pos h1]
    by_cases h2 : slot < 0
    · clear h1
      go_wp2_with fail
      go_ret
      exact ⟨congrArg (fun z => Ending.returned (Value.int .i64 z)) HR.out.symm, rfl⟩
    by_cases h3 : 1 < slot
    · clear h1
      go_wp2_with fail
      go_ret
      exact ⟨congrArg (fun z => Ending.returned (Value.int .i64 z)) HR.out.symm, rfl⟩
    by_cases h4 : at_ < 0
    · clear h1
      go_wp2_with fail
      go_ret
      exact ⟨congrArg (fun z => Ending.returned (Value.int .i64 z)) HR.out.symm, rfl⟩
    have h5 : n < 0 := by omega
    clear h1
    go_wp2_with fail
    go_ret
    exact ⟨congrArg (fun z => Ending.returned (Value.int .i64 z)) HR.out.symm, rfl⟩
  have h2 : ¬ slot < 0 := by omega
  have h3 : ¬ 1 < slot := by omega
  have h4 : ¬ at_ < 0 := by omega
  have h5 : ¬ n < 0 := by omega
  by_cases h6 : 4096 < n
  · have HR : Hid (R = 4) := by rw [Hid, hR.out, refE, if_neg (by omega), if_neg h1, if_pos (.inl h6)]
    clear h1
    go_wp2_with fail
    go_ret
    exact ⟨congrArg (fun z => Ending.returned (Value.int .i64 z)) HR.out.symm, rfl⟩
  by_cases h7 : 4096 - n < at_
  · have HR : Hid (R = 4) := by rw [Hid, hR.out, refE, if_neg (by omega), if_neg h1, if_pos (.inr h7)]
    clear h1
    go_wp2_with fail
    go_ret
    exact ⟨congrArg (fun z => Ending.returned (Value.int .i64 z)) HR.out.symm, rfl⟩
  have HR : Hid (R = 0) := by rw [Hid, hR.out, refE, if_neg (by omega), if_neg h1, if_neg (by omega)]
  clear h1
  go_wp2_with fail
  go_ret
  exact ⟨congrArg (fun z => Ending.returned (Value.int .i64 z)) HR.out.symm, rfl⟩
theorem refused_calls (w : World) (p : Pl) (D : Dk) (h : DiskAt w p D) (slot at_ n : Int) (hs : -9223372036854775808 ≤ slot ∧ slot ≤ 9223372036854775807) (ha : -9223372036854775808 ≤ at_ ∧ at_ ≤ 9223372036854775807) (hn : -9223372036854775808 ≤ n ∧ n ≤ 9223372036854775807) :
    Calls Tryz.prog 33 #[.pointer (some ⟨p.b, 0, none⟩), .int .i64 slot, .int .i64 at_, .int .i64 n] w fun e w' => e = .returned (.int .i64 (refE D.S.length slot at_ n)) ∧ w' = w :=
  refused_gen w _ D.S.length slot at_ n (len_calls w p D h) h.ok.few hs ha hn
theorem refused_nil (w : World) (v : Value) (h : NoDisk w v) (slot at_ n : Int) (hs : -9223372036854775808 ≤ slot ∧ slot ≤ 9223372036854775807) (ha : -9223372036854775808 ≤ at_ ∧ at_ ≤ 9223372036854775807) (hn : -9223372036854775808 ≤ n ∧ n ≤ 9223372036854775807) :
    Calls Tryz.prog 33 #[v, .int .i64 slot, .int .i64 at_, .int .i64 n] w fun e w' => e = .returned (.int .i64 1) ∧ w' = w := by
  have h2 := refused_gen w v 0 slot at_ n (len_nil w v h) (by omega) hs ha hn
  exact h2.mono fun e w' ⟨h3, h4⟩ => ⟨by rw [h3, refE, if_pos (by rfl)], h4⟩
theorem spieces_calls (w : World) (s a n : Int) :
    Calls Tryz.prog 34 #[.int .i64 s, .int .i64 a, .int .i64 n] w fun e w' => e = .returned (.func (.func 58) #[] #[.pointer (some ⟨w.heap.size + 1, 0, none⟩), .pointer (some ⟨w.heap.size + 2, 0, none⟩), .pointer (some ⟨w.heap.size, 0, none⟩)]) ∧
      w' = ((w.alloc (.cells #[.int .i64 s] 3)).alloc (.cells #[.int .i64 a] 3)).alloc (.cells #[.int .i64 n] 3) := by
  go_enter Tryz.func34, Tryz.ntmps34
  go_wp2
  go_ret
  exact ⟨rfl, rfl⟩
end Go.Proofs.YtofagofpeedfcaaGreat
