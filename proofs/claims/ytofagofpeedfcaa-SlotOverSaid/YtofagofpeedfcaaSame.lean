/- words.Same, words.Ahead: contracts. -/
import Derived.Test.YtofagofpeedfcaaCat
import Derived.Laws.IdiomStrings
import Derived.Lib.Bytealg
namespace Go.Proofs.Ytofagofpeedfcaa
open Go Go.RowKit Go.Cit

theorem cmp_ordB : ∀ a b : List UInt8, Lib.compareBytes a b = ordB a b
  | [], [] => rfl
  | [], _ :: _ => rfl
  | _ :: _, [] => rfl
  | x :: xs, y :: ys => by unfold Lib.compareBytes ordB; rw [cmp_ordB xs ys]

theorem row_string {w a l cap} (h : Row w a l cap) : (convert 22 9 (.slice a l.length cap)).run Try.prog w = .ok (.string ⟨l.toArray⟩) w := by
  have he : Try.prog.underlying 5 = some (.int .u8) := Try.underlying5
  rcases Nat.eq_zero_or_pos l.length with h0 | h0
  · obtain rfl : l = [] := List.eq_nil_of_length_eq_zero h0
    cases a with
    | none =>
      rw [run_convert_bytes_string w _ _ 5 none _ cap bt.slice he Try.underlying9]
      simp [Conv.bytesToString, Sem.run_pure]; rfl
    | some x =>
      exact run_convert_bytes_back w _ _ 5 x cap [] bt.slice he Try.underlying9 (fun j hj => by simp at hj)
  · obtain ⟨b, o, rfl⟩ := h.spot (by intro h1; simp [h1] at h0)
    refine run_convert_bytes_back w _ _ 5 ⟨b, o, none⟩ cap l bt.slice he Try.underlying9 (fun j hj => ?_)
    have ea : (⟨b, o, none⟩ : Addr).add j = ad (some ⟨b, o, none⟩) j := by unfold Addr.add ad; split <;> simp_all
    rw [ea]; exact h.cell j hj

theorem wsame_calls (w : World) (a0 a1 : Option Addr) (l m : List UInt8) (c0 c1 : Nat) (h0 : Row w a0 l c0) (h1 : Row w a1 m c1) :
    Calls Try.prog 30 #[.slice a0 l.length c0, .slice a1 m.length c1] w fun e w' => e = .returned (.bool (ordB l m == 0)) ∧ w' = w := by
  have s0 := row_string h0
  have s1 := row_string h1
  have HC : Hid (Lib.compareBytes l m = ordB l m) := cmp_ordB l m
  go_enter Try.func30, Try.ntmps30
  go_wp2_with (go_at_call 61; refine (Try.strings_Compare _ _ _).mono ?_; rintro e w' ⟨rfl, rfl⟩)
  go_ret
  exact ⟨ret_bool (by rw [← HC.out]), rfl⟩

theorem loadBytes_row {P : Program} {w : World} (b : Nat) : ∀ (l : List UInt8) (off : Nat) (acc : ByteArray), (∀ i (h : i < l.length), w.cell? ⟨b, off + i, none⟩ = some (vb l[i])) →
    (Extern.Bytes.loadBytes ⟨b, off, none⟩ l.length acc).run P w = .ok ⟨acc.data ++ l.toArray⟩ w
  | [], off, acc, _ => by simp [Extern.Bytes.loadBytes, Sem.run_pure]
  | x :: l, off, acc, h => by
    have h0 : w.cell? ⟨b, off, none⟩ = some (vb x) := h 0 (by simp)
    have hl : (load ⟨b, off, none⟩).run P w = .ok (vb x) w := by simp [go_sem, h0]
    have ih := loadBytes_row (P := P) (w := w) b l (off + 1) (acc.push x) (fun i hi => by have := h (i + 1) (by simpa using hi); simpa [Nat.add_assoc, Nat.add_comm 1 i] using this)
    simp only [List.length_cons, Extern.Bytes.loadBytes, Sem.run_bind, hl, Result.andThen]
    have ea : (⟨b, off, none⟩ : Addr).add 1 = ⟨b, off + 1, none⟩ := rfl
    have ex : (x.toNat : Int).toNat.toUInt8 = x := by simp
    rw [ea, ex, ih]
    congr 2
    simp [ByteArray.push]

theorem row_bytesOf {P : Program} {w a l cap} (h : Row w a l cap) : (Extern.Bytes.bytesOf (.slice a l.length cap)).run P w = .ok ⟨l.toArray⟩ w := by
  cases a with
  | none =>
    have : l = [] := by
      rcases List.eq_nil_or_concat l with h0 | ⟨_, _, h0⟩
      · exact h0
      · obtain ⟨b, o, e⟩ := h.spot (by simp [h0]); simp at e
    subst this
    simp [Extern.Bytes.bytesOf, Sem.run_pure]; rfl
  | some x =>
    rcases Nat.eq_zero_or_pos l.length with h0 | h0
    · obtain rfl : l = [] := List.eq_nil_of_length_eq_zero h0
      simp [Extern.Bytes.bytesOf, Extern.Bytes.loadBytes, Sem.run_pure]; rfl
    · obtain ⟨b, o, e⟩ := h.spot (by intro h1; simp [h1] at h0)
      injection e with e
      subst e
      have := loadBytes_row (P := P) b l o .empty (fun i hi => by simpa [ad] using h.cell i hi)
      simp only [Extern.Bytes.bytesOf]
      rw [this]
      congr 2
      simp

-- (this seat's program does not call bytes.Compare)
end Go.Proofs.Ytofagofpeedfcaa
