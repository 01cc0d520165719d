/- hmac.Open: the short and the long joined. -/
import Derived.Test.YtiemafgnpmoblaaHmacOpen
namespace Go.Proofs.Ytiemafgnpmoblaa
open Go Go.RowKit Go.Cit

theorem okO_long (k s : List UInt8) (n : Nat) (hn : s.length = n + 32) : okO k s = decide (hmacB k (s.take n) = s.drop n) := by
  unfold okO
  rw [show s.length - 32 = n by omega, Bool.eq_iff_iff, decide_eq_true_iff, decide_eq_true_iff]
  constructor
  · rintro ⟨_, h⟩
    have h2 : s = s.take n ++ s.drop n := (List.take_append_drop n s).symm
    unfold sealB at h
    have h3 := h2.symm.trans h
    exact (List.append_cancel_left h3).symm
  · intro h
    refine ⟨by omega, ?_⟩
    unfold sealB
    rw [h, List.take_append_drop]
theorem openO_long (k s : List UInt8) (n : Nat) (hn : s.length = n + 32) : openO k s = cond (okO k s) (s.take n) [] := by
  unfold openO
  rw [show s.length - 32 = n by omega]
  cases okO k s <;> rfl
theorem open_calls (w : World) (a : Option Addr) (k : List UInt8) (c : Nat) (h : Row w a k c) (hl : k.length ≤ 1000000) (a2 : Option Addr) (s : List UInt8) (c2 : Nat) (h2 : Row w a2 s c2) (hl2 : s.length ≤ 1000000) :
    Calls Try.prog 41 #[.slice a k.length c, .slice a2 s.length c2] w fun e w' => ∃ a' c', e = .returned (.tuple #[.slice a' (openO k s).length c', .bool (okO k s)]) ∧ Row w' a' (openO k s) c' ∧ Below w.heap.size w w' := by
  by_cases h32 : s.length < 32
  · have hk : okO k s = false := by unfold okO; simp; omega
    have ho : openO k s = [] := by unfold openO; rw [hk]; rfl
    rw [ho, hk]
    refine (openshort_calls w (.slice a k.length c) a2 s.length c2 h32).mono ?_
    rintro e w' ⟨rfl, rfl⟩
    exact ⟨none, 0, rfl, Row.nil_ _, Below.refl _ _⟩
  · obtain ⟨n, hn⟩ : ∃ n, s.length = n + 32 := ⟨s.length - 32, by omega⟩
    have h9 := openlong_calls w a k c h hl a2 s c2 h2 hl2 n hn (okO k s) (okO_long k s n hn)
    rw [← openO_long k s n hn] at h9
    exact h9
end Go.Proofs.Ytiemafgnpmoblaa
