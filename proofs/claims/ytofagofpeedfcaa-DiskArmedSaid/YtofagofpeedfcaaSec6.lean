/- Chapter 6's law: sector: walked. -/
import Derived.Test.YtofagofpeedfcaaRefCat
namespace Go.Proofs.Ytofagofpeedfcaa
open Go Go.RowKit Go.Cit

/-- What an act writes. -/
def secL (l : List UInt8) : List UInt8 := if l.length = 1 then List.replicate 64 (l.getD 0 0) else l
set_option maxRecDepth 100000 in
set_option maxHeartbeats 1000000 in
theorem sector_calls (w : World) (a : Option Addr) (l : List UInt8) (c : Nat) (h : Row w a l c) (hl : l.length ≤ 100000000) :
    Calls Try.prog 31 #[.slice a l.length c] w fun e w' => ∃ a' c', e = .returned (.slice a' (secL l).length c') ∧ Cit.Own 5 w.heap.size w' a' (secL l) c' ∧ Below w.heap.size w w' := by
  by_cases h1 : l.length = 1
  · have HS : Hid (secL l = List.replicate 64 (l.getD 0 0)) := by rw [Hid, secL, if_pos h1]
    have i0 := h.index bt.slice bt.sz 0 (by omega)
    have HH := Lib.hid h
    obtain ⟨x, hx⟩ : ∃ x, Hid (x = l.getD 0 0) := ⟨_, rfl⟩
    have HC : Hid (∀ wr, Below w.heap.size w wr → wr.cell? (ad a 0) = some (vb x)) := fun wr hb => by
      have := (h.stay hb).cell 0 (by omega)
      rw [this, hx.out]; simp [List.getD, h1]
    rw [← hx.out] at HS
    rw [h1] at i0 ⊢
    rw [HS.out]
    clear h hl
    have i0 : ∀ w, (Instr.indexAt 22 (.slice a 1 c) (.int .i64 0)).run Try.prog w = .ok (.pointer (some (ad a 0))) w := i0
    go_enter Try.func31, Try.ntmps31
    go_wp2_with fail
    go_loopw [3, 4] (fun o i wr => ∃ (k : Nat) (a2 : Option Addr) (c2 : Nat) (Z : List UInt8), k ≤ 64 ∧ i = .int .i64 (k : Int) ∧ o = .slice a2 Z.length c2 ∧ Hid (Z = List.replicate k x) ∧ Hid (Cit.Own 5 w.heap.size wr a2 Z c2 ∧ Below w.heap.size w wr)) (fun _ i _ => 64 - (intOf i).toNat)
    case atStart => exact ⟨0, none, 0, [], by omega, rfl, rfl, rfl, Cit.Own.nil _ _ _, Below.refl _ _⟩
    case round =>
      obtain ⟨k, a2, c2, Z, hk, rfl, rfl, HZ, HO⟩ := hrel
      by_cases hlt : k < 64
      · have e0 := HC.out wr HO.out.2
        have HZ2 : Hid (Z ++ [x] = List.replicate (k + 1) x) := by rw [Hid, HZ.out, List.replicate_succ']
        have HZL : Hid (Z.length ≤ 64) := by rw [Hid, HZ.out, List.length_replicate]; exact hk
        go_wp2_with ((with_reducible refine wp_append_box (o := ⟨some 19, .call _, _, _, _, _⟩) bt (.tmp 14) (.tmp 18) (by with_unfolding_all rfl) (by with_unfolding_all rfl) HO.out.1 (by have := HZL.out; omega) HO.out.2.size (by with_unfolding_all rfl) (by with_unfolding_all rfl) ?_); intro a3 c3 w3 hO3 hg3; have HO3 := Lib.hid (And.intro hO3 (HO.out.2.trans (grown_below hg3 HO.out.2.size (fun g hg => (HO.out.1.blk_ge hg).1)))); clear hO3 hg3)
        go_roundw
        case rel => exact ⟨k + 1, a3, c3, _, hlt, by go_num, by rw [List.length_append]; rfl, HZ2, HO3⟩
        case measure => simp [intOf]; omega
      · have HE : Hid (Z = List.replicate 64 x) := by rw [Hid, HZ.out, show k = 64 by omega]
        go_wp2_with fail
        go_ret
        exact ⟨a2, c2, by rw [← HE.out]; rfl, by rw [← HE.out]; exact HO.out.1, HO.out.2⟩
  · have HS : Hid (secL l = l) := by rw [Hid, secL, if_neg h1]
    rw [HS.out]
    have hc := copy_calls w a l c h (by omega)
    have hll := h.le
    have hlm := h.top
    unfold maxLen at hlm
    generalize l.length = n at *
    have t1 : ((n : Int) == 1) = false := by simp; omega
    have t2 : ¬ (n : Int) = 1 := by omega
    clear h
    go_enter Try.func31, Try.ntmps31
    go_wp2_with fail
    refine (hc).mono ?_
    rintro e w2 ⟨a2, c2, rfl, hO, hb⟩
    go_wp2_with fail
    go_ret
    exact ⟨a2, c2, rfl, hO, hb⟩

end Go.Proofs.Ytofagofpeedfcaa
