/- The reference's Cat, Copy: walked. -/
import Derived.Test.YtofagofpeedfcaaProg
import Derived.Test.YtofagofpeedfcaaOwn
namespace Go.Proofs.Ytofagofpeedfcaa
open Go Go.RowKit Go.Cit

theorem bt : ByteTypes Try.prog 22 5 := ⟨Try.underlying22, by intro w; kernel_rfl, by kernel_rfl⟩

theorem take_snoc {α : Type} (l : List α) (k : Nat) (h : k < l.length) : l.take k ++ [l[k]] = l.take (k + 1) := by
  rw [List.take_succ_eq_append_getElem h]

set_option maxHeartbeats 1000000 in
theorem refcat_calls (w : World) (a0 a1 : Option Addr) (l m : List UInt8) (c0 c1 : Nat) (h0 : Row w a0 l c0) (h1 : Row w a1 m c1) (hl : l.length ≤ 400000000) (hm : m.length ≤ 400000000) :
    Calls Try.prog 78 #[.slice a0 l.length c0, .slice a1 m.length c1] w fun e w' => ∃ a c, e = .returned (.slice a (l ++ m).length c) ∧ Own 5 w.heap.size w' a (l ++ m) c ∧ Below w.heap.size w w' := by
  go_enter Try.func78, Try.ntmps78
  go_wp2
  go_loopw [5, 6] (fun o i wr => ∃ (k : Nat) (a : Option Addr) (c : Nat) (x : List UInt8), Hid (x = l.take k) ∧ k ≤ l.length ∧ i = .int .i64 k ∧ o = .slice a x.length c ∧ Own 5 w.heap.size wr a x c ∧ Below w.heap.size w wr) (fun _ i _ => l.length - (intOf i).toNat)
  case atStart => exact ⟨0, none, 0, [], rfl, Nat.zero_le _, rfl, rfl, Own.nil _ _ _, Below.refl _ _⟩
  case round =>
    obtain ⟨k, a, c, x, HX, hk, rfl, rfl, hown, hb⟩ := hrel
    have r0 := h0.stay hb
    have r1 := h1.stay hb
    have hs := hb.size
    have hx : x.length ≤ k := by rw [HX.out]; simp; omega
    have hx9 : x.length ≤ 1000000000 := by omega
    by_cases hlt : k < l.length
    · have i0 := r0.index bt.slice bt.sz k hlt
      have e0 := r0.cell k hlt
      go_wp2_with (at_builtin; refine wp_append_box bt (.tmp 14) (.tmp 19) rfl rfl hown hx9 hs rfl rfl ?_; intro a' c' w' hown' hgr)
      go_roundw
      case rel => exact ⟨k + 1, a', c', x ++ [l[k]], by rw [HX.out, take_snoc l k hlt]; rfl, by omega, by go_num, by simp, hown', hb.grown hgr hs (fun j hj => (hown.blk_ge hj).1)⟩
      case measure => simp [intOf]; omega
    · have hk2 : k = l.length := by omega
      have HX2 : Hid (x = l) := by rw [Hid, HX.out, hk2, List.take_length]
      clear HX hk2
      go_wp2
      go_loopw [5, 7] (fun o i wr => ∃ (k : Nat) (a : Option Addr) (c : Nat) (x : List UInt8), Hid (x = l ++ m.take k) ∧ k ≤ m.length ∧ i = .int .i64 k ∧ o = .slice a x.length c ∧ Own 5 w.heap.size wr a x c ∧ Below w.heap.size w wr) (fun _ i _ => m.length - (intOf i).toNat)
      case atStart => exact ⟨0, a, c, x, by rw [HX2.out]; simp [Hid], Nat.zero_le _, rfl, rfl, hown, hb⟩
      case round =>
        clear hs hx hx9 r0 r1 hown hb HX2 hlt hk
        obtain ⟨k, a, c, x, HX, hk, rfl, rfl, hown, hb⟩ := hrel
        have r1 := h1.stay hb
        have hs := hb.size
        have hx : x.length ≤ l.length + k := by rw [HX.out]; simp; omega
        have hx9 : x.length ≤ 1000000000 := by omega
        by_cases hlt : k < m.length
        · have i0 := r1.index bt.slice bt.sz k hlt
          have e0 := r1.cell k hlt
          go_wp2_with (at_builtin; refine wp_append_box bt (.tmp 27) (.tmp 32) rfl rfl hown hx9 hs rfl rfl ?_; intro a' c' w' hown' hgr)
          go_roundw
          case rel => exact ⟨k + 1, a', c', x ++ [m[k]], by rw [HX.out, List.append_assoc, take_snoc m k hlt]; rfl, by omega, by go_num, by simp, hown', hb.grown hgr hs (fun j hj => (hown.blk_ge hj).1)⟩
          case measure => simp [intOf]; omega
        · have hk2 : k = m.length := by omega
          have HX2 : Hid (x = l ++ m) := by rw [Hid, HX.out, hk2, List.take_length]
          clear HX hk2
          go_wp2
          go_ret
          have e := HX2.out
          subst e
          exact ⟨a, c, rfl, hown, hb⟩

theorem copy_calls (w : World) (a0 : Option Addr) (l : List UInt8) (c0 : Nat) (h0 : Row w a0 l c0) (hl : l.length ≤ 400000000) :
    Calls Try.prog 58 #[.slice a0 l.length c0] w fun e w' => ∃ a c, e = .returned (.slice a l.length c) ∧ Own 5 w.heap.size w' a l c ∧ Below w.heap.size w w' := by
  have hc := refcat_calls w none a0 [] l 0 c0 (Row.nil_ w) h0 (by simp) hl
  simp only [List.nil_append, List.length_nil] at hc
  go_enter Try.func58, Try.ntmps58
  go_wp2_with (go_at_call 78; refine hc.mono ?_; rintro e w' ⟨a, c, rfl, ho, hb⟩)
  go_ret
  exact ⟨a, c, rfl, ho, hb⟩
end Go.Proofs.Ytofagofpeedfcaa
