/- The laws' own 'turned': place by place the exclusive or. Walked. -/
import Derived.Test.YtbglmglgaobjmaaCrcPut
namespace Go.Proofs.Ytbglmglgaobjmaa
open Go Go.RowKit Go.Cit

def xorL (l m : List UInt8) : List UInt8 := List.zipWith bXor l m
theorem xorL_length (l m : List UInt8) : (xorL l m).length = min l.length m.length := by simp [xorL]
theorem xorL_snoc (l m : List UInt8) (k : Nat) (h0 : k < l.length) (h1 : k < m.length) : (xorL l m).take k ++ [bXor l[k] m[k]] = (xorL l m).take (k + 1) := by
  have hk : k < (xorL l m).length := by rw [xorL_length]; omega
  rw [← take_snoc _ k hk]
  simp [xorL]

set_option maxHeartbeats 1000000 in
theorem turned_calls (w : World) (a0 a1 : Option Addr) (l m : List UInt8) (c0 c1 : Nat) (h0 : Row w a0 l c0) (h1 : Row w a1 m c1) (hl : l.length ≤ 400000000) :
    Calls Try.prog 45 #[.slice a0 l.length c0, .slice a1 m.length c1] w fun e w' => ∃ a X cp, Hid (X = xorL l m) ∧ e = .returned (.slice a X.length cp) ∧ Mine w.heap.size w' a X cp ∧ Below w.heap.size w w' := by
  go_enter Try.func45, Try.ntmps45
  go_wp2
  go_loopw [5, 6] (fun o i wr => ∃ (k : Nat) (a : Option Addr) (c : Nat) (x : List UInt8), Hid (x = (xorL l m).take k) ∧ k ≤ l.length ∧ k ≤ m.length ∧ i = .int .i64 k ∧ o = .slice a x.length c ∧ Own 5 w.heap.size wr a x c ∧ Below w.heap.size w wr) (fun _ i _ => l.length - (intOf i).toNat)
  case atStart => exact ⟨0, none, 0, [], rfl, Nat.zero_le _, Nat.zero_le _, rfl, rfl, Own.nil _ _ _, Below.refl _ _⟩
  case round =>
    obtain ⟨k, a, c, x, HX, hk, hk1, rfl, rfl, hown, hb⟩ := hrel
    have r0 := h0.stay hb
    have r1 := h1.stay hb
    have hs := hb.size
    have hx : x.length ≤ k := by rw [HX.out]; simp; omega
    have hx9 : x.length ≤ 1000000000 := by omega
    by_cases hlt : k < l.length ∧ k < m.length
    · obtain ⟨hl', hm'⟩ := hlt
      have i0 := r0.index bt.slice bt.sz k hl'
      have i1 := r1.index bt.slice bt.sz k hm'
      have e0 := r0.cell k hl'
      have e1 := r1.cell k hm'
      have d1 : decide ((k : Int) < (l.length : Int)) = true := by simp; omega
      have d2 : decide ((k : Int) < (m.length : Int)) = true := by simp; omega
      go_wp2_with fail
      go_region_law (refine step_append_box bt (.tmp 19) (.tmp 29) rfl rfl hown hx9 hs rfl rfl ?_; intro a' c' w' hown' hgr)
      all_goals
        have HO := Lib.hid hown'
        have hb' := hb.grown hgr hs (fun j hj => (hown.blk_ge hj).1)
        clear hown' hgr
        go_wp2_with fail
        go_roundw
        case rel => exact ⟨k + 1, a', c', x ++ [bXor l[k] m[k]], by rw [Hid, HX.out, xorL_snoc l m k hl' hm'], by omega, by omega, by go_num, by simp, HO.out, hb'⟩
        case measure => simp [intOf]; omega
    · have HX2 : Hid (x = xorL l m) := by rw [Hid, HX.out]; exact List.take_of_length_le (by rw [xorL_length]; omega)
      clear HX
      by_cases hl' : k < l.length
      · have hm' : ¬ k < m.length := fun h => hlt ⟨hl', h⟩
        go_wp2_with fail
        go_ret
        exact ⟨a, x, c, HX2, rfl, hown.mine, hb⟩
      · go_wp2_with fail
        go_ret
        exact ⟨a, x, c, HX2, rfl, hown.mine, hb⟩
end Go.Proofs.Ytbglmglgaobjmaa
