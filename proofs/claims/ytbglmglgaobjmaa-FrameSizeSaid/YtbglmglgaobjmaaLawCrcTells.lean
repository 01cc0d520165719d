/- CrcTells: two lists as long whose differences lie within 4 bytes, one behind the other, have unlike sums. The walk of the law. -/
import Derived.Test.YtbglmglgaobjmaaLawCrcBack
import Derived.Test.YtbglmglgaobjmaaCrcFour
namespace Go.Proofs.Ytbglmglgaobjmaa
open Go Go.RowKit Go.Cit

/-- t bytes of X put over l, from place k on. -/
def overB (X : List UInt8) (k : Nat) : Nat → List UInt8 → List UInt8
  | 0, l => l
  | t + 1, l => (overB X k t l).set (k + t) (bXor ((overB X k t l).getD (k + t) 0) (X.getD t 0))
theorem overB_length (X : List UInt8) (k : Nat) : ∀ (t : Nat) (l : List UInt8), (overB X k t l).length = l.length
  | 0, _ => rfl
  | t + 1, l => by rw [overB, List.length_set, overB_length X k t l]

theorem over_four (X l : List UInt8) (k : Nat) (h : k + 4 ≤ l.length) (hX : X.length = 4) :
    (addP 0 l = addP 0 (overB X k 4 l)) ↔ X = [0, 0, 0, 0] := by
  match X, hX with
  | [x0, x1, x2, x3], _ =>
    obtain ⟨p, q, y0, y1, y2, y3, hp, rfl⟩ : ∃ p q y0 y1 y2 y3, p.length = k ∧ l = p ++ ([y0, y1, y2, y3] ++ q) := by
      have h4 : 4 ≤ (l.drop k).length := by rw [List.length_drop]; omega
      match hd : l.drop k, h4 with
      | y0 :: y1 :: y2 :: y3 :: q, _ => exact ⟨l.take k, q, y0, y1, y2, y3, by rw [List.length_take]; omega, (List.take_append_drop k l).symm.trans (by rw [hd]; rfl)⟩
    have e : overB [x0, x1, x2, x3] k 4 (p ++ ([y0, y1, y2, y3] ++ q)) = p ++ ([bXor y0 x0, bXor y1 x1, bXor y2 x2, bXor y3 x3] ++ q) := by
      subst hp
      simp [overB]
    rw [e]
    constructor
    · intro hs
      obtain ⟨rfl, rfl, rfl, rfl⟩ := sum_four p q y0 y1 y2 y3 x0 x1 x2 x3 hs
      rfl
    · intro hs
      simp only [List.cons.injEq, and_true] at hs
      obtain ⟨rfl, rfl, rfl, rfl⟩ := hs
      have z : ∀ y : UInt8, bXor y 0 = y := fun y => by unfold bXor; simp
      rw [z, z, z, z]

theorem row_zero (o : UInt32) : rowB (qOfW o) 4 = [0, 0, 0, 0] ↔ o = 0 := by
  have e : rowB (qOfW 0) 4 = [0, 0, 0, 0] := by decide +kernel
  constructor
  · intro h; exact row4_inj (h.trans e.symm)
  · rintro rfl; exact e

set_option maxHeartbeats 4000000 in
theorem crcTells_law (w : World) (a0 : Option Addr) (l : List UInt8) (c0 : Nat) (at_ : Int) (over : UInt32) (h0 : Row w a0 l c0) (hat : -9223372036854775808 ≤ at_ ∧ at_ ≤ 9223372036854775807) :
    Calls Try.prog 9 #[.slice a0 l.length c0, .int .i64 at_, vw over] w fun e w' => e = .returned (.bool true) ∧ Below w.heap.size w w' := by
  go_enter Try.func9, Try.ntmps9
  go_wp2_with fail
  refine (crcAwake_calls _).mono ?_
  rintro e w1 ⟨rfl, hb1⟩
  have r1 := h0.stay hb1
  clear h0
  by_cases hl : 2000 < l.length
  · go_wp2_with fail
    go_ret
    exact ⟨rfl, hb1⟩
  by_cases h1 : at_ < 0
  · go_wp2_with fail
    go_ret
    exact ⟨rfl, hb1⟩
  by_cases h2 : (l.length : Int) - 4 < at_
  · go_wp2_with fail
    go_ret
    exact ⟨rfl, hb1⟩
  obtain ⟨k, rfl⟩ : ∃ k : Nat, at_ = k := ⟨at_.toNat, by omega⟩
  have hk : k + 4 ≤ l.length := by omega
  go_wp2_with fail
  refine (toX (cat1_calls _ _ r1 (by omega))).mono ?_
  rintro e w2 ⟨a2, Y, c2, HY, rfl, hm2, hb2⟩
  have r2 := r1.stay hb2
  have HYl : Hid (Y = l) := HY.out
  clear HY
  go_wp2_with fail
  refine (toXn (rowB_length _ _) (put32_calls _ over)).mono ?_
  rintro e w3 ⟨a3, X, c3, HX, rfl, hm3, hb3⟩
  have m3 := hm2.stay hb3
  have B3 : Below w1.heap.size w1 w3 := hb2.trans (hb3.mono hb2.size)
  have z2 := hb2.size
  have z3 := hb3.size
  have hXl : Hid (X.length = 4) := by rw [Hid, HX.out, rowB_length]
  have hdis : ∀ g, blk a3 = some g → w2.heap.size ≤ g := fun g hg => by have := hm3.new g hg; omega
  have hlow : Hid (∀ g, blk a2 = some g → g < w2.heap.size) := by
    intro g hg
    have : 0 < Y.length := by rw [HYl.out]; omega
    have h := hm2.row.blk this
    cases a2 with
    | none => simp [blk] at hg
    | some p => simp [blk, ad] at hg h; omega
  have R1 := Lib.hid r1
  clear r1 r2 hm2 hb2
  go_wp2_with fail
  generalize decide (2000 < (l.length : Int)) = b1
  generalize decide ((k : Int) < 0) = b2
  generalize decide ((l.length : Int) - 4 < (k : Int)) = b3
  have HK := Lib.hid hk
  have HB := Lib.hid hl
  clear hl h1 h2 hk hat
  have HS3 := Lib.hid hm3
  clear hm3
  go_loopw [9] (fun i wr => ∃ (t : Nat) (V : List UInt8), Hid (V = overB X k t Y) ∧ Hid (V.length = Y.length) ∧ t ≤ 4 ∧ i = .int .i64 t ∧ Mine w1.heap.size wr a2 V c2 ∧ Mine w2.heap.size wr a3 X c3 ∧ Below w1.heap.size w1 wr) (fun i _ => 4 - (intOf i).toNat)
  case atStart => exact ⟨0, Y, rfl, rfl, by omega, rfl, m3, HS3.out, B3⟩
  case round =>
    clear m3 HS3 hb3 z3
    obtain ⟨t, V, HV, HVl, ht, rfl, mx, my, B⟩ := hrel
    obtain ⟨wo, rfl⟩ : ∃ wo : World, wo = wr := ⟨_, rfl⟩
    by_cases htl : t < 4
    · have hkV : k + t < V.length := by have := HK.out; rw [HVl.out, HYl.out]; omega
      have htX : t < X.length := by rw [hXl.out]; exact htl
      have i0 := mx.row.index bt.slice bt.sz (k + t) hkV
      rw [HVl.out, show ((k + t : Nat) : Int) = (k : Int) + (t : Int) by omega] at i0
      have hkb : k + t ≤ 3000 := by have := HK.out; have := HB.out; omega
      have e0 := mx.cellOf hkV
      have f0 := mx.free (k + t) hkV
      have i1 := my.row.index bt.slice bt.sz t htX
      have e1 := my.cellOf htX
      have HS := Lib.hid (mx.stored (k + t) hkV (bXor V[k + t] X[t]))
      have HT := Lib.hid (my.other (ad a2 (k + t)) (vb (bXor V[k + t] X[t])) (fun g hg => by
        have h5 := hdis g hg
        cases a2 with
        | none => have h6 := mx.row.spot (by intro h; simp [h] at hkV); simp at h6
        | some p => have := hlow.out p.block (by simp [blk]); simp only [ad]; omega))
      go_wp2_with fail
      go_region
      go_wp2_with fail
      go_roundw
      case rel =>
        obtain ⟨sm, _, sb⟩ := HS.out
        refine ⟨t + 1, V.set (k + t) (bXor V[k + t] X[t]), ?_, by rw [Hid, List.length_set]; exact HVl.out, by omega, by go_num, sm.drewN 1, HT.out.drewN 1, B.trans (sb.trans (below_drewN _ _ 1))⟩
        have e5 : V.getD (k + t) 0 = V[k + t] := by simp [List.getD, hkV]
        have e6 : X.getD t 0 = X[t] := by simp [List.getD, htX]
        rw [Hid, overB, ← HV.out, e5, e6]
      case measure => simp [intOf]; omega
    · have ht4 : t = 4 := by omega
      subst ht4
      have rl := R1.out.stay B
      have hc : Hid ((addP 0 l == addP 0 V) = (over == wI 0)) := by
        have h5 := over_four X l k HK.out hXl.out
        rw [← HYl.out, ← HV.out, HX.out, row_zero] at h5
        rw [Hid, Bool.eq_iff_iff, beq_iff_eq, beq_iff_eq, ← HYl.out]
        exact h5
      go_wp2_with fail
      refine (sum_calls _ _ _ _ rl).mono ?_
      rintro e w4 ⟨rfl, hb4⟩
      have m4 := mx.row.stay hb4
      go_wp2_with fail
      have hs := sum_calls _ _ _ _ m4
      rw [HVl.out] at hs
      refine Calls.mono hs ?_
      rintro e w5 ⟨rfl, hb5⟩
      have B5 := hb1.trans ((B.trans ((hb4.trans (hb5.mono hb4.size)).mono B.size)).mono hb1.size)
      clear hs
      go_wp2_with fail
      go_ret
      exact ⟨by rw [hc.out]; simp, B5⟩
end Go.Proofs.Ytbglmglgaobjmaa
