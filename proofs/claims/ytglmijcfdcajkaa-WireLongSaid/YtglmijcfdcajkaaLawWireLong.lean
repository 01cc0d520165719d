/- WireLong: a form of just MaxBytes bytes is told, and read; one byte more breaks the writer and the reader. The law's walk. -/
import Derived.Test.YtglmijcfdcajkaaWireOver
import Derived.Test.YtglmijcfdcajkaaWireGet
namespace Go.Proofs.Ytglmijcfdcajkaa
open Go Go.RowKit Go.Cit

theorem build_f3 (ρ : Operand → Value) (d : Option Tmp) (ty : TypeId) (ps : String) {af gd} (x : Operand) (w : World) (a : Option Addr) (k c : Nat) (hx : ρ x = .slice a k c) (h0 : ρ (.const (.int .i64 3)) = .int .i64 3) :
    (execOp ρ { dst := d, op := Op.build 31 #[(0, .const (.int .i64 3)), (4, x)], type := ty, pos := ps, after := af, guard := gd }).run Try.prog w = .ok (.value (.agg (Fl.cs ⟨3, 0, 0, false, a, List.replicate k 0, c, zeros32⟩).toArray)) w := by
  unfold execOp; dsimp only
  rw [show (#[((0 : Nat), Operand.const (.int .i64 3)), (4, x)].map fun (i, x) => (i, ρ x)) = #[(0, .int .i64 3), (4, .slice a k c)] by simp [hx, h0], Sem.run_bind]
  have : (Fl.cs ⟨3, 0, 0, false, a, List.replicate k 0, c, zeros32⟩).toArray = (#[.int .i64 3, vb 0, .int .i64 0, .bool false, .slice a k c] ++ (zeros32.map vb).toArray) := by simp [Fl.cs]
  rw [this]
  have h2 : (Instr.build 31 #[(0, .int .i64 3), (4, .slice a k c)]).run Try.prog w = .ok (.agg (#[.int .i64 3, vb 0, .int .i64 0, .bool false, .slice a k c] ++ (zeros32.map vb).toArray)) w := by kernel_rfl
  rw [h2]; rfl
theorem build_f0 (ρ : Operand → Value) (d : Option Tmp) (ty : TypeId) (ps : String) {af gd} (w : World) (h0 : ρ (.const (.int .u8 7)) = .int .u8 7) :
    (execOp ρ { dst := d, op := Op.build 31 #[(1, .const (.int .u8 7))], type := ty, pos := ps, after := af, guard := gd }).run Try.prog w = .ok (.value (.agg (Fl.cs ⟨0, 7, 0, false, none, [], 0, zeros32⟩).toArray)) w := by
  unfold execOp; dsimp only
  rw [show (#[((1 : Nat), Operand.const (.int .u8 7))].map fun (i, x) => (i, ρ x)) = #[(1, .int .u8 7)] by simp [h0], Sem.run_bind]
  have h2 : (Instr.build 31 #[(1, .int .u8 7)]).run Try.prog w = .ok (.agg (Fl.cs ⟨0, 7, 0, false, none, [], 0, zeros32⟩).toArray) w := by kernel_rfl
  rw [h2]; rfl
theorem f3_at {w : World} {a : Option Addr} {k c : Nat} (r : Row w a (List.replicate k 0) c) (hk : k ≤ 100000) : (Fl.mk 3 0 0 false a (List.replicate k 0) c zeros32).At w :=
  ⟨r, rfl, by simp, by simp, by simp; omega⟩
theorem f0_at (w : World) : (Fl.mk 0 7 0 false none [] 0 zeros32).At w := ⟨Row.nil_ w, rfl, by simp, by simp, by simp⟩

set_option maxRecDepth 100000 in
set_option maxHeartbeats 4000000 in
theorem wireLong_law (w : World) (n : Int) (beh : Bool) (_hn : -9223372036854775808 ≤ n ∧ n ≤ 9223372036854775807) :
    Calls Try.prog 4 #[.int .i64 n, .bool beh] w fun e w' => e = .returned (.bool true) ∧ Below w.heap.size w w' := by
  obtain ⟨C0, hC0⟩ : ∃ C0, Hid (C0 = (Fl.cs ⟨0, 7, 0, false, none, [], 0, zeros32⟩).toArray) := ⟨_, rfl⟩
  have hB0 := Lib.hid (fun ρ d ty ps af gd w h => build_f0 ρ d ty ps (af := af) (gd := gd) w h)
  rw [← hC0.out] at hB0
  go_enter Try.func4, Try.ntmps4
  by_cases h1 : n < 65520
  · have g1 : decide (n < 65520) = true := decide_eq_true h1
    clear h1
    go_wp2_with fail
    go_ret
    exact ⟨rfl, Below.refl _ _⟩
  by_cases h2 : 65540 < n
  · have g2 : decide (65540 < n) = true := decide_eq_true h2
    go_wp2_with fail
    go_ret
    exact ⟨rfl, Below.refl _ _⟩
  obtain ⟨m, rfl⟩ : ∃ m : Nat, n = (m : Int) := ⟨n.toNat, by omega⟩
  have m1 : 65520 ≤ m := by omega
  have m2 : m ≤ 65540 := by omega
  go_wp2_with fail
  refine (newwriter_calls _).mono ?_
  rintro e w1 ⟨rfl, hW, hb1⟩
  go_wp2_with (first | (refine wp_make_bytes bt (.tmp 18) (.tmp 18) rfl rfl m .i64 .i64 rfl rfl rfl (by omega) ?_; intro w2 hown hgr hsz) | ((with_reducible refine wpList_value (o := ⟨some 20, .build _ _, _, _, _, _⟩) (by with_unfolding_all rfl) (build_f3 _ _ _ _ _ _ _ _ _ (by with_unfolding_all rfl) (by with_unfolding_all rfl)) ?_)))
  have hb2 : Below w1.heap.size w1 w2 := (Below.refl _ _).grown hgr (Nat.le_refl _) (fun k hk => by cases hk)
  have hf3 := f3_at hown.isRow (by omega)
  have W2 := hW.stay hb2
  by_cases hov : 65536 < m + 4
  · have hk := ladd_over _ hf3 rfl W2 (by simp [minB]; omega)
    refine Calls.mono hk ?_
    rintro e w3 ⟨rfl, hW3, hS3⟩
    clear hk
    have HOV := Lib.hid hov
    have e1 : decide ((m : Int) + 4 ≤ 65536) = false := decide_eq_false (by omega)
    have e2 : decide ((65536 : Int) < (m : Int) + 4) = true := decide_eq_true (by omega)
    have M1 := Lib.hid m1
    have M2 := Lib.hid m2
    have hs2 := hb2.size
    have hs1 := hb1.size
    have Bd0 : Below w.heap.size w w3 := (hb1.trans (hb2.mono hb1.size)).trans (hS3.below (by omega) (fun k hk => by omega))
    have Z1 := Lib.hid hs1
    clear hov m1 m2 hs1 hs2
    cases beh
    · go_wp2_with fail
      have hWd := hW3
      have Bd := Bd0
      refine (done_broken hWd (by decide)).mono ?_
      rintro e w5 ⟨rfl, hd5⟩
      have B5 := Bd.trans (hd5.below _)
      go_wp2_with (refine wp_make_bytes bt (.tmp 38) (.tmp 38) rfl rfl (m + 4) .i64 .i64 rfl rfl rfl (by have := M2.out; omega) ?_; intro w6 hown6 hgr6 hsz6)
      have hb6 : Below w5.heap.size w5 w6 := (Below.refl _ _).grown hgr6 (Nat.le_refl _) (fun k hk => by cases hk)
      have B6 := B5.trans (hb6.mono B5.size)
      have hnr := newreader_calls _ hown6.isRow
      rw [List.length_replicate] at hnr
      rw [show St.new (List.replicate (m + 4) 0) = ⟨[], 3⟩ by unfold St.new; rw [if_neg (by have := HOV.out; simp; omega)]] at hnr
      refine Calls.mono hnr ?_
      rintro e w7 ⟨rfl, ⟨a7, c7, hR7⟩, hb7⟩
      have B7 := B6.trans (hb7.mono B6.size)
      clear hnr hb7 hown6 hgr6 hsz6 hb6 hd5
      go_wp2_with fail
      refine (rerr_calls hR7).mono ?_
      rintro e w8 ⟨rfl, rfl⟩
      go_wp2_with fail
      refine (rleft_calls hR7).mono ?_
      rintro e w9 ⟨rfl, rfl⟩
      rw [show St.left ⟨[], 3⟩ = 0 from rfl]
      go_wp2_with fail
      refine (rbyte_calls hR7).mono ?_
      rintro e w10 ⟨rfl, hR10, hS10⟩
      rw [show (St.read ⟨[], 3⟩ 1 fByte 0).1 = 0 from rfl]
      go_wp2_with fail
      go_ret
      exact ⟨rfl, B7.trans (hS10.below B7.size (fun k hk => by have := B6.size; omega))⟩
    · have hD := deafladd_calls (Deaf.of hW3 (by decide)) (Fl.mk 0 7 0 false none [] 0 zeros32) (f0_at w3) (by simp)
      rw [← hC0.out] at hD
      go_wp2_with ((with_reducible refine wpList_value (o := ⟨some 26, .build _ _, _, _, _, _⟩) (by with_unfolding_all rfl) (hB0.out _ _ _ _ _ _ _ (by with_unfolding_all rfl)) ?_))
      refine Calls.mono hD ?_
      rintro e w4 ⟨rfl, hb4⟩
      have hWd := hW3.stay hb4
      have Bd := Bd0.trans (hb4.mono Bd0.size)
      clear hD
      go_wp2_with fail
      refine (done_broken hWd (by decide)).mono ?_
      rintro e w5 ⟨rfl, hd5⟩
      have B5 := Bd.trans (hd5.below _)
      go_wp2_with (refine wp_make_bytes bt (.tmp 38) (.tmp 38) rfl rfl (m + 4) .i64 .i64 rfl rfl rfl (by have := M2.out; omega) ?_; intro w6 hown6 hgr6 hsz6)
      have hb6 : Below w5.heap.size w5 w6 := (Below.refl _ _).grown hgr6 (Nat.le_refl _) (fun k hk => by cases hk)
      have B6 := B5.trans (hb6.mono B5.size)
      have hnr := newreader_calls _ hown6.isRow
      rw [List.length_replicate] at hnr
      rw [show St.new (List.replicate (m + 4) 0) = ⟨[], 3⟩ by unfold St.new; rw [if_neg (by have := HOV.out; simp; omega)]] at hnr
      refine Calls.mono hnr ?_
      rintro e w7 ⟨rfl, ⟨a7, c7, hR7⟩, hb7⟩
      have B7 := B6.trans (hb7.mono B6.size)
      clear hnr hb7 hown6 hgr6 hsz6 hb6 hd5
      go_wp2_with fail
      refine (rerr_calls hR7).mono ?_
      rintro e w8 ⟨rfl, rfl⟩
      go_wp2_with fail
      refine (rleft_calls hR7).mono ?_
      rintro e w9 ⟨rfl, rfl⟩
      rw [show St.left ⟨[], 3⟩ = 0 from rfl]
      go_wp2_with fail
      refine (rbyte_calls hR7).mono ?_
      rintro e w10 ⟨rfl, hR10, hS10⟩
      rw [show (St.read ⟨[], 3⟩ 1 fByte 0).1 = 0 from rfl]
      go_wp2_with fail
      go_ret
      exact ⟨rfl, B7.trans (hS10.below B7.size (fun k hk => by have := B6.size; omega))⟩
  · have hby : Hid ((Fl.mk 3 0 0 false (some ⟨w1.heap.size, 0, none⟩) (List.replicate m 0) m zeros32).bytes.length = m + 4) := by rw [Hid, Fl.bytes]; simp [withB_length]
    have hk := ladd_calls _ hf3 W2 (Nat.le_trans hb1.size hb2.size) (by rw [hby.out]; simp; omega)
    refine Calls.mono hk ?_
    rintro e w3 ⟨a3, X, c3, HX, rfl, hW3, hS3, hN3⟩
    have HXl : Hid (X.length = m + 4) := by rw [Hid, HX.out, List.nil_append, hby.out]
    clear hk
    have HOV := Lib.hid hov
    have e1 : decide ((m : Int) + 4 ≤ 65536) = true := decide_eq_true (by omega)
    have e2 : decide ((65536 : Int) < (m : Int) + 4) = false := decide_eq_false (by omega)
    have M1 := Lib.hid m1
    have M2 := Lib.hid m2
    have hs2 := hb2.size
    have hs1 := hb1.size
    have Bd0 : Below w.heap.size w w3 := (hb1.trans (hb2.mono hb1.size)).trans (hS3.below (by omega) (fun k hk => ⟨by omega, by simp [Go.Cit.blk]⟩))
    have Z1 := Lib.hid hs1
    clear hov m1 m2 hs1 hs2
    cases beh
    · have hdn := done_calls hW3
      go_wp2_with fail
      refine Calls.mono hdn ?_
      rintro e w5 ⟨a5, V, c5, HV, rfl, hm5, hb5⟩
      have B5 := Bd0.trans (hb5.mono Bd0.size)
      have gv : ((V.length : Int) != (m : Int) + 4) = false := by rw [HV.out, HXl.out]; simp
      clear hdn hm5
      go_wp2_with (refine wp_make_bytes bt (.tmp 38) (.tmp 38) rfl rfl (m + 4) .i64 .i64 rfl rfl rfl (by have := M2.out; omega) ?_; intro w6 hown6 hgr6 hsz6)
      have hb6 : Below w5.heap.size w5 w6 := (Below.refl _ _).grown hgr6 (Nat.le_refl _) (fun k hk => by cases hk)
      have B6 := B5.trans (hb6.mono B5.size)
      have hnr := newreader_calls _ hown6.isRow
      have hst : Hid (St.new (List.replicate (m + 4) (0 : UInt8)) = ⟨List.replicate (m + 4) 0, 0⟩) := by have := HOV.out; unfold Hid St.new; rw [if_pos (by simp; omega)]
      rw [List.length_replicate, hst.out] at hnr
      refine Calls.mono hnr ?_
      rintro e w7 ⟨rfl, ⟨a7, c7, hR7⟩, hb7⟩
      have B7 := B6.trans (hb7.mono B6.size)
      have hle := rerr_calls hR7
      have hll := rleft_calls hR7
      rw [show (St.left ⟨List.replicate (m + 4) 0, 0⟩ : Int) = (m : Int) + 4 by simp [St.left]] at hll
      clear hnr hb7 hown6 hgr6 hsz6 hb6 hst hR7
      go_wp2_with fail
      refine Calls.mono hle ?_
      rintro e w8 ⟨rfl, rfl⟩
      clear hle
      go_wp2_with fail
      refine Calls.mono hll ?_
      rintro e w9 ⟨rfl, rfl⟩
      clear hll
      go_wp2_with fail
      go_ret
      exact ⟨rfl, B7⟩
    · have hbX : ∀ {wx}, (Fl.mk 0 7 0 false none [] 0 zeros32).At wx := fun {wx} => f0_at wx
      by_cases h9 : m + 4 = 65536
      · have hD := ladd0_over (Fl.mk 0 7 0 false none [] 0 zeros32) (f0_at w3) rfl hW3 (by rw [HXl.out]; omega)
        rw [← hC0.out] at hD
        have e3 : decide ((65536 : Int) < (m : Int) + 4 + 1) = true := decide_eq_true (by omega)
        have e4 : decide ((65536 : Int) < (m : Int) + 5) = true := decide_eq_true (by omega)
        have H9 := Lib.hid h9
        clear h9
        go_wp2_with ((with_reducible refine wpList_value (o := ⟨some 26, .build _ _, _, _, _, _⟩) (by with_unfolding_all rfl) (hB0.out _ _ _ _ _ _ _ (by with_unfolding_all rfl)) ?_))
        refine Calls.mono hD ?_
        rintro e w4 ⟨rfl, hW4, hS4⟩
        have Bd := Bd0.trans (hS4.below Bd0.size (fun k hk => by omega))
        clear hD
        go_wp2_with fail
        refine (done_broken hW4 (by decide)).mono ?_
        rintro e w5 ⟨rfl, hd5⟩
        have B5 := Bd.trans (hd5.below _)
        clear hd5
        go_wp2_with (refine wp_make_bytes bt (.tmp 38) (.tmp 38) rfl rfl (m + 4) .i64 .i64 rfl rfl rfl (by have := M2.out; omega) ?_; intro w6 hown6 hgr6 hsz6)
        have hb6 : Below w5.heap.size w5 w6 := (Below.refl _ _).grown hgr6 (Nat.le_refl _) (fun k hk => by cases hk)
        have B6 := B5.trans (hb6.mono B5.size)
        have hnr := newreader_calls _ hown6.isRow
        have hst : Hid (St.new (List.replicate (m + 4) (0 : UInt8)) = ⟨List.replicate (m + 4) 0, 0⟩) := by have := HOV.out; unfold Hid St.new; rw [if_pos (by simp; omega)]
        rw [List.length_replicate, hst.out] at hnr
        refine Calls.mono hnr ?_
        rintro e w7 ⟨rfl, ⟨a7, c7, hR7⟩, hb7⟩
        have B7 := B6.trans (hb7.mono B6.size)
        have hle := rerr_calls hR7
        have hll := rleft_calls hR7
        rw [show (St.left ⟨List.replicate (m + 4) 0, 0⟩ : Int) = (m : Int) + 4 by simp [St.left]] at hll
        clear hnr hb7 hown6 hgr6 hsz6 hb6 hst hR7
        go_wp2_with fail
        refine Calls.mono hle ?_
        rintro e w8 ⟨rfl, rfl⟩
        clear hle
        go_wp2_with fail
        refine Calls.mono hll ?_
        rintro e w9 ⟨rfl, rfl⟩
        clear hll
        go_wp2_with fail
        go_ret
        exact ⟨rfl, B7⟩
      · have hby0 : Hid ((Fl.mk 0 7 0 false none [] 0 zeros32).bytes = [7]) := by rw [Hid, Fl.bytes]; simp
        have hD := ladd_calls (Fl.mk 0 7 0 false none [] 0 zeros32) (f0_at w3) hW3 Bd0.size (by rw [hby0.out, HXl.out]; have := HOV.out; simp; omega)
        rw [← hC0.out] at hD
        have e3 : decide ((65536 : Int) < (m : Int) + 4 + 1) = false := decide_eq_false (by have := HOV.out; omega)
        have e4 : decide ((65536 : Int) < (m : Int) + 5) = false := decide_eq_false (by have := HOV.out; omega)
        have H9 := Lib.hid h9
        clear h9
        go_wp2_with ((with_reducible refine wpList_value (o := ⟨some 26, .build _ _, _, _, _, _⟩) (by with_unfolding_all rfl) (hB0.out _ _ _ _ _ _ _ (by with_unfolding_all rfl)) ?_))
        refine Calls.mono hD ?_
        rintro e w4 ⟨a4, X4, c4, HX4, rfl, hW4, hS4, hN4⟩
        have Bd := Bd0.trans (hS4.below Bd0.size (fun k hk => ⟨by omega, fun he => by have := (hW3.own.blk_ge he.symm).1; omega⟩))
        have HX4l : Hid (X4.length = m + 4 + 1) := by rw [Hid, HX4.out, hby0.out, List.length_append, HXl.out]; rfl
        have hdn := done_calls hW4
        clear hD
        go_wp2_with fail
        refine Calls.mono hdn ?_
        rintro e w5 ⟨a5, V, c5, HV, rfl, hm5, hb5⟩
        have B5 := Bd.trans (hb5.mono Bd.size)
        have gv : ((V.length : Int) != (m : Int) + 4 + 1) = false := by rw [HV.out, HX4l.out]; simp
        have gv2 : ((V.length : Int) != (m : Int) + 5) = false := by rw [HV.out, HX4l.out]; simp; omega
        clear hdn hm5
        go_wp2_with (refine wp_make_bytes bt (.tmp 38) (.tmp 38) rfl rfl (m + 4) .i64 .i64 rfl rfl rfl (by have := M2.out; omega) ?_; intro w6 hown6 hgr6 hsz6)
        have hb6 : Below w5.heap.size w5 w6 := (Below.refl _ _).grown hgr6 (Nat.le_refl _) (fun k hk => by cases hk)
        have B6 := B5.trans (hb6.mono B5.size)
        have hnr := newreader_calls _ hown6.isRow
        have hst : Hid (St.new (List.replicate (m + 4) (0 : UInt8)) = ⟨List.replicate (m + 4) 0, 0⟩) := by have := HOV.out; unfold Hid St.new; rw [if_pos (by simp; omega)]
        rw [List.length_replicate, hst.out] at hnr
        refine Calls.mono hnr ?_
        rintro e w7 ⟨rfl, ⟨a7, c7, hR7⟩, hb7⟩
        have B7 := B6.trans (hb7.mono B6.size)
        have hle := rerr_calls hR7
        have hll := rleft_calls hR7
        rw [show (St.left ⟨List.replicate (m + 4) 0, 0⟩ : Int) = (m : Int) + 4 by simp [St.left]] at hll
        clear hnr hb7 hown6 hgr6 hsz6 hb6 hst hR7
        go_wp2_with fail
        refine Calls.mono hle ?_
        rintro e w8 ⟨rfl, rfl⟩
        clear hle
        go_wp2_with fail
        refine Calls.mono hll ?_
        rintro e w9 ⟨rfl, rfl⟩
        clear hll
        go_wp2_with fail
        go_ret
        exact ⟨rfl, B7⟩
end Go.Proofs.Ytglmijcfdcajkaa
