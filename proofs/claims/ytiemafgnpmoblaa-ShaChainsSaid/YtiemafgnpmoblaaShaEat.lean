/- (sha.State).eat: walked. -/
import Derived.Test.YtiemafgnpmoblaaShaEat1
namespace Go.Proofs.Ytiemafgnpmoblaa
open Go Go.RowKit Go.Cit

set_option maxRecDepth 100000 in
set_option maxHeartbeats 4000000 in
theorem eat_calls (w : World) (s : S8) (a : Option Addr) (b : List UInt8) (c : Nat) (K : List UInt32) (hr : Row w a b c) (hb : b.length = 64) (hK : K.length = 64) :
    Calls Try.prog 47 #[.agg (s.l.map vw).toArray, .slice a 64 c, .agg (K.map vw).toArray] w fun e w' => e = .returned (.agg ((s.eat K b).l.map vw).toArray) ∧ Below w.heap.size w w' := by
  have HA := Lib.hid (fun ρ d ty ps af w => alloc_state ρ d ty ps (af := af) w)
  obtain ⟨Z, hZ⟩ : ∃ Z, Hid (Z = ((List.replicate 64 (0 : UInt32)).map vw).toArray) := ⟨_, rfl⟩
  obtain ⟨Y, hY⟩ : ∃ Y, Hid (Y = ((List.replicate 8 (0 : UInt32)).map vw).toArray) := ⟨_, rfl⟩
  obtain ⟨S, hS⟩ : ∃ S, Hid (S = (s.l.map vw).toArray) := ⟨_, rfl⟩
  obtain ⟨KV, hKV⟩ : ∃ S, Hid (S = (K.map vw).toArray) := ⟨_, rfl⟩
  obtain ⟨F, hF⟩ : ∃ F, Hid (F = ((sched b 64).map vw).toArray) := ⟨_, rfl⟩
  rw [← hY.out] at HA
  rw [← hS.out, ← hKV.out]
  have HZ : Hid (Z.size = 64) := by rw [Hid, hZ.out]; simp
  have HY : Hid (Y.size = 8) := by rw [Hid, hY.out]; simp
  have HSs : Hid (S.size = 8) := by rw [Hid, hS.out]; simp [S8.l]
  have HFs : Hid (F.size = 64) := by rw [Hid, hF.out]; simp [sched_length]
  have HSo : Hid (S.all (·.oneCell') = true) := by rw [Hid, hS.out]; exact arr_ok _
  have HFo : Hid (F.all (·.oneCell') = true) := by rw [Hid, hF.out]; exact arr_ok _
  have HR := Lib.hid hr
  have HBL := Lib.hid hb
  have HKL := Lib.hid hK
  clear hr hb hK
  go_enter Try.func47, Try.ntmps47
  go_wp2_with (first
    | ((with_reducible refine wpList_boxB (o := ⟨some 3, .box _ (.tmp 0), _, _, _, _⟩) (.tmp 0) (by with_unfolding_all rfl) (by with_unfolding_all rfl) (by with_unfolding_all rfl) ?_))
    | ((with_reducible refine wpList_boxB (o := ⟨some 5, .box _ (.tmp 2), _, _, _, _⟩) (.tmp 2) (by with_unfolding_all rfl) (by with_unfolding_all rfl) (by with_unfolding_all rfl) ?_))
    | ((with_reducible refine wpList_value (o := ⟨some 6, .alloc _, _, _, _, _⟩) (by with_unfolding_all rfl) (HA.out _ _ _ _ _ _) ?_)))
  have hsz : (((w.alloc (.cells S 24)).alloc (.cells KV 69)).alloc (.cells Y 24)).heap.size = w.heap.size + 3 := by simp
  have B0 : Below w.heap.size w (((w.alloc (.cells S 24)).alloc (.cells KV 69)).alloc (.cells Y 24)) := (((Below.refl _ w).alloc (Nat.le_refl _) _).alloc (by simp) _).alloc (by simp; omega) _
  have b0 : (((w.alloc (.cells S 24)).alloc (.cells KV 69)).alloc (.cells Y 24)).heap[w.heap.size]? = some (.cells S 24 (0, 0)) :=
    (Below.heap_alloc _ _ _ (by simp; omega)).trans ((Below.heap_alloc _ _ _ (by simp)).trans (heap_alloc_new w _))
  have b1 : (((w.alloc (.cells S 24)).alloc (.cells KV 69)).alloc (.cells Y 24)).heap[w.heap.size + 1]? = some (.cells KV 69 (0, 0)) := by
    refine (Below.heap_alloc _ _ _ (by simp)).trans ?_
    have := heap_alloc_new (w.alloc (.cells S 24)) (.cells KV 69)
    rwa [World.size_alloc] at this
  have b2 : (((w.alloc (.cells S 24)).alloc (.cells KV 69)).alloc (.cells Y 24)).heap[w.heap.size + 2]? = some (.cells Y 24 (0, 0)) := by
    have := heap_alloc_new ((w.alloc (.cells S 24)).alloc (.cells KV 69)) (.cells Y 24)
    rwa [World.size_alloc, World.size_alloc] at this
  simp only [World.size_alloc]
  generalize (((w.alloc (.cells S 24)).alloc (.cells KV 69)).alloc (.cells Y 24)) = W at hsz B0 b0 b1 b2 ⊢
  have HRW : Hid (Row W a b c) := HR.out.stay B0
  refine wp_region_st (eatC W.heap.size W F S Z Y) (fun _ _ _ => True) (eatT a c F S) (by kernel_rfl) (by kernel_rfl) ?_ ?_ ?_ ?_
  · intro w' hb hh
    exact ⟨hb, fun h => absurd h Bool.false_ne_true, fun h => absurd h Bool.false_ne_true⟩
  · intro δ i j o v a w w' _ _ _ _ _ _ _ h
    rcases hd : o.dst with _ | d
    · exact tyP_none hd _ _
    · rw [tyP_some hd] at h ⊢
      exact eatT_any h
  · refine opsAll_cons ?_ (opsAll_cons ?_ (opsAll_cons ?_ (opsAll_cons ?_ (opsAll_cons ?_ (opsAll_cons ?_ (opsAll_cons ?_ opsAll_nil))))))
    all_goals intro δ wa wx hk
    · exact ⟨wanted_free rfl, gp_move (.tmp 1) rfl ⟨trivial, eatC_pure hk.inv rfl (Below.refl _ _) (by decide) (by decide), hk.old 1 (by kernel_rfl)⟩⟩
    · refine ⟨wanted_free rfl, gp_call rfl (hk.fn _) #[.slice a 64 c] (fun w => by kernel_rfl) (by simp [show wa.eval (.tmp 15) = _ from hk.slot 15 (by kernel_rfl)]) ((schedule_calls wx a b c (HRW.out.stay hk.inv.1) HBL.out).mono ?_)⟩
      rintro e w' ⟨rfl, hb⟩
      exact ⟨_, rfl, trivial, eatC_pure hk.inv rfl hb (by decide) (by decide), by rw [← hF.out]; rfl⟩
    · have hb := (hk.inv.1.block w.heap.size (by omega)).trans b0
      exact ⟨wanted_free rfl, gp_loadB row_state (.tmp 3) rfl (hk.old 3 (by kernel_rfl)) hb HSs.out ⟨trivial, eatC_pure hk.inv rfl (Below.refl _ _) (by decide) (by decide), rfl⟩⟩
    · refine ⟨wanted_free rfl, gp_run (alloc_w64 _ _ _ _ wx) ?_⟩
      rw [← hZ.out]
      exact ⟨trivial, eatC_a7 hk.inv rfl (hk.closed.yet 8 5 3 (by kernel_rfl) hk.yet) (by rw [hk.same.2.1, put_size, put_size, put_size]; exact (by decide : 7 < 93)), trivial⟩
    · refine ⟨wanted_free rfl, gp_run (alloc_state _ _ _ _ wx) ?_⟩
      rw [← hY.out]
      exact ⟨trivial, eatC_a8 hk.inv rfl (hk.closed.yet 8 6 4 (by kernel_rfl) hk.yet) (by rw [hk.same.2.1, put_size, put_size, put_size]; exact (by decide : 8 < 93)), trivial⟩
    · have h3 : δ 3 = true := by have := hk.next.needs 8 5 3 (by kernel_rfl) (upd_same _ _); rwa [upd_other δ (by decide)] at this
      obtain ⟨g, e, hg, hc⟩ := hk.inv.2.1 h3
      rw [hk.yet] at hc
      refine ⟨wanted_free rfl, gp_storeB row_w64 (.tmp 7) (.tmp 16) rfl e (hk.slot 16 (by kernel_rfl)) hc HZ.out HFs.out HFo.out ?_⟩
      intro w' hb hs
      exact ⟨trivial, eatC_s7 hk.inv e hg ⟨_, hc⟩ hb hs, tyP_none rfl _ _⟩
    · have h4 : δ 4 = true := by have := hk.next.needs 8 6 4 (by kernel_rfl) (upd_same _ _); rwa [upd_other δ (by decide)] at this
      obtain ⟨g, e, hg, hc⟩ := hk.inv.2.2 h4
      rw [hk.yet] at hc
      refine ⟨wanted_free rfl, gp_storeB row_state (.tmp 8) (.tmp 17) rfl e (hk.slot 17 (by kernel_rfl)) hc HY.out HSs.out HSo.out ?_⟩
      intro w' hb hs
      exact ⟨trivial, eatC_s8 hk.inv e hg ⟨_, hc⟩ hb hs, tyP_none rfl _ _⟩
  intro δ wa wx hall hC hsame hT
  obtain ⟨hB, h7, h8⟩ := hC
  obtain ⟨g7, e7, hg7, hc7⟩ := h7 (hall 3 (by decide))
  obtain ⟨g8, e8, hg8, hc8⟩ := h8 (hall 4 (by decide))
  rw [hall 5 (by decide), if_pos rfl] at hc7
  rw [hall 6 (by decide), if_pos rfl] at hc8
  have he := act_same hsame [15, 16, 17, 7, 8] (by kernel_rfl)
  simp only [List.foldl_cons, List.foldl_nil] at he
  rw [show wa.eval (.tmp 15) = _ from hT 15 (by kernel_rfl), show wa.eval (.tmp 16) = _ from hT 16 (by kernel_rfl), show wa.eval (.tmp 17) = _ from hT 17 (by kernel_rfl), show wa.eval (.tmp 7) = _ from e7, show wa.eval (.tmp 8) = _ from e8] at he
  subst he
  clear hT hsame e7 e8 hall h7 h8
  have A3 : Arr 24 wx w.heap.size s.l := by
    have := (hB.block w.heap.size (by omega)).trans b0; rw [hS.out] at this; exact this
  have A5 : Arr 69 wx (w.heap.size + 1) K := by
    have := (hB.block (w.heap.size + 1) (by omega)).trans b1; rw [hKV.out] at this; exact this
  have A6 : wx.heap[w.heap.size + 2]? = some (.cells Y 24 (0, 0)) := (hB.block (w.heap.size + 2) (by omega)).trans b2
  have A7 : Arr 69 wx g7 (sched b 64) := by rw [hF.out] at hc7; exact hc7
  have A8 : Arr 24 wx g8 s.l := by rw [hS.out] at hc8; exact hc8
  have B := B0.trans (hB.mono (by omega))
  have hne : g7 ≠ g8 := by
    rintro rfl
    rw [hc7] at hc8
    injection hc8 with hc8
    injection hc8 with _ hc8
    exact absurd hc8 (by decide)
  obtain ⟨L, hL⟩ : ∃ L, Hid (L = sched b 64) := ⟨_, rfl⟩
  have HLL : Hid (L.length = 64) := by rw [Hid, hL.out, sched_length]
  rw [← hL.out] at A7
  rw [hsz] at hg7 hg8
  clear b0 b1 b2 hsz B0 hc7 hc8 hB HRW HR HA HZ HFs HFo hF hZ
  go_wp2_with fail
  go_loopw [18] (fun i wr => ∃ (k : Nat) (x : S8), k ≤ 64 ∧ i = .int .i64 k ∧ Hid (x = s.rounds K L k) ∧ Arr 24 wr g8 x.l ∧ Save (· ≠ g8) wx wr) (fun i _ => 64 - (intOf i).toNat)
  case atStart => exact ⟨0, s, Nat.zero_le _, rfl, rfl, A8, Save.refl _ _⟩
  case round =>
    clear A8
    obtain ⟨k, x, hk, rfl, HX, AX, hsv⟩ := hrel
    have A5' := A5.save hsv (by omega)
    have A7' := A7.save hsv hne
    by_cases hlt : k < 64
    · have d1 : decide ((k : Int) < 64) = true := by simp; omega
      have HKK := HKL.out
      have HLK := HLL.out
      have j0 := fun W => arr_lit (T := 24) (n := 8) Try.underlying24 g8 0 (by decide) W 0 rfl
      have j1 := fun W => arr_lit (T := 24) (n := 8) Try.underlying24 g8 1 (by decide) W 1 rfl
      have j2 := fun W => arr_lit (T := 24) (n := 8) Try.underlying24 g8 2 (by decide) W 2 rfl
      have j4 := fun W => arr_lit (T := 24) (n := 8) Try.underlying24 g8 4 (by decide) W 4 rfl
      have j5 := fun W => arr_lit (T := 24) (n := 8) Try.underlying24 g8 5 (by decide) W 5 rfl
      have j6 := fun W => arr_lit (T := 24) (n := 8) Try.underlying24 g8 6 (by decide) W 6 rfl
      have j7 := fun W => arr_lit (T := 24) (n := 8) Try.underlying24 g8 7 (by decide) W 7 rfl
      have jk := fun W => arr_index (T := 69) (n := 64) Try.underlying69 (w.heap.size + 1) k (by omega) W
      have jw := fun W => arr_index (T := 69) (n := 64) Try.underlying69 g7 k (by omega) W
      have c0 : wr.cell? ⟨g8, 0, none⟩ = some (vw x.a) := AX.cell 0 (by decide : 0 < 8)
      have c1 : wr.cell? ⟨g8, 1, none⟩ = some (vw x.b) := AX.cell 1 (by decide : 1 < 8)
      have c2 : wr.cell? ⟨g8, 2, none⟩ = some (vw x.c) := AX.cell 2 (by decide : 2 < 8)
      have c4 : wr.cell? ⟨g8, 4, none⟩ = some (vw x.e) := AX.cell 4 (by decide : 4 < 8)
      have c5 : wr.cell? ⟨g8, 5, none⟩ = some (vw x.f) := AX.cell 5 (by decide : 5 < 8)
      have c6 : wr.cell? ⟨g8, 6, none⟩ = some (vw x.g) := AX.cell 6 (by decide : 6 < 8)
      have c7 : wr.cell? ⟨g8, 7, none⟩ = some (vw x.h) := AX.cell 7 (by decide : 7 < 8)
      have ck : wr.cell? ⟨w.heap.size + 1, k, none⟩ = some (vw (K.getD k 0)) := arr_get A5' k (by omega)
      have cw : wr.cell? ⟨g7, k, none⟩ = some (vw (L.getD k 0)) := arr_get A7' k (by omega)
      have d4 : ∀ n, ({ wr with drawn := n } : World).cell? ⟨g8, 4, none⟩ = some (vw x.e) := fun _ => c4
      have d7 : ∀ n, ({ wr with drawn := n } : World).cell? ⟨g8, 7, none⟩ = some (vw x.h) := fun _ => c7
      have dk : ∀ n, ({ wr with drawn := n } : World).cell? ⟨w.heap.size + 1, k, none⟩ = some (vw (K.getD k 0)) := fun _ => ck
      have dw : ∀ n, ({ wr with drawn := n } : World).cell? ⟨g7, k, none⟩ = some (vw (L.getD k 0)) := fun _ => cw
      obtain ⟨y, hy⟩ : ∃ y, Hid (y = x.rnd (K.getD k 0) (L.getD k 0)) := ⟨_, rfl⟩
      have HYR : Hid (y = s.rounds K L (k + 1)) := by rw [Hid, hy.out, HX.out]; rfl
      generalize K.getD k 0 = kk at ck dk hy
      generalize L.getD k 0 = ll at cw dw hy
      have wa : ∀ x y : UInt32, IntKind.u32.wrap ((x.toNat : Int) + y.toNat) = ((wAdd x y).toNat : Int) := wrap_w_add
      have bx : ∀ x y : UInt32, bits .xor .u32 (x.toNat : Int) y.toNat = ((wXor x y).toNat : Int) := bits_w_xor
      have ba : ∀ x y : UInt32, bits .and .u32 (x.toNat : Int) y.toNat = ((wAnd x y).toNat : Int) := bits_w_and
      have bo : ∀ x y : UInt32, bits .or .u32 (x.toNat : Int) y.toNat = ((wOr x y).toNat : Int) := bits_w_or
      clear HKK HLK
      go_wp2_with fail
      refine wp_region_still_lit (by kernel_rfl) (by kernel_rfl) ?_
      repeat still_step
      still_call (turned_calls _ x.e 6 11 25 (by decide) (by decide) (by decide) (by decide) (by decide) (by decide))
      repeat still_step
      refine wpStill_nil ?_
      change Exit.then _ _ _ _ wr.drew
      obtain ⟨T, hT⟩ : ∃ T, Hid (T = wAdd (wAdd (wAdd (wAdd x.h (turnedW 6 11 25 x.e)) (wXor x.g (wAnd x.e (wXor x.f x.g)))) kk) ll) := ⟨_, rfl⟩
      obtain ⟨M, hM⟩ : ∃ M, Hid (M = wOr (wAnd x.a x.b) (wAnd x.c (wOr x.a x.b))) := ⟨_, rfl⟩
      rw [← hT.out, ← hM.out]
      have AXd : Arr 24 wr.drew g8 x.l := AX
      have hsvd : Save (· ≠ g8) wx wr.drew := hsv.drew
      clear c0 c1 c2 c4 c5 c6 c7 ck cw d4 d7 dk dw AX hsv A5' A7'
      generalize wr.drew = wr at AXd hsvd ⊢
      have c0 : wr.cell? ⟨g8, 0, none⟩ = some (vw x.a) := AXd.cell 0 (by decide : 0 < 8)
      go_wp2_with fail
      refine (turned_calls _ x.a 2 13 22 (by decide) (by decide) (by decide) (by decide) (by decide) (by decide)).mono ?_
      rintro e w' ⟨rfl, rfl⟩
      go_wp2_with fail
      have l1 := state_from1 g8
      have l7 := state_upto7 g8
      go_still_tail 2, (by kernel_rfl)
      change wpList _ _ _ _ _ w'.drew
      have AXe : Arr 24 w'.drew g8 x.l := AXd
      have hsve : Save (· ≠ g8) wx w'.drew := hsvd.drew
      clear c0 AXd hsvd l1 l7
      generalize w'.drew = wr at AXe hsve ⊢
      obtain ⟨w3, hrun, A3x, hs3⟩ := state_copy wr g8 x AXe 3
      refine wpList_copy_run rfl (.tmp 67) (.tmp 68) 33 33 rfl _ _ rfl rfl hrun ?_
      have hsv3 := hsve.trans hs3
      clear hrun AXe hsve hs3
      have c4 : w3.cell? ⟨g8, 4, none⟩ = some (vw x.d) := A3x.cell 4 (by decide : 4 < 8)
      have f4 : w3.frozen? ⟨g8, 4, none⟩ = false := A3x.free 4
      have AY := (A3x.set 4 (wAdd x.d T)).set 0 (wAdd T (wAdd (turnedW 2 13 22 x.a) M))
      have c0 : (w3.setCell ⟨g8, 4, none⟩ (vw (wAdd x.d T))).cell? ⟨g8, 0, none⟩ = some (vw x.a) := (A3x.set 4 (wAdd x.d T)).cell 0 (by decide : 0 < 8)
      have f0 : (w3.setCell ⟨g8, 4, none⟩ (vw (wAdd x.d T))).frozen? ⟨g8, 0, none⟩ = false := (A3x.set 4 (wAdd x.d T)).free 0
      have HAY : Hid (Arr 24 ((w3.setCell ⟨g8, 4, none⟩ (vw (wAdd x.d T))).setCell ⟨g8, 0, none⟩ (vw (wAdd T (wAdd (turnedW 2 13 22 x.a) M)))) g8 y.l) := by
        rw [Hid, hy.out]; rw [hT.out, hM.out] at AY ⊢; exact AY
      have HSV := Lib.hid ((hsv3.trans (Save.set (b := g8) (i := 4) (v := vw (wAdd x.d T)))).trans (Save.set (b := g8) (i := 0) (v := vw (wAdd T (wAdd (turnedW 2 13 22 x.a) M)))))
      clear AY A3x hsv3
      go_wp2_with fail
      go_roundw
      case rel => exact ⟨k + 1, y, by omega, by go_num, HYR, HAY.out, HSV.out⟩
      case measure => simp [intOf]; omega
    · have hk2 : k = 64 := by omega
      have d1 : decide ((k : Int) < 64) = false := by simp; omega
      obtain ⟨z, hz⟩ : ∃ z, Hid (z = s.eat K b) := ⟨_, rfl⟩
      have HZX : Hid (x.plus s = z) := by rw [Hid, hz.out, HX.out, hk2, hL.out]; rfl
      clear HX hk2 A5' A7' A5 A7 hne HLL HKL hL hKV
      go_wp2_with fail
      go_loopw [80] (fun i wr => ∃ (k : Nat), k ≤ 8 ∧ i = .int .i64 k ∧ Arr 24 wr g8 ((x.plus s).l.take k ++ x.l.drop k) ∧ Save (· ≠ g8) wx wr) (fun i _ => 8 - (intOf i).toNat)
      case atStart => exact ⟨0, Nat.zero_le _, rfl, AX, hsv⟩
      case round =>
        clear AX hsv
        obtain ⟨k, hk, rfl, AX, hsv⟩ := hrel
        by_cases hlt : k < 8
        · have d1 : decide ((k : Int) < 8) = true := by simp; omega
          have A3' := A3.save hsv (by omega)
          have jx := fun W => arr_index (T := 24) (n := 8) Try.underlying24 g8 k hlt W
          have js := fun W => arr_index (T := 24) (n := 8) Try.underlying24 w.heap.size k hlt W
          have cx : ∀ n, ({ wr with drawn := n } : World).cell? ⟨g8, k, none⟩ = some (vw (x.l.getD k 0)) := fun _ => by
            have := arr_get AX k (by simp [S8.l]; omega)
            rw [plus_get x s k hlt] at this; exact this
          have cs : ∀ n, ({ wr with drawn := n } : World).cell? ⟨w.heap.size, k, none⟩ = some (vw (s.l.getD k 0)) := fun _ => arr_get A3' k (by simp [S8.l]; omega)
          have AN := (show Arr 24 wr.drew g8 _ from AX).set k (wAdd (x.l.getD k 0) (s.l.getD k 0))
          rw [plus_next x s k hlt] at AN
          have HSV := Lib.hid (hsv.drew.trans (Save.set (b := g8) (i := k) (v := vw (wAdd (x.l.getD k 0) (s.l.getD k 0)))))
          have fx : wr.drew.frozen? ⟨g8, k, none⟩ = false := AX.free k
          have ex : wr.drew.cell? ⟨g8, k, none⟩ = some (vw (x.l.getD k 0)) := cx _
          have HAN := Lib.hid AN
          generalize x.l.getD k 0 = p at cx ex HSV HAN
          generalize s.l.getD k 0 = q at cs HSV HAN
          have wa : ∀ x y : UInt32, IntKind.u32.wrap ((x.toNat : Int) + y.toNat) = ((wAdd x y).toNat : Int) := wrap_w_add
          clear AX hsv A3' AN
          go_wp2_with fail
          go_still_tail 8, (by kernel_rfl)
          change wpList _ _ _ _ _ wr.drew
          clear cx cs
          generalize wr.drew = wr at fx ex HSV HAN ⊢
          go_wp2_with fail
          go_roundw
          case rel => exact ⟨k + 1, by omega, by go_num, HAN.out, HSV.out⟩
          case measure => simp [intOf]; omega
        · have hk2 : k = 8 := by omega
          have d1 : decide ((k : Int) < 8) = false := by simp; omega
          obtain ⟨E, hE⟩ : ∃ E, Hid (E = (z.l.map vw).toArray) := ⟨_, rfl⟩
          have HE1 : Hid (E.size = 8) := by rw [Hid, hE.out]; simp [S8.l]
          have HEO : Hid (E.all (·.oneCell') = true) := by rw [Hid, hE.out]; exact arr_ok _
          have HA1 : Hid (wr.heap[g8]? = some (.cells E 24 (0, 0))) := by
            rw [Hid, hE.out, ← HZX.out]; rw [hk2] at AX; exact AX
          have HA6 : Hid (wr.heap[w.heap.size + 2]? = some (.cells Y 24 (0, 0))) := (hsv.block _ (Array.getElem?_eq_some_iff.1 A6).1 (by omega)).trans A6
          clear hk2 AX
          go_wp2_with (first
            | ((with_reducible refine wpList_loadB (o := ⟨some 92, .load _ _, _, _, _, _⟩) row_state (.tmp 8) (by with_unfolding_all rfl) (by with_unfolding_all rfl) (by with_unfolding_all rfl) HA1.out HE1.out ?_))
            | ((with_reducible refine wpList_storeB (o := ⟨none, .store _ (.tmp 6) (.tmp 92), _, _, _, _⟩) row_state (.tmp 6) (.tmp 92) (by with_unfolding_all rfl) (by with_unfolding_all rfl) (by with_unfolding_all rfl) (by with_unfolding_all rfl) (by with_unfolding_all rfl) HA6.out HY.out HE1.out HEO.out ?_); intro w4 hb4 hS4))
          refine bodyPost_ret (resB1 row_state rfl rfl hb4 HE1.out) rfl ⟨by rw [hE.out, hz.out], ?_⟩
          have h1 := B.size
          have h2 := hsv.size
          exact B.trans (((hsv.below (B := w.heap.size) (by omega) (fun j hj => by omega))).trans (hS4.below (by omega) (fun j hj => by omega)))
end Go.Proofs.Ytiemafgnpmoblaa
