/- Texts of the proof, one behind the other: ShaEat, ShaFrac, ShaPrimes, ShaFirst. No condition but those that each names. -/
import Derived.Test.YtlholdllibghbaaGreatG23
import Derived.Test.YtlholdllibghbaaGreatShelf
import Derived.Test.YtlholdllibghbaaGreatProg
import Derived.Test.YtlholdllibghbaaGreatG00
import Derived.IntWalk
import Derived.Maps.AppendAt
import Derived.RangeFuncBox
import Derived.Test.YtlholdllibghbaaGreatG21
import Derived.Test.YtlholdllibghbaaGreatG22
/- (sha.State).eat: walked. -/
namespace Go.Proofs.YtlholdllibghbaaGreat
open Go Go.RowKit Go.Cit

set_option maxRecDepth 100000 in
set_option maxHeartbeats 4000000 in
theorem eat_calls (w : World) (s : S8) (a : Option Addr) (b : List UInt8) (c : Nat) (K : List UInt32) (hr : Row w a b c) (hb : b.length = 64) (hK : K.length = 64) :
    Calls Tryz.prog 117 #[.agg (s.l.map vw).toArray, .slice a 64 c, .agg (K.map vw).toArray] w fun e w' => e = .returned (.agg ((s.eat K b).l.map vw).toArray) ∧ Below w.heap.size w w' := by
  have HA := Lib.hid (fun ρ d ty ps af w => alloc_state ρ d ty ps (af := af) w)
  obtain ⟨Z, hZ⟩ : ∃ Z, Hid (Z = ((List.replicate 64 (0 : UInt32)).map vw).toArray) := ⟨_, rfl⟩
  obtain ⟨Y, hY⟩ : ∃ Y, Hid (Y = ((List.replicate 8 (0 : UInt32)).map vw).toArray) := ⟨_, rfl⟩
  obtain ⟨S, hS⟩ : ∃ S, Hid (S = (s.l.map vw).toArray) := ⟨_, rfl⟩
  obtain ⟨KV, hKV⟩ : ∃ S, Hid (S = (K.map vw).toArray) := ⟨_, rfl⟩
  obtain ⟨F, hF⟩ : ∃ F, Hid (F = ((sched b 64).map vw).toArray) := ⟨_, rfl⟩
  rw [← hY.out] at HA
  rw [← hS.out, ← hKV.out]
  have HZ : Hid (Z.size = 64) := by rw [Hid, hZ.out]; simp
  have HY : Hid (Y.size = 8) := by rw [Hid, hY.out]; simp
  have HSs : Hid (S.size = 8) := by rw [Hid, hS.out]; simp [S8.l]
  have HFs : Hid (F.size = 64) := by rw [Hid, hF.out]; simp [sched_length]
  have HSo : Hid (S.all (·.oneCell') = true) := by rw [Hid, hS.out]; exact arr_ok _
  have HFo : Hid (F.all (·.oneCell') = true) := by rw [Hid, hF.out]; exact arr_ok _
  have HR := Lib.hid hr
  have HBL := Lib.hid hb
  have HKL := Lib.hid hK
  clear hr hb hK
  go_enter Tryz.func117, Tryz.ntmps117
  go_wp2_with (first
    | ((with_reducible refine wpList_boxB (o := ⟨some 3, .box _ (.tmp 0), _, _, _, _⟩) (.tmp 0) (by with_unfolding_all rfl) (by with_unfolding_all rfl) (by with_unfolding_all rfl) ?_))
    | ((with_reducible refine wpList_boxB (o := ⟨some 5, .box _ (.tmp 2), _, _, _, _⟩) (.tmp 2) (by with_unfolding_all rfl) (by with_unfolding_all rfl) (by with_unfolding_all rfl) ?_))
    | ((with_reducible refine wpList_value (o := ⟨some 6, .alloc _, _, _, _, _⟩) (by with_unfolding_all rfl) (HA.out _ _ _ _ _ _) ?_)))
  have hsz : (((w.alloc (.cells S 158)).alloc (.cells KV 160)).alloc (.cells Y 158)).heap.size = w.heap.size + 3 := by simp
  have B0 : Below w.heap.size w (((w.alloc (.cells S 158)).alloc (.cells KV 160)).alloc (.cells Y 158)) := (((Below.refl _ w).alloc (Nat.le_refl _) _).alloc (by simp) _).alloc (by simp; omega) _
  have b0 : (((w.alloc (.cells S 158)).alloc (.cells KV 160)).alloc (.cells Y 158)).heap[w.heap.size]? = some (.cells S 158 (0, 0)) :=
    (Below.heap_alloc _ _ _ (by simp; omega)).trans ((Below.heap_alloc _ _ _ (by simp)).trans (heap_alloc_new w _))
  have b1 : (((w.alloc (.cells S 158)).alloc (.cells KV 160)).alloc (.cells Y 158)).heap[w.heap.size + 1]? = some (.cells KV 160 (0, 0)) := by
    refine (Below.heap_alloc _ _ _ (by simp)).trans ?_
    have := heap_alloc_new (w.alloc (.cells S 158)) (.cells KV 160)
    rwa [World.size_alloc] at this
  have b2 : (((w.alloc (.cells S 158)).alloc (.cells KV 160)).alloc (.cells Y 158)).heap[w.heap.size + 2]? = some (.cells Y 158 (0, 0)) := by
    have := heap_alloc_new ((w.alloc (.cells S 158)).alloc (.cells KV 160)) (.cells Y 158)
    rwa [World.size_alloc, World.size_alloc] at this
  simp only [World.size_alloc]
  generalize (((w.alloc (.cells S 158)).alloc (.cells KV 160)).alloc (.cells Y 158)) = W at hsz B0 b0 b1 b2 ⊢
  have HRW : Hid (Row W a b c) := HR.out.stay B0
  refine wp_region_st (eatC W.heap.size W F S Z Y) (fun _ _ _ => True) (eatT a c F S) (by kernel_rfl) (by kernel_rfl) ?_ ?_ ?_ ?_
  · intro w' hb hh
    exact ⟨hb, fun h => absurd h Bool.false_ne_true, fun h => absurd h Bool.false_ne_true⟩
  · intro δ i j o v a w w' _ _ _ _ _ _ _ h
    rcases hd : o.dst with _ | d
    · exact tyP_none hd _ _
    · rw [tyP_some hd] at h ⊢
      exact eatT_any h
  · refine opsAll_cons ?_ (opsAll_cons ?_ (opsAll_cons ?_ (opsAll_cons ?_ (opsAll_cons ?_ (opsAll_cons ?_ (opsAll_cons ?_ opsAll_nil))))))
    all_goals intro δ wa wx hk
    · exact ⟨wanted_free rfl, gp_move (.tmp 1) rfl ⟨trivial, eatC_pure hk.inv rfl (Below.refl _ _) (by decide) (by decide), hk.old 1 (by kernel_rfl)⟩⟩
    · refine ⟨wanted_free rfl, gp_call rfl (hk.fn _) #[.slice a 64 c] (fun w => by kernel_rfl) (by simp [show wa.eval (.tmp 15) = _ from hk.slot 15 (by kernel_rfl)]) ((schedule_calls wx a b c (HRW.out.stay hk.inv.1) HBL.out).mono ?_)⟩
      rintro e w' ⟨rfl, hb⟩
      exact ⟨_, rfl, trivial, eatC_pure hk.inv rfl hb (by decide) (by decide), by rw [← hF.out]; rfl⟩
    · have hb := (hk.inv.1.block w.heap.size (by omega)).trans b0
      exact ⟨wanted_free rfl, gp_loadB row_state (.tmp 3) rfl (hk.old 3 (by kernel_rfl)) hb HSs.out ⟨trivial, eatC_pure hk.inv rfl (Below.refl _ _) (by decide) (by decide), rfl⟩⟩
    · refine ⟨wanted_free rfl, gp_run (alloc_w64 _ _ _ _ wx) ?_⟩
      rw [← hZ.out]
      exact ⟨trivial, eatC_a7 hk.inv rfl (hk.closed.yet 8 5 3 (by kernel_rfl) hk.yet) (by rw [hk.same.2.1, put_size, put_size, put_size]; exact (by decide : 7 < 93)), trivial⟩
    · refine ⟨wanted_free rfl, gp_run (alloc_state _ _ _ _ wx) ?_⟩
      rw [← hY.out]
      exact ⟨trivial, eatC_a8 hk.inv rfl (hk.closed.yet 8 6 4 (by kernel_rfl) hk.yet) (by rw [hk.same.2.1, put_size, put_size, put_size]; exact (by decide : 8 < 93)), trivial⟩
    · have h3 : δ 3 = true := by have := hk.next.needs 8 5 3 (by kernel_rfl) (upd_same _ _); rwa [upd_other δ (by decide)] at this
      obtain ⟨g, e, hg, hc⟩ := hk.inv.2.1 h3
      rw [hk.yet] at hc
      refine ⟨wanted_free rfl, gp_storeB row_w64 (.tmp 7) (.tmp 16) rfl e (hk.slot 16 (by kernel_rfl)) hc HZ.out HFs.out HFo.out ?_⟩
      intro w' hb hs
      exact ⟨trivial, eatC_s7 hk.inv e hg ⟨_, hc⟩ hb hs, tyP_none rfl _ _⟩
    · have h4 : δ 4 = true := by have := hk.next.needs 8 6 4 (by kernel_rfl) (upd_same _ _); rwa [upd_other δ (by decide)] at this
      obtain ⟨g, e, hg, hc⟩ := hk.inv.2.2 h4
      rw [hk.yet] at hc
      refine ⟨wanted_free rfl, gp_storeB row_state (.tmp 8) (.tmp 17) rfl e (hk.slot 17 (by kernel_rfl)) hc HY.out HSs.out HSo.out ?_⟩
      intro w' hb hs
      exact ⟨trivial, eatC_s8 hk.inv e hg ⟨_, hc⟩ hb hs, tyP_none rfl _ _⟩
  intro δ wa wx hall hC hsame hT
  obtain ⟨hB, h7, h8⟩ := hC
  obtain ⟨g7, e7, hg7, hc7⟩ := h7 (hall 3 (by decide))
  obtain ⟨g8, e8, hg8, hc8⟩ := h8 (hall 4 (by decide))
  rw [hall 5 (by decide), if_pos rfl] at hc7
  rw [hall 6 (by decide), if_pos rfl] at hc8
  have he := act_same hsame [15, 16, 17, 7, 8] (by kernel_rfl)
  simp only [List.foldl_cons, List.foldl_nil] at he
  rw [show wa.eval (.tmp 15) = _ from hT 15 (by kernel_rfl), show wa.eval (.tmp 16) = _ from hT 16 (by kernel_rfl), show wa.eval (.tmp 17) = _ from hT 17 (by kernel_rfl), show wa.eval (.tmp 7) = _ from e7, show wa.eval (.tmp 8) = _ from e8] at he
  subst he
  clear hT hsame e7 e8 hall h7 h8
  have A3 : Arr 158 wx w.heap.size s.l := by
    have := (hB.block w.heap.size (by omega)).trans b0; rw [hS.out] at this; exact this
  have A5 : Arr 160 wx (w.heap.size + 1) K := by
    have := (hB.block (w.heap.size + 1) (by omega)).trans b1; rw [hKV.out] at this; exact this
  have A6 : wx.heap[w.heap.size + 2]? = some (.cells Y 158 (0, 0)) := (hB.block (w.heap.size + 2) (by omega)).trans b2
  have A7 : Arr 160 wx g7 (sched b 64) := by rw [hF.out] at hc7; exact hc7
  have A8 : Arr 158 wx g8 s.l := by rw [hS.out] at hc8; exact hc8
  have B := B0.trans (hB.mono (by omega))
  have hne : g7 ≠ g8 := by
    rintro rfl
    rw [hc7] at hc8
    injection hc8 with hc8
    injection hc8 with _ hc8
    exact absurd hc8 (by decide)
  obtain ⟨L, hL⟩ : ∃ L, Hid (L = sched b 64) := ⟨_, rfl⟩
  have HLL : Hid (L.length = 64) := by rw [Hid, hL.out, sched_length]
  rw [← hL.out] at A7
  rw [hsz] at hg7 hg8
  clear b0 b1 b2 hsz B0 hc7 hc8 hB HRW HR HA HZ HFs HFo hF hZ
  go_wp2_with fail
  go_loopw [18] (fun i wr => ∃ (k : Nat) (x : S8), k ≤ 64 ∧ i = .int .i64 k ∧ Hid (x = s.rounds K L k) ∧ Arr 158 wr g8 x.l ∧ Save (· ≠ g8) wx wr) (fun i _ => 64 - (intOf i).toNat)
  case atStart => exact ⟨0, s, Nat.zero_le _, rfl, rfl, A8, Save.refl _ _⟩
  case round =>
    clear A8
    obtain ⟨k, x, hk, rfl, HX, AX, hsv⟩ := hrel
    have A5' := A5.save hsv (by omega)
    have A7' := A7.save hsv hne
    by_cases hlt : k < 64
    · have d1 : decide ((k : Int) < 64) = true := by simp; omega
      have HKK := HKL.out
      have HLK := HLL.out
      have j0 := fun W => arr_lit (T := 158) (n := 8) Tryz.underlying158 g8 0 (by decide) W 0 rfl
      have j1 := fun W => arr_lit (T := 158) (n := 8) Tryz.underlying158 g8 1 (by decide) W 1 rfl
      have j2 := fun W => arr_lit (T := 158) (n := 8) Tryz.underlying158 g8 2 (by decide) W 2 rfl
      have j4 := fun W => arr_lit (T := 158) (n := 8) Tryz.underlying158 g8 4 (by decide) W 4 rfl
      have j5 := fun W => arr_lit (T := 158) (n := 8) Tryz.underlying158 g8 5 (by decide) W 5 rfl
      have j6 := fun W => arr_lit (T := 158) (n := 8) Tryz.underlying158 g8 6 (by decide) W 6 rfl
      have j7 := fun W => arr_lit (T := 158) (n := 8) Tryz.underlying158 g8 7 (by decide) W 7 rfl
      have jk := fun W => arr_index (T := 160) (n := 64) Tryz.underlying160 (w.heap.size + 1) k (by omega) W
      have jw := fun W => arr_index (T := 160) (n := 64) Tryz.underlying160 g7 k (by omega) W
      have c0 : wr.cell? ⟨g8, 0, none⟩ = some (vw x.a) := AX.cell 0 (by decide : 0 < 8)
      have c1 : wr.cell? ⟨g8, 1, none⟩ = some (vw x.b) := AX.cell 1 (by decide : 1 < 8)
      have c2 : wr.cell? ⟨g8, 2, none⟩ = some (vw x.c) := AX.cell 2 (by decide : 2 < 8)
      have c4 : wr.cell? ⟨g8, 4, none⟩ = some (vw x.e) := AX.cell 4 (by decide : 4 < 8)
      have c5 : wr.cell? ⟨g8, 5, none⟩ = some (vw x.f) := AX.cell 5 (by decide : 5 < 8)
      have c6 : wr.cell? ⟨g8, 6, none⟩ = some (vw x.g) := AX.cell 6 (by decide : 6 < 8)
      have c7 : wr.cell? ⟨g8, 7, none⟩ = some (vw x.h) := AX.cell 7 (by decide : 7 < 8)
      have ck : wr.cell? ⟨w.heap.size + 1, k, none⟩ = some (vw (K.getD k 0)) := arr_get A5' k (by omega)
      have cw : wr.cell? ⟨g7, k, none⟩ = some (vw (L.getD k 0)) := arr_get A7' k (by omega)
      have d4 : ∀ n, ({ wr with drawn := n } : World).cell? ⟨g8, 4, none⟩ = some (vw x.e) := fun _ => c4
      have d7 : ∀ n, ({ wr with drawn := n } : World).cell? ⟨g8, 7, none⟩ = some (vw x.h) := fun _ => c7
      have dk : ∀ n, ({ wr with drawn := n } : World).cell? ⟨w.heap.size + 1, k, none⟩ = some (vw (K.getD k 0)) := fun _ => ck
      have dw : ∀ n, ({ wr with drawn := n } : World).cell? ⟨g7, k, none⟩ = some (vw (L.getD k 0)) := fun _ => cw
      obtain ⟨y, hy⟩ : ∃ y, Hid (y = x.rnd (K.getD k 0) (L.getD k 0)) := ⟨_, rfl⟩
      have HYR : Hid (y = s.rounds K L (k + 1)) := by rw [Hid, hy.out, HX.out]; rfl
      generalize K.getD k 0 = kk at ck dk hy
      generalize L.getD k 0 = ll at cw dw hy
      have wa : ∀ x y : UInt32, IntKind.u32.wrap ((x.toNat : Int) + y.toNat) = ((wAdd x y).toNat : Int) := wrap_w_add
      have bx : ∀ x y : UInt32, bits .xor .u32 (x.toNat : Int) y.toNat = ((wXor x y).toNat : Int) := bits_w_xor
      have ba : ∀ x y : UInt32, bits .and .u32 (x.toNat : Int) y.toNat = ((wAnd x y).toNat : Int) := bits_w_and
      have bo : ∀ x y : UInt32, bits .or .u32 (x.toNat : Int) y.toNat = ((wOr x y).toNat : Int) := bits_w_or
      clear HKK HLK
      go_wp2_with fail
      refine wp_region_still_lit (by kernel_rfl) (by kernel_rfl) ?_
      repeat still_step
      still_call (turned_calls _ x.e 6 11 25 (by decide) (by decide) (by decide) (by decide) (by decide) (by decide))
      repeat still_step
      refine wpStill_nil ?_
      change Exit.then _ _ _ _ wr.drew
      obtain ⟨T, hT⟩ : ∃ T, Hid (T = wAdd (wAdd (wAdd (wAdd x.h (turnedW 6 11 25 x.e)) (wXor x.g (wAnd x.e (wXor x.f x.g)))) kk) ll) := ⟨_, rfl⟩
      obtain ⟨M, hM⟩ : ∃ M, Hid (M = wOr (wAnd x.a x.b) (wAnd x.c (wOr x.a x.b))) := ⟨_, rfl⟩
      rw [← hT.out, ← hM.out]
      have AXd : Arr 158 wr.drew g8 x.l := AX
      have hsvd : Save (· ≠ g8) wx wr.drew := hsv.drew
      clear c0 c1 c2 c4 c5 c6 c7 ck cw d4 d7 dk dw AX hsv A5' A7'
      generalize wr.drew = wr at AXd hsvd ⊢
      have c0 : wr.cell? ⟨g8, 0, none⟩ = some (vw x.a) := AXd.cell 0 (by decide : 0 < 8)
      go_wp2_with fail
      refine (turned_calls _ x.a 2 13 22 (by decide) (by decide) (by decide) (by decide) (by decide) (by decide)).mono ?_
      rintro e w' ⟨rfl, rfl⟩
      go_wp2_with fail
      have l1 := state_from1 g8
      have l7 := state_upto7 g8
      go_still_tail 2, (by kernel_rfl)
      change wpList _ _ _ _ _ w'.drew
      have AXe : Arr 158 w'.drew g8 x.l := AXd
      have hsve : Save (· ≠ g8) wx w'.drew := hsvd.drew
      clear c0 AXd hsvd l1 l7
      generalize w'.drew = wr at AXe hsve ⊢
      obtain ⟨w3, hrun, A3x, hs3⟩ := state_copy wr g8 x AXe 3
      refine wpList_copy_run rfl (.tmp 67) (.tmp 68) 167 167 rfl _ _ rfl rfl hrun ?_
      have hsv3 := hsve.trans hs3
      clear hrun AXe hsve hs3
      have c4 : w3.cell? ⟨g8, 4, none⟩ = some (vw x.d) := A3x.cell 4 (by decide : 4 < 8)
      have f4 : w3.frozen? ⟨g8, 4, none⟩ = false := A3x.free 4
      have AY := (A3x.set 4 (wAdd x.d T)).set 0 (wAdd T (wAdd (turnedW 2 13 22 x.a) M))
      have c0 : (w3.setCell ⟨g8, 4, none⟩ (vw (wAdd x.d T))).cell? ⟨g8, 0, none⟩ = some (vw x.a) := (A3x.set 4 (wAdd x.d T)).cell 0 (by decide : 0 < 8)
      have f0 : (w3.setCell ⟨g8, 4, none⟩ (vw (wAdd x.d T))).frozen? ⟨g8, 0, none⟩ = false := (A3x.set 4 (wAdd x.d T)).free 0
      have HAY : Hid (Arr 158 ((w3.setCell ⟨g8, 4, none⟩ (vw (wAdd x.d T))).setCell ⟨g8, 0, none⟩ (vw (wAdd T (wAdd (turnedW 2 13 22 x.a) M)))) g8 y.l) := by
        rw [Hid, hy.out]; rw [hT.out, hM.out] at AY ⊢; exact AY
      have HSV := Lib.hid ((hsv3.trans (Save.set (b := g8) (i := 4) (v := vw (wAdd x.d T)))).trans (Save.set (b := g8) (i := 0) (v := vw (wAdd T (wAdd (turnedW 2 13 22 x.a) M)))))
      clear AY A3x hsv3
      go_wp2_with fail
      go_roundw
      case rel => exact ⟨k + 1, y, by omega, by go_num, HYR, HAY.out, HSV.out⟩
      case measure => simp [intOf]; omega
    · have hk2 : k = 64 := by omega
      have d1 : decide ((k : Int) < 64) = false := by simp; omega
      obtain ⟨z, hz⟩ : ∃ z, Hid (z = s.eat K b) := ⟨_, rfl⟩
      have HZX : Hid (x.plus s = z) := by rw [Hid, hz.out, HX.out, hk2, hL.out]; rfl
      clear HX hk2 A5' A7' A5 A7 hne HLL HKL hL hKV
      go_wp2_with fail
      go_loopw [80] (fun i wr => ∃ (k : Nat), k ≤ 8 ∧ i = .int .i64 k ∧ Arr 158 wr g8 ((x.plus s).l.take k ++ x.l.drop k) ∧ Save (· ≠ g8) wx wr) (fun i _ => 8 - (intOf i).toNat)
      case atStart => exact ⟨0, Nat.zero_le _, rfl, AX, hsv⟩
      case round =>
        clear AX hsv
        obtain ⟨k, hk, rfl, AX, hsv⟩ := hrel
        by_cases hlt : k < 8
        · have d1 : decide ((k : Int) < 8) = true := by simp; omega
          have A3' := A3.save hsv (by omega)
          have jx := fun W => arr_index (T := 158) (n := 8) Tryz.underlying158 g8 k hlt W
          have js := fun W => arr_index (T := 158) (n := 8) Tryz.underlying158 w.heap.size k hlt W
          have cx : ∀ n, ({ wr with drawn := n } : World).cell? ⟨g8, k, none⟩ = some (vw (x.l.getD k 0)) := fun _ => by
            have := arr_get AX k (by simp [S8.l]; omega)
            rw [plus_get x s k hlt] at this; exact this
          have cs : ∀ n, ({ wr with drawn := n } : World).cell? ⟨w.heap.size, k, none⟩ = some (vw (s.l.getD k 0)) := fun _ => arr_get A3' k (by simp [S8.l]; omega)
          have AN := (show Arr 158 wr.drew g8 _ from AX).set k (wAdd (x.l.getD k 0) (s.l.getD k 0))
          rw [plus_next x s k hlt] at AN
          have HSV := Lib.hid (hsv.drew.trans (Save.set (b := g8) (i := k) (v := vw (wAdd (x.l.getD k 0) (s.l.getD k 0)))))
          have fx : wr.drew.frozen? ⟨g8, k, none⟩ = false := AX.free k
          have ex : wr.drew.cell? ⟨g8, k, none⟩ = some (vw (x.l.getD k 0)) := cx _
          have HAN := Lib.hid AN
          generalize x.l.getD k 0 = p at cx ex HSV HAN
          generalize s.l.getD k 0 = q at cs HSV HAN
          have wa : ∀ x y : UInt32, IntKind.u32.wrap ((x.toNat : Int) + y.toNat) = ((wAdd x y).toNat : Int) := wrap_w_add
          clear AX hsv A3' AN
          go_wp2_with fail
          go_still_tail 8, (by kernel_rfl)
          change wpList _ _ _ _ _ wr.drew
          clear cx cs
          generalize wr.drew = wr at fx ex HSV HAN ⊢
          go_wp2_with fail
          go_roundw
          case rel => exact ⟨k + 1, by omega, by go_num, HAN.out, HSV.out⟩
          case measure => simp [intOf]; omega
        · have hk2 : k = 8 := by omega
          have d1 : decide ((k : Int) < 8) = false := by simp; omega
          obtain ⟨E, hE⟩ : ∃ E, Hid (E = (z.l.map vw).toArray) := ⟨_, rfl⟩
          have HE1 : Hid (E.size = 8) := by rw [Hid, hE.out]; simp [S8.l]
          have HEO : Hid (E.all (·.oneCell') = true) := by rw [Hid, hE.out]; exact arr_ok _
          have HA1 : Hid (wr.heap[g8]? = some (.cells E 158 (0, 0))) := by
            rw [Hid, hE.out, ← HZX.out]; rw [hk2] at AX; exact AX
          have HA6 : Hid (wr.heap[w.heap.size + 2]? = some (.cells Y 158 (0, 0))) := (hsv.block _ (Array.getElem?_eq_some_iff.1 A6).1 (by omega)).trans A6
          clear hk2 AX
          go_wp2_with (first
            | ((with_reducible refine wpList_loadB (o := ⟨some 92, .load _ _, _, _, _, _⟩) row_state (.tmp 8) (by with_unfolding_all rfl) (by with_unfolding_all rfl) (by with_unfolding_all rfl) HA1.out HE1.out ?_))
            | ((with_reducible refine wpList_storeB (o := ⟨none, .store _ (.tmp 6) (.tmp 92), _, _, _, _⟩) row_state (.tmp 6) (.tmp 92) (by with_unfolding_all rfl) (by with_unfolding_all rfl) (by with_unfolding_all rfl) (by with_unfolding_all rfl) (by with_unfolding_all rfl) HA6.out HY.out HE1.out HEO.out ?_); intro w4 hb4 hS4))
          refine bodyPost_ret (resB1 row_state rfl rfl hb4 HE1.out) rfl ⟨by rw [hE.out, hz.out], ?_⟩
          have h1 := B.size
          have h2 := hsv.size
          exact B.trans (((hsv.below (B := w.heap.size) (by omega) (fun j hj => by omega))).trans (hS4.below (by omega) (fun j hj => by omega)))
end Go.Proofs.YtlholdllibghbaaGreat

/- sha.square, cube, fraction: walked. -/
namespace Go.Proofs.YtlholdllibghbaaGreat
open Go Go.RowKit Go.Cit

def sqN (x p : Nat) : Bool := decide (x * x / 18446744073709551616 < p) || (decide (x * x / 18446744073709551616 = p) && decide (x * x % 18446744073709551616 = 0))
def cuHi (x : Nat) : Nat := (x * x / 18446744073709551616 * x % 18446744073709551616 + x * x % 18446744073709551616 * x / 18446744073709551616) % 18446744073709551616
def cuLo (x : Nat) : Nat := x * x % 18446744073709551616 * x % 18446744073709551616
def cuN (x p : Nat) : Bool := decide (cuHi x < p * 4294967296) || (decide (cuHi x = p * 4294967296) && decide (cuLo x = 0))

theorem eqI {a b : Nat} {r : Bool} (h : decide (a = b) = r) : ((a : Int) == (b : Int)) = r := by
  rw [← h, Bool.eq_iff_iff, beq_iff_eq, decide_eq_true_eq]
  constructor <;> intro h <;> omega

theorem square_calls (w : World) (x p : Nat) (hx : x < 274877906944) (hp : p < 4294967296) :
    Calls Tryz.prog 194 #[.int .u64 x, .int .u64 p] w fun e w' => e = .returned (.bool (sqN x p)) ∧ w' = w := by
  have hm := Tryz.bits_Mul64 x x (by omega) (by omega) w
  have HV : Hid (sqN x p = (decide (x * x / 18446744073709551616 < p) || (decide (x * x / 18446744073709551616 = p) && decide (x * x % 18446744073709551616 = 0)))) := rfl
  generalize x * x / 18446744073709551616 = h at hm HV
  generalize x * x % 18446744073709551616 = l at hm HV
  obtain ⟨b1, hb1⟩ : ∃ b, decide (h < p) = b := ⟨_, rfl⟩
  obtain ⟨b2, hb2⟩ : ∃ b, decide (h = p) = b := ⟨_, rfl⟩
  obtain ⟨b3, hb3⟩ : ∃ b, decide (l = 0) = b := ⟨_, rfl⟩
  rw [hb1, hb2, hb3] at HV
  have e2 := eqI hb2
  have e3 : ((l : Int) == 0) = b3 := eqI hb3
  have e1 : decide ((h : Int) < (p : Int)) = b1 := by rw [← hb1]; simp
  have HB := Lib.hid (And.intro hb2 hb3)
  clear hb2 hb3
  cases b1 <;> cases b2 <;> cases b3
  all_goals
    go_enter Tryz.func194, Tryz.ntmps194
    go_wp2_with fail
    refine hm.mono ?_
    rintro e w' ⟨rfl, rfl⟩
    go_wp2_with fail
    go_ret
    exact ⟨by rw [HV.out]; rfl, rfl⟩

set_option maxHeartbeats 1000000 in
theorem cube_calls (w : World) (x p : Nat) (hx : x < 274877906944) (hp : p < 4294967296) :
    Calls Tryz.prog 195 #[.int .u64 x, .int .u64 p] w fun e w' => e = .returned (.bool (cuN x p)) ∧ w' = w := by
  have hm := Tryz.bits_Mul64 x x (by omega) (by omega) w
  have hm2 := Tryz.bits_Mul64 (x * x % 18446744073709551616) x (Nat.mod_lt _ (by decide)) (by omega) w
  have HV : Hid (cuN x p = (decide (cuHi x < p * 4294967296) || (decide (cuHi x = p * 4294967296) && decide (cuLo x = 0)))) := rfl
  have e5 : IntKind.u64.wrap ((p : Int) * 4294967296) = ((p * 4294967296 : Nat) : Int) := by rw [wrap_u64_eq]; omega
  have HC : Hid (cuHi x = (x * x / 18446744073709551616 * x % 18446744073709551616 + x * x % 18446744073709551616 * x / 18446744073709551616) % 18446744073709551616) := rfl
  have HL : Hid (cuLo x = x * x % 18446744073709551616 * x % 18446744073709551616) := rfl
  generalize x * x % 18446744073709551616 * x / 18446744073709551616 = m at hm2 HC
  generalize x * x % 18446744073709551616 * x % 18446744073709551616 = k at hm2 HL
  generalize x * x / 18446744073709551616 = h at hm HC
  generalize x * x % 18446744073709551616 = l at hm hm2
  have e6 : IntKind.u64.wrap (IntKind.u64.wrap ((h : Int) * (x : Int)) + (m : Int)) = ((cuHi x : Nat) : Int) := by
    rw [wrap_u64_eq, wrap_u64_eq, HC.out, Int.natCast_emod, Int.natCast_add, Int.natCast_emod, Int.natCast_mul]; rfl
  rw [← HL.out] at hm2
  generalize cuHi x = H at e6 HV
  generalize cuLo x = L at hm2 HV
  generalize p * 4294967296 = Q at e5 HV
  obtain ⟨b1, hb1⟩ : ∃ b, decide (H < Q) = b := ⟨_, rfl⟩
  obtain ⟨b2, hb2⟩ : ∃ b, decide (H = Q) = b := ⟨_, rfl⟩
  obtain ⟨b3, hb3⟩ : ∃ b, decide (L = 0) = b := ⟨_, rfl⟩
  rw [hb1, hb2, hb3] at HV
  have e2 := eqI hb2
  have e3 : ((L : Int) == 0) = b3 := eqI hb3
  have e1 : decide ((H : Int) < (Q : Int)) = b1 := by rw [← hb1]; simp
  have HB := Lib.hid (And.intro hb2 hb3)
  clear hb2 hb3 HC HL
  cases b1 <;> cases b2 <;> cases b3
  all_goals
    go_enter Tryz.func195, Tryz.ntmps195
    go_wp2_with fail
    refine hm.mono ?_
    rintro e w' ⟨rfl, rfl⟩
    go_wp2_with fail
    refine hm2.mono ?_
    rintro e w' ⟨rfl, rfl⟩
    go_wp2_with fail
    go_ret
    exact ⟨by rw [HV.out]; rfl, rfl⟩

def bis (h : Nat → Bool) : Nat → Nat → Nat
  | 0, fr => fr
  | m + 1, fr => if h (fr + 2 ^ m) then bis h m (fr + 2 ^ m) else bis h m fr

set_option maxHeartbeats 1000000 in
theorem fracSq_calls (w : World) (p : Nat) (hp : p < 4294967296) :
    Calls Tryz.prog 193 #[.int .u64 p, .func (.func 194) #[] #[]] w fun e w' => e = .returned (.int .u32 ((bis (fun x => sqN x p) 37 0 % 4294967296 : Nat) : Int)) ∧ w' = w := by
  go_enter Tryz.func193, Tryz.ntmps193
  go_wp2_with fail
  go_loop [5, 6] (fun a b => ∃ m fr : Nat, m ≤ 37 ∧ Hid (fr + 2 ^ m ≤ 137438953472) ∧ a = .int .u64 fr ∧ b = .int .u64 ((fr + 2 ^ m : Nat) : Int) ∧ Hid (bis (fun x => sqN x p) m fr = bis (fun x => sqN x p) 37 0)) (fun a b => (intOf b - intOf a).toNat)
  case atStart => exact ⟨37, 0, Nat.le_refl _, by rw [Hid]; decide, rfl, rfl, rfl⟩
  case round =>
    obtain ⟨m, fr, hm, HF, rfl, rfl, HB⟩ := hrel
    cases m with
    | zero =>
      have h1 : decide ((1 : Int) < 1) = false := by decide
      have e0 : ((fr + 2 ^ 0 : Nat) : Int) = (fr : Int) + 1 := by rw [Nat.pow_zero]; omega
      rw [e0]
      have hfr : (fr : Int) + 1 ≤ 137438953472 := by have := HF.out; rw [Nat.pow_zero] at this; omega
      have HB2 : Hid (fr = bis (fun x => sqN x p) 37 0) := HB.out
      have e1 : (fr : Int) + 1 - fr = 1 := by omega
      have e2 : IntKind.u32.wrap (fr : Int) = ((fr % 4294967296 : Nat) : Int) := by rw [wrap_u32_eq, Int.natCast_emod]; rfl
      clear HB HF
      go_wp2_with fail
      go_ret
      exact ⟨ret_int (by rw [← HB2.out]), rfl⟩
    | succ m =>
      obtain ⟨q, hq⟩ : ∃ q, 2 ^ m = q := ⟨_, rfl⟩
      have hq1 : 1 ≤ q := by rw [← hq]; exact Nat.one_le_two_pow
      have hF := HF.out
      rw [Nat.pow_succ, hq] at hF
      have e0 : ((fr + 2 ^ (m + 1) : Nat) : Int) = (fr : Int) + 2 * q := by rw [Nat.pow_succ, hq]; omega
      rw [e0]
      have e1 : (fr : Int) + 2 * q - fr = 2 * q := by omega
      have d1 : decide ((1 : Int) < 2 * q) = true := by simp; omega
      have e3 : ((fr : Int) + ((fr : Int) + 2 * q)) / 2 = ((fr + q : Nat) : Int) := by omega
      have b1 : (fr : Int) + 2 * q ≤ 137438953472 := by omega
      have HQ := Lib.hid hq
      have HBS : Hid (bis (fun x => sqN x p) (m + 1) fr = if sqN (fr + q) p then bis (fun x => sqN x p) m (fr + q) else bis (fun x => sqN x p) m fr) := by rw [Hid, bis, hq]
      have hc := square_calls w (fr + q) p (by omega) hp
      clear hq hF e0
      cases hb : sqN (fr + q) p with
      | true =>
        rw [hb] at hc
        have HB1 := Lib.hid hb
        clear hb
        go_wp2_with fail
        refine hc.mono ?_
        rintro e w' ⟨rfl, rfl⟩
        go_wp2_with fail
        go_round
        case rel => exact ⟨m, fr + q, by omega, by rw [Hid, HQ.out]; omega, rfl, by rw [HQ.out]; go_num, by rw [Hid, ← HB.out, HBS.out, HB1.out]; rfl⟩
        case measure => simp [intOf]; omega
      | false =>
        rw [hb] at hc
        have HB1 := Lib.hid hb
        clear hb
        go_wp2_with fail
        refine hc.mono ?_
        rintro e w' ⟨rfl, rfl⟩
        go_wp2_with fail
        go_round
        case rel => exact ⟨m, fr, by omega, by rw [Hid, HQ.out]; omega, rfl, by rw [HQ.out]; go_num, by rw [Hid, ← HB.out, HBS.out, HB1.out]; rfl⟩
        case measure => simp [intOf]; omega

set_option maxHeartbeats 1000000 in
theorem fracCu_calls (w : World) (p : Nat) (hp : p < 4294967296) :
    Calls Tryz.prog 193 #[.int .u64 p, .func (.func 195) #[] #[]] w fun e w' => e = .returned (.int .u32 ((bis (fun x => cuN x p) 37 0 % 4294967296 : Nat) : Int)) ∧ w' = w := by
  go_enter Tryz.func193, Tryz.ntmps193
  go_wp2_with fail
  go_loop [5, 6] (fun a b => ∃ m fr : Nat, m ≤ 37 ∧ Hid (fr + 2 ^ m ≤ 137438953472) ∧ a = .int .u64 fr ∧ b = .int .u64 ((fr + 2 ^ m : Nat) : Int) ∧ Hid (bis (fun x => cuN x p) m fr = bis (fun x => cuN x p) 37 0)) (fun a b => (intOf b - intOf a).toNat)
  case atStart => exact ⟨37, 0, Nat.le_refl _, by rw [Hid]; decide, rfl, rfl, rfl⟩
  case round =>
    obtain ⟨m, fr, hm, HF, rfl, rfl, HB⟩ := hrel
    cases m with
    | zero =>
      have h1 : decide ((1 : Int) < 1) = false := by decide
      have e0 : ((fr + 2 ^ 0 : Nat) : Int) = (fr : Int) + 1 := by rw [Nat.pow_zero]; omega
      rw [e0]
      have hfr : (fr : Int) + 1 ≤ 137438953472 := by have := HF.out; rw [Nat.pow_zero] at this; omega
      have HB2 : Hid (fr = bis (fun x => cuN x p) 37 0) := HB.out
      have e1 : (fr : Int) + 1 - fr = 1 := by omega
      have e2 : IntKind.u32.wrap (fr : Int) = ((fr % 4294967296 : Nat) : Int) := by rw [wrap_u32_eq, Int.natCast_emod]; rfl
      clear HB HF
      go_wp2_with fail
      go_ret
      exact ⟨ret_int (by rw [← HB2.out]), rfl⟩
    | succ m =>
      obtain ⟨q, hq⟩ : ∃ q, 2 ^ m = q := ⟨_, rfl⟩
      have hq1 : 1 ≤ q := by rw [← hq]; exact Nat.one_le_two_pow
      have hF := HF.out
      rw [Nat.pow_succ, hq] at hF
      have e0 : ((fr + 2 ^ (m + 1) : Nat) : Int) = (fr : Int) + 2 * q := by rw [Nat.pow_succ, hq]; omega
      rw [e0]
      have e1 : (fr : Int) + 2 * q - fr = 2 * q := by omega
      have d1 : decide ((1 : Int) < 2 * q) = true := by simp; omega
      have e3 : ((fr : Int) + ((fr : Int) + 2 * q)) / 2 = ((fr + q : Nat) : Int) := by omega
      have b1 : (fr : Int) + 2 * q ≤ 137438953472 := by omega
      have HQ := Lib.hid hq
      have HBS : Hid (bis (fun x => cuN x p) (m + 1) fr = if cuN (fr + q) p then bis (fun x => cuN x p) m (fr + q) else bis (fun x => cuN x p) m fr) := by rw [Hid, bis, hq]
      have hc := cube_calls w (fr + q) p (by omega) hp
      clear hq hF e0
      cases hb : cuN (fr + q) p with
      | true =>
        rw [hb] at hc
        have HB1 := Lib.hid hb
        clear hb
        go_wp2_with fail
        refine hc.mono ?_
        rintro e w' ⟨rfl, rfl⟩
        go_wp2_with fail
        go_round
        case rel => exact ⟨m, fr + q, by omega, by rw [Hid, HQ.out]; omega, rfl, by rw [HQ.out]; go_num, by rw [Hid, ← HB.out, HBS.out, HB1.out]; rfl⟩
        case measure => simp [intOf]; omega
      | false =>
        rw [hb] at hc
        have HB1 := Lib.hid hb
        clear hb
        go_wp2_with fail
        refine hc.mono ?_
        rintro e w' ⟨rfl, rfl⟩
        go_wp2_with fail
        go_round
        case rel => exact ⟨m, fr, by omega, by rw [Hid, HQ.out]; omega, rfl, by rw [HQ.out]; go_num, by rw [Hid, ← HB.out, HBS.out, HB1.out]; rfl⟩
        case measure => simp [intOf]; omega

end Go.Proofs.YtlholdllibghbaaGreat

/- sha.primes: walked. -/
namespace Go.Proofs.YtlholdllibghbaaGreat
open Go Go.RowKit Go.Cit

def noneDiv (l : List Nat) (x : Nat) : Bool := l.foldl (fun b p => b && decide (x % p ≠ 0)) true
def prm : Nat → List Nat
  | 0 => []
  | x + 1 => if 2 ≤ x ∧ noneDiv (prm x) x = true then prm x ++ [x] else prm x
theorem prm_pos : ∀ x, ∀ p ∈ prm x, 2 ≤ p ∧ p < x
  | 0, p, h => by simp [prm] at h
  | x + 1, p, h => by
    rw [prm] at h
    split at h
    · rename_i hx
      rcases List.mem_append.1 h with h | h
      · have := prm_pos x p h; omega
      · obtain rfl : p = x := by simpa using h
        omega
    · have := prm_pos x p h; omega
theorem prm_pre : ∀ (d x : Nat), prm x <+: prm (x + d)
  | 0, x => List.prefix_refl _
  | d + 1, x => by
    refine List.IsPrefix.trans (prm_pre d x) ?_
    rw [← Nat.add_assoc, prm]
    split
    · exact List.prefix_append _ _
    · exact List.prefix_refl _
theorem prm_len (x : Nat) : (prm x).length ≤ x := by
  induction x with
  | zero => simp [prm]
  | succ x ih =>
    rw [prm]
    split
    · rw [List.length_append]; simp; omega
    · omega

@[reducible] def vn (n : Nat) : Value := .int .u64 (n : Int)
theorem infoQ : (Tryz.prog.info? 62).map (fun i => (i.zero, i.size, i.bytes)) = some (some (.int .u64 0), 1, 8) := by kernel_rfl
theorem szQ : ∀ w, (sizeOf 62).run Tryz.prog w = .ok 1 w := by intro w; kernel_rfl

structure Qs (B : Nat) (w : World) (a : Option Addr) (l : List Nat) (c : Nat) : Prop where
  row : w.ownsRow B 62 1 (.slice a l.length c) l.length (l.map vn)
theorem Qs.cell {B w a l c} (h : Qs B w a l c) (i : Nat) (hi : i < l.length) : ∃ g, a = some ⟨g, 0, none⟩ ∧ w.cell? ⟨g, i, none⟩ = some (vn l[i]) := by
  rcases h.row.2 with ⟨hv, hn⟩ | ⟨g, cap, cur, hv, hb, hg, _⟩
  · omega
  · injection hv with h1 h2 h3
    refine ⟨g, h1, ?_⟩
    have := h.row.cells (g := g) (by rw [h1]; rfl) i (vn l[i]) (by simp [hi])
    have ea : (⟨g, 0, none⟩ : Addr).add i = ⟨g, i, none⟩ := by unfold Addr.add; split <;> simp_all
    rwa [ea] at this
theorem Qs.index {B w a l c} (h : Qs B w a l c) (i : Nat) (hi : i < l.length) :
    ∀ w, (Instr.indexAt 236 (.slice a l.length c) (.int .i64 (i : Int))).run Tryz.prog w = .ok (.pointer (some (ad a i))) w := by
  intro w
  obtain ⟨g, rfl, _⟩ := h.cell i hi
  have hT : Tryz.prog.underlying 236 = some (.slice 62) := Tryz.underlying236
  have he : Tryz.prog.elem 236 = 62 := by simp [Program.elem, hT]
  rw [run_indexAt_slice w _ _ _ _ _ _ (by rw [he]; exact hT), if_pos (by omega), he, szQ]
  simp only [Result.andThen, ad, Addr.add]
  by_cases h0 : i = 0
  · subst h0; simp
  · simp [h0]
theorem Qs.save {S : Nat → Prop} {B w w' a l c} (h : Qs B w a l c) (hs : Save S w w') (hS : ∀ g, B ≤ g → g < w.heap.size → S g) : Qs B w' a l c := by
  refine ⟨h.row.1, ?_⟩
  rcases h.row.2 with hn | ⟨g, cap, cur, hv, hb, hg, rest⟩
  · exact .inl hn
  · have hlt := (Array.getElem?_eq_some_iff.1 hg).1
    exact .inr ⟨g, cap, cur, hv, hb, (hs.block g hlt (hS g hb hlt)).trans hg, rest⟩

set_option maxHeartbeats 2000000 in
theorem primes_calls (w : World) (n X : Nat) (hX : (prm X).length = n) (h9 : X ≤ 1000) (h2 : 2 ≤ X) :
    Calls Tryz.prog 192 #[.int .i64 n] w fun e w' => ∃ a c, e = .returned (.slice a n c) ∧ Qs w.heap.size w' a (prm X) c ∧ Below w.heap.size w w' := by
  have hn9 : n ≤ 1000 := by have := prm_len X; omega
  obtain ⟨ie, hi, hz0, hz1, hz2⟩ := info_parts infoQ
  go_enter Tryz.func192, Tryz.ntmps192
  go_wp2_with fail
  go_loopw [3, 4] (fun v q wr => ∃ (x : Nat) (a : Option Addr) (c : Nat) (l : List Nat), 2 ≤ x ∧ x ≤ X ∧ q = .int .u64 x ∧ Hid (l = prm x) ∧ v = .slice a l.length c ∧ Qs w.heap.size wr a l c ∧ Below w.heap.size w wr) (fun _ q _ => X - (intOf q).toNat)
  case atStart => exact ⟨2, none, 0, [], Nat.le_refl _, h2, rfl, rfl, rfl, ⟨World.ownsRow_nil _ _ _ _⟩, Below.refl _ _⟩
  case round =>
    obtain ⟨x, a, c, l, hx2, hxX, rfl, HL, rfl, hQ, B⟩ := hrel
    have hll : l.length ≤ 1000 := by rw [HL.out]; have := prm_len x; omega
    by_cases hlt : l.length < n
    · have hxlt : x < X := by
        rcases Nat.lt_or_ge x X with h | h
        · exact h
        · exfalso
          have : x = X := by omega
          rw [HL.out, this, hX] at hlt; omega
      have d1 : decide ((l.length : Int) < (n : Int)) = true := by simp; omega
      have d1' : decide (l.length < n) = true := by simpa using hlt
      go_wp2_with fail
      go_loop [5, 16] (fun b i => ∃ (k : Nat) (r : Bool), k ≤ l.length ∧ i = .int .i64 k ∧ b = .bool r ∧ Hid (r = (l.take k).foldl (fun b p => b && decide (x % p ≠ 0)) true)) (fun _ i => l.length - (intOf i).toNat)
      case atStart => exact ⟨0, true, Nat.zero_le _, rfl, rfl, rfl⟩
      case round =>
        obtain ⟨k, r, hk, rfl, rfl, HR⟩ := hrel
        by_cases hk2 : k < l.length
        · obtain ⟨g, rfl, hcell⟩ := hQ.cell k hk2
          have i0 := hQ.index k hk2
          have e0 : wr.cell? (ad (some ⟨g, 0, none⟩) k) = some (vn l[k]) := by simpa [ad] using hcell
          have hp := prm_pos x l[k] (by rw [← HL.out]; exact List.getElem_mem hk2)
          have HS : Hid ((l.take (k + 1)).foldl (fun b p => b && decide (x % p ≠ 0)) true = (r && decide (x % l[k] ≠ 0))) := by
            rw [Hid, List.take_succ_eq_append_getElem hk2, List.foldl_append, ← HR.out]; rfl
          obtain ⟨q, hq⟩ : ∃ q, l[k] = q := ⟨_, rfl⟩
          rw [hq] at e0 hp HS
          clear hq hcell
          have hp2 : (2 : Int) ≤ q := by omega
          have hpx : (q : Int) ≤ 1000 := by omega
          cases hd : decide (x % q ≠ 0) with
          | true =>
            rw [hd] at HS
            have m1 : (((x : Int) % (q : Int)) != 0) = true := by
              have := of_decide_eq_true hd
              simp only [bne_iff_ne]; intro h; apply this; omega
            have HD := Lib.hid hd
            clear hd
            cases r <;>
            (go_wp2_with fail
             go_round
             case rel => exact ⟨k + 1, _, by omega, by go_num, rfl, by rw [Hid, HS.out]; rfl⟩
             case measure => simp [intOf]; omega)
          | false =>
            rw [hd] at HS
            have m1 : (((x : Int) % (q : Int)) != 0) = false := by
              have := of_decide_eq_false hd
              simp only [bne_eq_false_iff_eq]
              omega
            have HD := Lib.hid hd
            clear hd
            cases r <;>
            (go_wp2_with fail
             go_round
             case rel => exact ⟨k + 1, _, by omega, by go_num, rfl, by rw [Hid, HS.out]; rfl⟩
             case measure => simp [intOf]; omega)
        · have hk3 : k = l.length := by omega
          have HR2 : Hid (r = noneDiv l x) := by rw [Hid, HR.out, hk3, List.take_length]; rfl
          clear HR hk3
          cases r with
          | true =>
            have HP : Hid (l ++ [x] = prm (x + 1)) := by rw [Hid, prm, if_pos ⟨hx2, by rw [← HL.out, ← HR2.out]⟩, HL.out]
            have hb5 : w.heap.size ≤ (wr.alloc (.cells #[vn x] 62)).heap.size := by have := B.size; simp; omega
            have hm5 : l.length + 1 ≤ maxLen := by unfold maxLen; omega
            go_wp2_with (at_builtin; refine wpList_append_own _ rfl (.tmp 29) (.tmp 31) 236 rfl w.heap.size 62 ie (.int .u64 0) 1 8 Tryz.underlying236 hi hz0 hz1 hz2 rfl (by decide) _ l.length (l.map vn) rfl (hQ.row.alloc _) ⟨wr.heap.size, 0, none⟩ 1 1 [vn x] rfl rfl (cell_one_new _ _ _) (by simp [Value.oneCell']) hm5 (by omega) hb5 ?_; intro v' w5 hown5 hgr5 _; obtain ⟨g5, cap5, rfl⟩ := ownsRow_succ hown5)
            go_roundw
            case rel =>
              refine ⟨x + 1, some ⟨g5, 0, none⟩, cap5, l ++ [x], by omega, by omega, by go_num, HP, by simp, ⟨?_⟩, ((B.alloc B.size _).grown hgr5 hb5 (fun j e => (hQ.row.lt j e).1))⟩
              rw [List.length_append, List.map_append]; exact hown5
            case measure => simp [intOf]; omega
          | false =>
            have HP : Hid (l = prm (x + 1)) := by rw [Hid, prm, if_neg (by rw [← HL.out, ← HR2.out]; simp), HL.out]
            go_wp2_with fail
            go_roundw
            case rel => exact ⟨x + 1, a, c, l, by omega, by omega, by go_num, HP, rfl, hQ, B⟩
            case measure => simp [intOf]; omega
    · have d1 : decide ((l.length : Int) < (n : Int)) = false := by simp; omega
      have HF : Hid (l = prm X ∧ l.length = n) := by
        obtain ⟨t, ht⟩ := prm_pre (X - x) x
        rw [show x + (X - x) = X by omega, ← HL.out] at ht
        have h1 := congrArg List.length ht
        rw [List.length_append, hX] at h1
        have : t = [] := List.eq_nil_of_length_eq_zero (by omega)
        rw [this, List.append_nil] at ht
        exact ⟨ht, by rw [ht, hX]⟩
      go_wp2_with fail
      go_ret
      refine ⟨a, c, by rw [← HF.out.2]; rfl, by rw [← HF.out.1]; exact hQ, B⟩
end Go.Proofs.YtlholdllibghbaaGreat

/- sha.First, constants: walked. -/
namespace Go.Proofs.YtlholdllibghbaaGreat
open Go Go.RowKit Go.Cit

def frS (p : Nat) : UInt32 := UInt32.ofNat (bis (fun x => sqN x p) 37 0)
theorem frS_v (p : Nat) : Value.int .u32 ((bis (fun x => sqN x p) 37 0 % 4294967296 : Nat) : Int) = vw (frS p) := by
  unfold frS vw
  rw [UInt32.toNat_ofNat']
def valS : List UInt32 := (prm 20).map frS
theorem valS_len : (prm 20).length = 8 := by decide +kernel
theorem valS_is : valS = first8.l := by decide +kernel
theorem alloc_First (ρ : Operand → Value) (d : Option Tmp) (ty : TypeId) (ps : String) {af} (w : World) :
    (execOp ρ { dst := d, op := Op.alloc 158, type := ty, pos := ps, after := af, guard := none }).run Tryz.prog w = .ok (.value (.pointer (some ⟨w.heap.size, 0, none⟩))) (w.alloc (.cells ((List.replicate 8 (0 : UInt32)).map vw).toArray 158)) := by
  kernel_rfl
theorem row_First : RowType Tryz.prog 158 8 := ⟨⟨_, Tryz.underlying158, rfl⟩, by kernel_rfl⟩

set_option maxRecDepth 100000 in
set_option maxHeartbeats 2000000 in
theorem First_calls (w : World) :
    Calls Tryz.prog 113 #[] w fun e w' => e = .returned (.agg (first8.l.map vw).toArray) ∧ Below w.heap.size w w' := by
  have HA := Lib.hid (fun ρ d ty ps af w => alloc_First ρ d ty ps (af := af) w)
  obtain ⟨Z, hZ⟩ : ∃ Z, Hid (Z = ((List.replicate 8 (0 : UInt32)).map vw).toArray) := ⟨_, rfl⟩
  rw [← hZ.out] at HA
  have HZ : Hid (Z.size = 8) := by rw [Hid, hZ.out]; simp
  have b0 := heap_alloc_new w (.cells Z 158)
  have b1 := heap_alloc_new (w.alloc (.cells Z 158)) (.cells Z 158)
  rw [World.size_alloc] at b1
  have b0 := (Below.heap_alloc (w.alloc (.cells Z 158)) (.cells Z 158) w.heap.size (by simp)).trans b0
  have gB : Below w.heap.size w ((w.alloc (.cells Z 158)).alloc (.cells Z 158)) := ((Below.refl _ _).alloc (Nat.le_refl _) _).alloc (by simp) _
  have hsz : ((w.alloc (.cells Z 158)).alloc (.cells Z 158)).heap.size = w.heap.size + 2 := by simp
  have hp := primes_calls ((w.alloc (.cells Z 158)).alloc (.cells Z 158)) 8 20 valS_len (by decide) (by decide)
  have HB := Lib.hid (And.intro b0 (And.intro b1 (And.intro gB hsz)))
  have HPP := Lib.hid hp
  clear b0 b1 gB hsz hp
  go_enter Tryz.func113, Tryz.ntmps113
  go_wp2_with (first
    | ((with_reducible refine wpList_value (o := ⟨some 0, .alloc _, _, _, _, _⟩) (by with_unfolding_all rfl) (HA.out _ _ _ _ _ _) ?_))
    | ((with_reducible refine wpList_value (o := ⟨some 1, .alloc _, _, _, _, _⟩) (by with_unfolding_all rfl) (HA.out _ _ _ _ _ _) ?_)))
  refine Calls.mono HPP.out ?_
  rintro e w2 ⟨a, c, rfl, hQ, hb2⟩
  obtain ⟨b0, b1, gB, hsz⟩ := HB.out
  rw [hsz] at hQ hb2
  have hs2 := hb2.size
  rw [hsz] at hs2
  have A0 : w2.heap[w.heap.size]? = some (.cells Z 158) := (hb2.block _ (by omega)).trans b0
  have A1 : Arr 158 w2 (w.heap.size + 1) (List.replicate 8 0) := by
    have := (hb2.block (w.heap.size + 1) (by omega)).trans b1
    rw [hZ.out] at this; exact this
  have B2 : Below w.heap.size w w2 := gB.trans (hb2.mono (by omega))
  have HPL := Lib.hid valS_len
  obtain ⟨ps, hps⟩ : ∃ ps, Hid (ps = prm 20) := ⟨_, rfl⟩
  rw [← hps.out] at hQ HPL
  have HPS : Hid (∀ p ∈ ps, p < 20) := by rw [Hid, hps.out]; exact fun p hp => (prm_pos _ p hp).2
  clear b0 b1 gB hsz HB hb2
  go_wp2_with fail
  go_loopw [6] (fun i wr => ∃ (k : Nat) (l : List UInt32), k ≤ 8 ∧ i = .int .i64 k ∧ Hid (l = (ps.take k).map frS ++ List.replicate (8 - k) 0) ∧ Arr 158 wr (w.heap.size + 1) l ∧ wr.heap[w.heap.size]? = some (.cells Z 158) ∧ Qs (w.heap.size + 2) wr a ps c ∧ Below w.heap.size w wr) (fun i _ => 8 - (intOf i).toNat)
  case atStart => exact ⟨0, _, Nat.zero_le _, rfl, by simp [Hid], A1, A0, hQ, B2⟩
  case round =>
    clear A0 A1 hQ B2
    obtain ⟨k, l, hk, rfl, HL, A1, A0, hQ, B⟩ := hrel
    by_cases hlt : k < 8
    · have hkp : k < ps.length := by rw [HPL.out]; exact hlt
      obtain ⟨g, rfl, hcell⟩ := hQ.cell k hkp
      have i0 := hQ.index k hkp
      rw [HPL.out] at i0
      have e0 : wr.cell? (ad (some ⟨g, 0, none⟩) k) = some (vn ps[k]) := by simpa [ad] using hcell
      have hpk := HPS.out _ (List.getElem_mem hkp)
      obtain ⟨q, hq⟩ : ∃ q, ps[k] = q := ⟨_, rfl⟩
      rw [hq] at e0 hpk
      have hll : l.length = 8 := by rw [HL.out]; simp [HPL.out]; omega
      have i1 := fun W => arr_index (T := 158) (n := 8) Tryz.underlying158 (w.heap.size + 1) k hlt W
      have c1 := A1.cell k (by omega)
      have f1 := A1.free k
      have hfc := fracSq_calls wr q (by omega)
      rw [frS_v] at hfc
      have HS := Lib.hid (A1.set k (frS q))
      have HLS : Hid (l.set k (frS q) = (ps.take (k + 1)).map frS ++ List.replicate (8 - (k + 1)) 0) := by
        obtain ⟨m, hm⟩ : ∃ m, 8 - k = m + 1 := ⟨8 - k - 1, by omega⟩
        have hlen : ((ps.take k).map frS).length = k := by simp [HPL.out]; omega
        rw [Hid, HL.out, hm, show 8 - (k + 1) = m by omega, List.set_append_right _ _ (by omega), hlen, Nat.sub_self, List.replicate_succ, List.set_cons_zero, List.take_succ_eq_append_getElem hkp, List.map_append, hq, List.append_assoc]; rfl
      have hsv : Save (· ≠ w.heap.size + 1) wr (wr.setCell ⟨w.heap.size + 1, k, none⟩ (vw (frS q))) := Save.set
      have HN : Hid (wr.setCell ⟨w.heap.size + 1, k, none⟩ (vw (frS q)) |>.heap[w.heap.size]? |> (· = some (.cells Z 158))) := (hsv.block _ (Array.getElem?_eq_some_iff.1 A0).1 (by omega)).trans A0
      have HQ2 := Lib.hid (hQ.save hsv (fun g hg _ => by omega))
      have HB2 := Lib.hid (B.setCell (p := ⟨w.heap.size + 1, k, none⟩) (by show w.heap.size ≤ w.heap.size + 1; omega) (vw (frS q)))
      clear hq hcell hsv
      go_wp2_with fail
      refine hfc.mono ?_
      rintro e w' ⟨rfl, rfl⟩
      go_wp2_with fail
      go_roundw
      case rel => exact ⟨k + 1, _, by omega, by go_num, HLS, HS.out, HN.out, HQ2.out, HB2.out⟩
      case measure => simp [intOf]; omega
    · have hk2 : k = 8 := by omega
      have HF : Hid (l = first8.l) := by
        rw [Hid, HL.out, hk2, Nat.sub_self, List.replicate_zero, List.append_nil, List.take_of_length_le (by rw [HPL.out]; exact Nat.le_refl _), hps.out]; exact valS_is
      have HL1 : Hid ((l.map vw).toArray.size = 8) := by rw [Hid, HF.out]; simp [S8.l]
      have HO := Lib.hid (arr_ok l)
      have HA1 : Hid (wr.heap[w.heap.size + 1]? = some (.cells (l.map vw).toArray 158 (0, 0))) := A1
      have HA0 := Lib.hid A0
      obtain ⟨F, hF⟩ : ∃ F, Hid (F = (l.map vw).toArray) := ⟨_, rfl⟩
      rw [← hF.out] at HL1 HO HA1
      clear hk2 HL A1 A0
      go_wp2_with (first
        | ((with_reducible refine wpList_loadB (o := ⟨some 16, .load _ _, _, _, _, _⟩) row_First (.tmp 1) (by with_unfolding_all rfl) (by with_unfolding_all rfl) (by with_unfolding_all rfl) HA1.out HL1.out ?_))
        | ((with_reducible refine wpList_storeB (o := ⟨none, .store _ (.tmp 0) (.tmp 16), _, _, _, _⟩) row_First (.tmp 0) (.tmp 16) (by with_unfolding_all rfl) (by with_unfolding_all rfl) (by with_unfolding_all rfl) (by with_unfolding_all rfl) (by with_unfolding_all rfl) HA0.out HZ.out HL1.out HO.out ?_); intro w4 hb4 hS4))
      refine bodyPost_ret (resB1 row_First rfl rfl hb4 HL1.out) rfl ⟨by rw [hF.out, HF.out], ?_⟩
      exact B.trans (hS4.below B.size (fun j hj => by omega))

def frC (p : Nat) : UInt32 := UInt32.ofNat (bis (fun x => cuN x p) 37 0)
theorem frC_v (p : Nat) : Value.int .u32 ((bis (fun x => cuN x p) 37 0 % 4294967296 : Nat) : Int) = vw (frC p) := by
  unfold frC vw
  rw [UInt32.toNat_ofNat']
def valC : List UInt32 := (prm 312).map frC
theorem valC_len : (prm 312).length = 64 := by decide +kernel
theorem valC_is : valC = kTab := by decide +kernel
theorem alloc_constants (ρ : Operand → Value) (d : Option Tmp) (ty : TypeId) (ps : String) {af} (w : World) :
    (execOp ρ { dst := d, op := Op.alloc 160, type := ty, pos := ps, after := af, guard := none }).run Tryz.prog w = .ok (.value (.pointer (some ⟨w.heap.size, 0, none⟩))) (w.alloc (.cells ((List.replicate 64 (0 : UInt32)).map vw).toArray 160)) := by
  kernel_rfl
theorem row_constants : RowType Tryz.prog 160 64 := ⟨⟨_, Tryz.underlying160, rfl⟩, by kernel_rfl⟩

set_option maxRecDepth 100000 in
set_option maxHeartbeats 2000000 in
theorem constants_calls (w : World) :
    Calls Tryz.prog 114 #[] w fun e w' => e = .returned (.agg (kTab.map vw).toArray) ∧ Below w.heap.size w w' := by
  have HA := Lib.hid (fun ρ d ty ps af w => alloc_constants ρ d ty ps (af := af) w)
  obtain ⟨Z, hZ⟩ : ∃ Z, Hid (Z = ((List.replicate 64 (0 : UInt32)).map vw).toArray) := ⟨_, rfl⟩
  rw [← hZ.out] at HA
  have HZ : Hid (Z.size = 64) := by rw [Hid, hZ.out]; simp
  have b0 := heap_alloc_new w (.cells Z 160)
  have b1 := heap_alloc_new (w.alloc (.cells Z 160)) (.cells Z 160)
  rw [World.size_alloc] at b1
  have b0 := (Below.heap_alloc (w.alloc (.cells Z 160)) (.cells Z 160) w.heap.size (by simp)).trans b0
  have gB : Below w.heap.size w ((w.alloc (.cells Z 160)).alloc (.cells Z 160)) := ((Below.refl _ _).alloc (Nat.le_refl _) _).alloc (by simp) _
  have hsz : ((w.alloc (.cells Z 160)).alloc (.cells Z 160)).heap.size = w.heap.size + 2 := by simp
  have hp := primes_calls ((w.alloc (.cells Z 160)).alloc (.cells Z 160)) 64 312 valC_len (by decide) (by decide)
  have HB := Lib.hid (And.intro b0 (And.intro b1 (And.intro gB hsz)))
  have HPP := Lib.hid hp
  clear b0 b1 gB hsz hp
  go_enter Tryz.func114, Tryz.ntmps114
  go_wp2_with (first
    | ((with_reducible refine wpList_value (o := ⟨some 0, .alloc _, _, _, _, _⟩) (by with_unfolding_all rfl) (HA.out _ _ _ _ _ _) ?_))
    | ((with_reducible refine wpList_value (o := ⟨some 1, .alloc _, _, _, _, _⟩) (by with_unfolding_all rfl) (HA.out _ _ _ _ _ _) ?_)))
  refine Calls.mono HPP.out ?_
  rintro e w2 ⟨a, c, rfl, hQ, hb2⟩
  obtain ⟨b0, b1, gB, hsz⟩ := HB.out
  rw [hsz] at hQ hb2
  have hs2 := hb2.size
  rw [hsz] at hs2
  have A0 : w2.heap[w.heap.size]? = some (.cells Z 160) := (hb2.block _ (by omega)).trans b0
  have A1 : Arr 160 w2 (w.heap.size + 1) (List.replicate 64 0) := by
    have := (hb2.block (w.heap.size + 1) (by omega)).trans b1
    rw [hZ.out] at this; exact this
  have B2 : Below w.heap.size w w2 := gB.trans (hb2.mono (by omega))
  have HPL := Lib.hid valC_len
  obtain ⟨ps, hps⟩ : ∃ ps, Hid (ps = prm 312) := ⟨_, rfl⟩
  rw [← hps.out] at hQ HPL
  have HPS : Hid (∀ p ∈ ps, p < 312) := by rw [Hid, hps.out]; exact fun p hp => (prm_pos _ p hp).2
  clear b0 b1 gB hsz HB hb2
  go_wp2_with fail
  go_loopw [6] (fun i wr => ∃ (k : Nat) (l : List UInt32), k ≤ 64 ∧ i = .int .i64 k ∧ Hid (l = (ps.take k).map frC ++ List.replicate (64 - k) 0) ∧ Arr 160 wr (w.heap.size + 1) l ∧ wr.heap[w.heap.size]? = some (.cells Z 160) ∧ Qs (w.heap.size + 2) wr a ps c ∧ Below w.heap.size w wr) (fun i _ => 64 - (intOf i).toNat)
  case atStart => exact ⟨0, _, Nat.zero_le _, rfl, by simp [Hid], A1, A0, hQ, B2⟩
  case round =>
    clear A0 A1 hQ B2
    obtain ⟨k, l, hk, rfl, HL, A1, A0, hQ, B⟩ := hrel
    by_cases hlt : k < 64
    · have hkp : k < ps.length := by rw [HPL.out]; exact hlt
      obtain ⟨g, rfl, hcell⟩ := hQ.cell k hkp
      have i0 := hQ.index k hkp
      rw [HPL.out] at i0
      have e0 : wr.cell? (ad (some ⟨g, 0, none⟩) k) = some (vn ps[k]) := by simpa [ad] using hcell
      have hpk := HPS.out _ (List.getElem_mem hkp)
      obtain ⟨q, hq⟩ : ∃ q, ps[k] = q := ⟨_, rfl⟩
      rw [hq] at e0 hpk
      have hll : l.length = 64 := by rw [HL.out]; simp [HPL.out]; omega
      have i1 := fun W => arr_index (T := 160) (n := 64) Tryz.underlying160 (w.heap.size + 1) k hlt W
      have c1 := A1.cell k (by omega)
      have f1 := A1.free k
      have hfc := fracCu_calls wr q (by omega)
      rw [frC_v] at hfc
      have HS := Lib.hid (A1.set k (frC q))
      have HLS : Hid (l.set k (frC q) = (ps.take (k + 1)).map frC ++ List.replicate (64 - (k + 1)) 0) := by
        obtain ⟨m, hm⟩ : ∃ m, 64 - k = m + 1 := ⟨64 - k - 1, by omega⟩
        have hlen : ((ps.take k).map frC).length = k := by simp [HPL.out]; omega
        rw [Hid, HL.out, hm, show 64 - (k + 1) = m by omega, List.set_append_right _ _ (by omega), hlen, Nat.sub_self, List.replicate_succ, List.set_cons_zero, List.take_succ_eq_append_getElem hkp, List.map_append, hq, List.append_assoc]; rfl
      have hsv : Save (· ≠ w.heap.size + 1) wr (wr.setCell ⟨w.heap.size + 1, k, none⟩ (vw (frC q))) := Save.set
      have HN : Hid (wr.setCell ⟨w.heap.size + 1, k, none⟩ (vw (frC q)) |>.heap[w.heap.size]? |> (· = some (.cells Z 160))) := (hsv.block _ (Array.getElem?_eq_some_iff.1 A0).1 (by omega)).trans A0
      have HQ2 := Lib.hid (hQ.save hsv (fun g hg _ => by omega))
      have HB2 := Lib.hid (B.setCell (p := ⟨w.heap.size + 1, k, none⟩) (by show w.heap.size ≤ w.heap.size + 1; omega) (vw (frC q)))
      clear hq hcell hsv
      go_wp2_with fail
      refine hfc.mono ?_
      rintro e w' ⟨rfl, rfl⟩
      go_wp2_with fail
      go_roundw
      case rel => exact ⟨k + 1, _, by omega, by go_num, HLS, HS.out, HN.out, HQ2.out, HB2.out⟩
      case measure => simp [intOf]; omega
    · have hk2 : k = 64 := by omega
      have HF : Hid (l = kTab) := by
        rw [Hid, HL.out, hk2, Nat.sub_self, List.replicate_zero, List.append_nil, List.take_of_length_le (by rw [HPL.out]; exact Nat.le_refl _), hps.out]; exact valC_is
      have HL1 : Hid ((l.map vw).toArray.size = 64) := by rw [Hid, HF.out]; simp [kTab]
      have HO := Lib.hid (arr_ok l)
      have HA1 : Hid (wr.heap[w.heap.size + 1]? = some (.cells (l.map vw).toArray 160 (0, 0))) := A1
      have HA0 := Lib.hid A0
      obtain ⟨F, hF⟩ : ∃ F, Hid (F = (l.map vw).toArray) := ⟨_, rfl⟩
      rw [← hF.out] at HL1 HO HA1
      clear hk2 HL A1 A0
      go_wp2_with (first
        | ((with_reducible refine wpList_loadB (o := ⟨some 16, .load _ _, _, _, _, _⟩) row_constants (.tmp 1) (by with_unfolding_all rfl) (by with_unfolding_all rfl) (by with_unfolding_all rfl) HA1.out HL1.out ?_))
        | ((with_reducible refine wpList_storeB (o := ⟨none, .store _ (.tmp 0) (.tmp 16), _, _, _, _⟩) row_constants (.tmp 0) (.tmp 16) (by with_unfolding_all rfl) (by with_unfolding_all rfl) (by with_unfolding_all rfl) (by with_unfolding_all rfl) (by with_unfolding_all rfl) HA0.out HZ.out HL1.out HO.out ?_); intro w4 hb4 hS4))
      refine bodyPost_ret (resB1 row_constants rfl rfl hb4 HL1.out) rfl ⟨by rw [hF.out, HF.out], ?_⟩
      exact B.trans (hS4.below B.size (fun j hj => by omega))
end Go.Proofs.YtlholdllibghbaaGreat

