/- The laws' own 'awake' of layer 7: it returns true. Walked. -/
import Derived.Test.YtbglmglgaobjmaaRefFrame
import Derived.Lib.SlBytesConst
namespace Go.Proofs.Ytbglmglgaobjmaa
open Go Go.RowKit Go.Cit

theorem fawk_take : (frameB 7 [97, 98]).take 5 = [7, 2, 97, 98, 0] := by decide +kernel
theorem fawk_open7 : openB 7 (frameB 7 [97, 98]) = true := by decide +kernel
theorem fawk_open8 : openB 8 (frameB 7 [97, 98]) = false := by decide +kernel
theorem fawk_open0 : openB 0 (List.replicate 64 0) = false := by decide +kernel
theorem fawk_load : openedB 7 (frameB 7 [97, 98]) = [97, 98] := by decide +kernel

set_option maxHeartbeats 4000000 in
theorem frameAwake_calls (w : World) :
    Calls Try.prog 50 #[] w fun e w' => e = .returned (.bool true) ∧ Below w.heap.size w w' := by
  have kc := fun (w : World) (C : Array Value) (n c : Nat) => Lib.run_convert_bytes_const (P := Try.prog) w 23 5 C n c Try.underlying23 Try.underlying5
  go_enter Try.func50, Try.ntmps50
  go_wp2_with fail
  have HA : Calls Try.prog 38 #[.int .u8 7, .slice (some ⟨w.heap.size, 0, none⟩) 2 2] (w.alloc (.cells #[.int .u8 97, .int .u8 98] 5 (2, 3))) _ := fseal_calls _ 7 _ [97, 98] 2 (row_new w _ _ (2, 3) [97, 98] rfl (by decide)) (by decide)
  refine HA.mono ?_
  rintro e w1 ⟨a1, X, c1, HX, rfl, hm1, hb1⟩
  have B1 : Below w.heap.size w w1 := ((Below.refl _ _).alloc (Nat.le_refl _) _).trans (hb1.mono (by simp))
  have HXl : Hid (X.length = 64) := by rw [Hid, HX.out]; exact frameB_length _ _ (by decide)
  have gl : ((X.length : Int) != 64) = false := by rw [HXl.out]; rfl
  obtain ⟨a2, m, c2, hm, hrun, r2⟩ := hm1.row.upto bt.slice bt.sz 5 (by rw [HXl.out]; decide)
  rw [show ((5 : Nat) : Int) = 5 from rfl] at hrun
  have HM : Hid (m = [7, 2, 97, 98, 0]) := by rw [Hid, hm, HX.out]; exact fawk_take
  have x1 := hm1.row
  clear HA hb1 hm hm1
  go_wp2_with fail
  have gs : (ordB m [7, 2, 97, 98, 0] == 0) = true := by rw [HM.out]; rfl
  have hA : ∀ (W : World) (o : Obj), Below W.heap.size W (W.alloc o) := fun W o => (Below.refl _ _).alloc (Nat.le_refl _) _
  have HB : Calls Try.prog 35 #[.slice a2 m.length c2, .slice (some ⟨w1.heap.size, 0, none⟩) 5 5] (w1.alloc (.cells #[.int .u8 7, .int .u8 2, .int .u8 97, .int .u8 98, .int .u8 0] 5)) _ := wsame_calls _ a2 _ m [7, 2, 97, 98, 0] c2 5 (r2.stay (hA w1 _)) (row_new w1 _ _ _ _ rfl (by decide))
  rw [gs] at HB
  refine Calls.mono HB ?_
  rintro e w2 ⟨rfl, hw2⟩
  have b2 : Below w1.heap.size w1 w2 := by rw [hw2]; exact hA w1 _
  have B2 := B1.trans (b2.mono B1.size)
  have x2 := x1.stay b2
  clear HB hw2 r2 hrun gs HM b2 B1 x1
  go_wp2_with fail
  refine (fopen_calls _ 7 _ _ _ x2 (by rw [HXl.out]; decide)).mono ?_
  rintro e w3 ⟨a3, Y, c3, HY, rfl, hm3, hb3⟩
  have HY2 : Hid (Y = [97, 98]) := by rw [Hid, HY.out, HX.out]; exact fawk_load
  have o7 : oerrB 7 X = 0 := by rw [oerrB, HX.out, fawk_open7]; rfl
  have x3 := x2.stay hb3
  have y3 := hm3.row
  have B3 := B2.trans (hb3.mono B2.size)
  clear HY hm3 hb3 x2 B2
  go_wp2_with fail
  refine (fopen_calls _ 8 _ _ _ x3 (by rw [HXl.out]; decide)).mono ?_
  rintro e w4 ⟨a4, Z, c4, HZ, rfl, hm4, hb4⟩
  have o8 : oerrB 8 X = 70 := by rw [oerrB, HX.out, fawk_open8]; rfl
  have y4 := y3.stay hb4
  have B4 := B3.trans (hb4.mono B3.size)
  clear HZ hm4 hb4 x3 B3 y3
  go_wp2_with (refine wp_make_bytes bt (.const (.int .i64 64)) (.const (.int .i64 64)) rfl rfl 64 .i64 .i64 rfl rfl rfl (by decide) ?_; intro w5 hown hgr hsz)
  have b5 : Below w4.heap.size w4 w5 := (Below.refl _ _).grown hgr (Nat.le_refl _) (fun k hk => by cases hk)
  have HD := fopen_calls _ 0 _ _ _ hown.isRow (by rw [List.length_replicate]; decide)
  have o0 : oerrB 0 (List.replicate 64 0) = 70 := by rw [oerrB, fawk_open0]; rfl
  rw [List.length_replicate, o0] at HD
  have y5 := y4.stay b5
  have B5 := B4.trans (b5.mono B4.size)
  clear hown hgr y4 B4 b5
  refine Calls.mono HD ?_
  rintro e w6 ⟨a6, V, c6, HV, rfl, hm6, hb6⟩
  clear o0
  have y6 := y5.stay hb6
  have B6 := B5.trans (hb6.mono B5.size)
  clear HD HV hm6 hb6 y5 B5
  go_wp2_with fail
  have gs : (ordB Y [97, 98] == 0) = true := by rw [HY2.out]; rfl
  have HB : Calls Try.prog 35 #[.slice a3 Y.length c3, .slice (some ⟨w6.heap.size, 0, none⟩) 2 2] (w6.alloc (.cells #[.int .u8 97, .int .u8 98] 5 (2, 3))) _ := wsame_calls _ a3 _ Y [97, 98] c3 2 (y6.stay (hA w6 _)) (row_new w6 _ _ _ _ rfl (by decide))
  rw [gs] at HB
  refine Calls.mono HB ?_
  rintro e w7 ⟨rfl, rfl⟩
  have B7 := B6.trans ((hA w6 (.cells #[.int .u8 97, .int .u8 98] 5 (2, 3))).mono B6.size)
  clear HB gs
  go_wp2_with fail
  go_ret
  exact ⟨rfl, B7⟩
end Go.Proofs.Ytbglmglgaobjmaa
