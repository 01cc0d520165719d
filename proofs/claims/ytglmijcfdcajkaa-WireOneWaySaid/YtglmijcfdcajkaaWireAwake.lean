/- The laws' own 'awake' of layer 5: it returns true. Walked. -/
import Derived.Test.YtglmijcfdcajkaaWireGet2
import Derived.Test.YtglmijcfdcajkaaWireFields
namespace Go.Proofs.Ytglmijcfdcajkaa
open Go Go.RowKit Go.Cit

theorem wawk_a : flagB true ++ [9] ++ rowB (qOfI 513) 8 = [1, 9, 0, 0, 0, 0, 0, 0, 2, 1] := by decide +kernel
theorem wawk_b : rowB (qOfI (-1)) 8 ++ withB [104, 105] ++ withB [] = [255, 255, 255, 255, 255, 255, 255, 255, 0, 0, 0, 2, 104, 105, 0, 0, 0, 0] := by decide +kernel
theorem wawk_r : St.read (St.new [2]) 1 fFlag false = (false, St.broke) := by kernel_rfl
theorem wawk_s : St.bytes (St.new [0, 0, 0, 1]) = ([], St.broke) := by kernel_rfl
theorem wawk_t : St.read (St.new [7, 7]) 1 fByte 0 = (7, ⟨[7], 0⟩) := by kernel_rfl
theorem wawk_u : St.count (St.new [0, 0, 0, 0, 0, 0, 0, 3, 1, 1]) 5 = (0, St.broke) := by kernel_rfl
theorem wawk_v : St.count (St.new [0, 0, 0, 0, 0, 0, 0, 3, 1, 1, 1]) 5 = (3, ⟨[1, 1, 1], 0⟩) := by kernel_rfl

theorem hAl (W : World) (o : Obj) : Below W.heap.size W (W.alloc o) := (Below.refl _ _).alloc (Nat.le_refl _) _

/-- A reader of bytes that are written out. -/
theorem newlit_calls (w : World) (l : List UInt8) (fr : Nat × Nat) (hl : l.length ≤ 1000) :
    Calls Try.prog 17 #[.slice (some ⟨w.heap.size, 0, none⟩) l.length l.length] (w.alloc (.cells (l.map vb).toArray 5 fr)) fun r w' => ∃ b, Hid (w.heap.size ≤ b ∧ b < w'.heap.size) ∧ r = .returned (.pointer (some ⟨b, 0, none⟩)) ∧ RdAt b w'.heap.size w' b (St.new l) ∧ Below w.heap.size w w' := by
  refine (newreader_calls _ (row_new w _ 5 fr l rfl (by omega))).mono ?_
  rintro r w' ⟨hr, hR, hb⟩
  refine ⟨_, ⟨by simp, ?_⟩, hr, hR, (hAl w _).trans (hb.mono (by simp))⟩
  obtain ⟨a, c, hR⟩ := hR
  exact hR.lt

set_option maxRecDepth 100000 in
set_option maxHeartbeats 4000000 in
theorem wireAwake_calls (w : World) :
    Calls Try.prog 33 #[] w fun e w' => e = .returned (.bool true) ∧ Below w.heap.size w w' := by
  go_enter Try.func33, Try.ntmps33
  go_wp2_with fail
  refine (newwriter_calls _).mono ?_
  rintro e w1 ⟨rfl, hW, B1⟩
  go_wp2_with fail
  refine (wflag_calls hW B1.size true (by decide)).mono ?_
  rintro e w2 ⟨a2, X2, c2, HX2, rfl, hW2, hS2, hN2⟩
  have B2 : Below w.heap.size w w2 := B1.trans (hS2.below B1.size (fun k hk => ⟨by omega, fun he => by simp [blk] at he⟩))
  have l2 : X2.length = 1 := by rw [HX2.out]; rfl
  have L2 := Lib.hid l2
  clear hW B1 hS2 hN2 l2
  go_wp2_with fail
  refine (wbyte_calls hW2 B2.size 9 (by rw [L2.out]; decide)).mono ?_
  rintro e w3 ⟨a3, X3, c3, HX3, rfl, hW3, hS3, hN3⟩
  have B3 : Below w.heap.size w w3 := B2.trans (hS3.below B2.size (fun k hk => ⟨by omega, fun he => by have := (hW2.own.blk_ge he.symm).1; omega⟩))
  have L3 : Hid (X3.length = 2) := by rw [Hid, HX3.out, List.length_append, L2.out]; rfl
  clear hW2 B2 hS3 hN3
  go_wp2_with fail
  refine (wint_calls hW3 B3.size 513 (by rw [L3.out]; decide)).mono ?_
  rintro e w4 ⟨a4, X4, c4, HX4, rfl, hW4, hS4, hN4⟩
  have B4 : Below w.heap.size w w4 := B3.trans (hS4.below B3.size (fun k hk => ⟨by omega, fun he => by have := (hW3.own.blk_ge he.symm).1; omega⟩))
  have E4 : Hid (X4 = [1, 9, 0, 0, 0, 0, 0, 0, 2, 1]) := by rw [Hid, HX4.out, HX3.out, HX2.out, List.nil_append]; exact wawk_a
  clear hW3 B3 hS4 hN4 HX2 HX3 HX4 L2 L3
  go_wp2_with fail
  refine (done_calls hW4).mono ?_
  rintro e w5 ⟨a5, A, c5, HA, rfl, hm5, hb5⟩
  have E5 : Hid (A = [1, 9, 0, 0, 0, 0, 0, 0, 2, 1]) := by rw [Hid, HA.out, E4.out]
  have B5 := B4.trans (hb5.mono B4.size)
  have rA := hm5.row
  clear hW4 B4 hm5 hb5 HA E4
  go_wp2_with fail
  refine (newwriter_calls _).mono ?_
  rintro e w6 ⟨rfl, hW, b6⟩
  have z6 : w5.heap.size ≤ w6.heap.size := b6.size
  go_wp2_with fail
  refine (wint_calls hW z6 (-1) (by decide)).mono ?_
  rintro e w7 ⟨a7, X7, c7, HX7, rfl, hW7, hS7, hN7⟩
  have b7 : Below w5.heap.size w5 w7 := b6.trans (hS7.below z6 (fun k hk => ⟨by omega, fun he => by simp [blk] at he⟩))
  have L7 : Hid (X7.length = 8) := by rw [Hid, HX7.out]; exact rowB_length _ _
  clear hW b6 hS7 hN7 z6
  go_wp2_with fail
  refine (wtext_calls hW7 b7.size [104, 105] (by rw [L7.out]; decide)).mono ?_
  rintro e w8 ⟨a8, X8, c8, HX8, rfl, hW8, hS8, hN8⟩
  have b8 : Below w5.heap.size w5 w8 := b7.trans (hS8.below b7.size (fun k hk => ⟨by omega, fun he => by have := (hW7.own.blk_ge he.symm).1; omega⟩))
  have L8 : Hid (X8.length = 14) := by rw [Hid, HX8.out, List.length_append, L7.out]; rfl
  clear hW7 b7 hS8 hN8
  go_wp2_with fail
  refine (wbytes_calls hW8 b8.size (Row.nil_ _) (by rw [L8.out]; decide)).mono ?_
  rintro e w9 ⟨a9, X9, c9, HX9, rfl, hW9, hS9, hN9⟩
  have b9 : Below w5.heap.size w5 w9 := b8.trans (hS9.below b8.size (fun k hk => ⟨by omega, fun he => by have := (hW8.own.blk_ge he.symm).1; omega⟩))
  have E9 : Hid (X9 = [255, 255, 255, 255, 255, 255, 255, 255, 0, 0, 0, 2, 104, 105, 0, 0, 0, 0]) := by rw [Hid, HX9.out, HX8.out, HX7.out, List.nil_append]; exact wawk_b
  clear hW8 b8 hS9 hN9 HX7 HX8 HX9 L7 L8
  go_wp2_with fail
  refine (done_calls hW9).mono ?_
  rintro e w10 ⟨a10, Bb, c10, HB, rfl, hm10, hb10⟩
  have E10 : Hid (Bb = [255, 255, 255, 255, 255, 255, 255, 255, 0, 0, 0, 2, 104, 105, 0, 0, 0, 0]) := by rw [Hid, HB.out, E9.out]
  have b10 := b9.trans (hb10.mono b9.size)
  have rA10 := rA.stay b10
  have rB10 := hm10.row
  have B10 := B5.trans (b10.mono B5.size)
  clear rA hm10 hb10 b9 hW9 HB E9 b10 B5
  go_wp2_with fail
  have gs : (ordB A [1, 9, 0, 0, 0, 0, 0, 0, 2, 1] == 0) = true := by rw [E5.out]; rfl
  have HB1 : Calls Try.prog 39 #[.slice a5 A.length c5, .slice (some ⟨w10.heap.size, 0, none⟩) 10 10] (w10.alloc (.cells #[.int .u8 1, .int .u8 9, .int .u8 0, .int .u8 0, .int .u8 0, .int .u8 0, .int .u8 0, .int .u8 0, .int .u8 2, .int .u8 1] 5)) _ := wsame_calls _ a5 _ A [1, 9, 0, 0, 0, 0, 0, 0, 2, 1] c5 10 (rA10.stay (hAl w10 _)) (row_new w10 _ _ _ _ rfl (by decide))
  rw [gs] at HB1
  refine Calls.mono HB1 ?_
  rintro e w11 ⟨rfl, hw11⟩
  have b11 : Below w10.heap.size w10 w11 := by rw [hw11]; exact hAl w10 _
  have B11 := B10.trans (b11.mono B10.size)
  have rB11 := rB10.stay b11
  clear HB1 hw11 b11 B10 rA10 rB10 gs
  go_wp2_with fail
  have gs : (ordB Bb [255, 255, 255, 255, 255, 255, 255, 255, 0, 0, 0, 2, 104, 105, 0, 0, 0, 0] == 0) = true := by rw [E10.out]; rfl
  have HB1 : Calls Try.prog 39 #[.slice a10 Bb.length c10, .slice (some ⟨w11.heap.size, 0, none⟩) 18 18] (w11.alloc (.cells #[.int .u8 255, .int .u8 255, .int .u8 255, .int .u8 255, .int .u8 255, .int .u8 255, .int .u8 255, .int .u8 255, .int .u8 0, .int .u8 0, .int .u8 0, .int .u8 2, .int .u8 104, .int .u8 105, .int .u8 0, .int .u8 0, .int .u8 0, .int .u8 0] 5)) _ := wsame_calls _ a10 _ Bb [255, 255, 255, 255, 255, 255, 255, 255, 0, 0, 0, 2, 104, 105, 0, 0, 0, 0] c10 18 (rB11.stay (hAl w11 _)) (row_new w11 _ _ _ _ rfl (by decide))
  rw [gs] at HB1
  refine Calls.mono HB1 ?_
  rintro e w12 ⟨rfl, hw12⟩
  have b12 : Below w11.heap.size w11 w12 := by rw [hw12]; exact hAl w11 _
  have B12 := B11.trans (b12.mono B11.size)
  clear HB1 hw12 b12 B11 rB11 gs E5 E10
  go_wp2_with fail
  have hn13 := newlit_calls w12 [2] (0, 0) (by decide)
  rw [show (([2] : List UInt8).map vb).toArray = #[.int .u8 2] from rfl, show ([2] : List UInt8).length = 1 from rfl] at hn13
  refine Calls.mono hn13 ?_
  rintro r w13 ⟨b1, hb1, rfl, hr1, k13⟩
  have B13 := B12.trans (k13.mono B12.size)
  have z12 := B12.size
  clear hn13 B12
  go_wp2_with fail
  have hn14 := newlit_calls w13 [0, 0, 0, 1] (0, 0) (by decide)
  rw [show (([0, 0, 0, 1] : List UInt8).map vb).toArray = #[.int .u8 0, .int .u8 0, .int .u8 0, .int .u8 1] from rfl, show ([0, 0, 0, 1] : List UInt8).length = 4 from rfl] at hn14
  refine Calls.mono hn14 ?_
  rintro r w14 ⟨b2, hb2, rfl, hr2, k14⟩
  have B14 := B13.trans (k14.mono B13.size)
  have hr1 := hr1.stay k14
  clear hn14 B13
  go_wp2_with fail
  have hn15 := newlit_calls w14 [7, 7] (0, 0) (by decide)
  rw [show (([7, 7] : List UInt8).map vb).toArray = #[.int .u8 7, .int .u8 7] from rfl, show ([7, 7] : List UInt8).length = 2 from rfl] at hn15
  refine Calls.mono hn15 ?_
  rintro r w15 ⟨b3, hb3, rfl, hr3, k15⟩
  have B15 := B14.trans (k15.mono B14.size)
  have hr1 := hr1.stay k15
  have hr2 := hr2.stay k15
  have z13 := k14.size
  have z14 := k15.size
  have ho1 := hb1.out
  have ho2 := hb2.out
  have ho3 := hb3.out
  clear hn15 B14 k13 k14 k15 hb1 hb2 hb3
  go_wp2_with fail
  obtain ⟨p1, q1, R1⟩ := hr1
  have hk := rflag_calls R1
  rw [show St.read ⟨(St.new [2]).l, (St.new [2]).e⟩ 1 fFlag false = (false, St.broke) from wawk_r] at hk
  refine Calls.mono hk ?_
  rintro r w16 ⟨rfl, ⟨p2, q2, R2⟩, S16⟩
  have R2 : Rd b1 w13.heap.size w16 b1 p2 [] q2 50 := R2
  have hr2 := hr2.save S16 (by omega) (fun g h1 h2 => by omega)
  have hr3 := hr3.save S16 (by omega) (fun g h1 h2 => by omega)
  have B16 := B15.trans (S16.below B15.size (fun k hk => by omega))
  clear hk R1 B15
  go_wp2_with fail
  refine (rerr_calls R2).mono ?_
  rintro r w17 ⟨rfl, rfl⟩
  go_wp2_with fail
  obtain ⟨p3, q3, R3⟩ := hr2
  have hk := rbytes_calls R3
  rw [show St.bytes ⟨(St.new [0, 0, 0, 1]).l, (St.new [0, 0, 0, 1]).e⟩ = ([], St.broke) from wawk_s] at hk
  refine Calls.mono hk ?_
  rintro r w18 ⟨p4, Y, q4, HY, rfl, hm4, ⟨p5, q5, R5⟩, S18⟩
  have hY : Y = [] := HY.out
  subst hY
  have R5 : Rd b2 w14.heap.size w18 b2 p5 [] q5 50 := R5
  have hr3 := hr3.save S18 (by omega) (fun g h1 h2 => by omega)
  have B18 := B16.trans (S18.below B16.size (fun k hk => by omega))
  clear hk R3 B16 hm4 HY R2
  go_wp2_with fail
  refine (rerr_calls R5).mono ?_
  rintro r w19 ⟨rfl, rfl⟩
  go_wp2_with fail
  obtain ⟨p6, q6, R6⟩ := hr3
  have hk := rbyte_calls R6
  rw [show St.read ⟨(St.new [7, 7]).l, (St.new [7, 7]).e⟩ 1 fByte 0 = (7, ⟨[7], 0⟩) from wawk_t] at hk
  refine Calls.mono hk ?_
  rintro r w20 ⟨rfl, ⟨p7, q7, R7⟩, S20⟩
  have R7 : Rd b3 w15.heap.size w20 b3 p7 [7] q7 0 := R7
  have B20 := B18.trans (S20.below B18.size (fun k hk => by omega))
  clear hk R6 B18 R5
  go_wp2_with fail
  refine (rleft_calls R7).mono ?_
  rintro r w21 ⟨rfl, rfl⟩
  rw [show St.left ⟨[7], 0⟩ = 1 from rfl]
  go_wp2_with fail
  refine (rerr_calls R7).mono ?_
  rintro r w22 ⟨rfl, rfl⟩
  go_wp2_with fail
  refine (rend_calls R7).mono ?_
  rintro r w23 ⟨rfl, rfl⟩
  rw [show St.fin ⟨[7], 0⟩ = 50 from rfl]
  clear R7 S16 S18 S20 ho1 ho2 ho3 z13 z14
  go_wp2_with fail
  have hn24 := newlit_calls w20 [0, 0, 0, 0, 0, 0, 0, 3, 1, 1] (0, 0) (by decide)
  rw [show (([0, 0, 0, 0, 0, 0, 0, 3, 1, 1] : List UInt8).map vb).toArray = #[.int .u8 0, .int .u8 0, .int .u8 0, .int .u8 0, .int .u8 0, .int .u8 0, .int .u8 0, .int .u8 3, .int .u8 1, .int .u8 1] from rfl, show ([0, 0, 0, 0, 0, 0, 0, 3, 1, 1] : List UInt8).length = 10 from rfl] at hn24
  refine Calls.mono hn24 ?_
  rintro r w24 ⟨b4, hb4, rfl, hr4, k24⟩
  have B24 := B20.trans (k24.mono B20.size)
  have B20z := B20.size
  clear hn24 B20
  go_wp2_with fail
  have hn25 := newlit_calls w24 [0, 0, 0, 0, 0, 0, 0, 3, 1, 1, 1] (0, 0) (by decide)
  rw [show (([0, 0, 0, 0, 0, 0, 0, 3, 1, 1, 1] : List UInt8).map vb).toArray = #[.int .u8 0, .int .u8 0, .int .u8 0, .int .u8 0, .int .u8 0, .int .u8 0, .int .u8 0, .int .u8 3, .int .u8 1, .int .u8 1, .int .u8 1] from rfl, show ([0, 0, 0, 0, 0, 0, 0, 3, 1, 1, 1] : List UInt8).length = 11 from rfl] at hn25
  refine Calls.mono hn25 ?_
  rintro r w25 ⟨b5, hb5, rfl, hr5, k25⟩
  have B25 := B24.trans (k25.mono B24.size)
  have hr4 := hr4.stay k25
  have z24 := k24.size
  have z25 := k25.size
  have ho4 := hb4.out
  have ho5 := hb5.out
  clear hn25 B24 k24 k25 hb4 hb5
  go_wp2_with fail
  obtain ⟨p1, q1, R1⟩ := hr4
  have hk := rcount_calls R1 5
  rw [show St.count ⟨(St.new [0, 0, 0, 0, 0, 0, 0, 3, 1, 1]).l, (St.new [0, 0, 0, 0, 0, 0, 0, 3, 1, 1]).e⟩ 5 = (0, St.broke) from wawk_u] at hk
  refine Calls.mono hk ?_
  rintro r w26 ⟨rfl, ⟨p2, q2, R2⟩, S26⟩
  have R2 : Rd b4 w24.heap.size w26 b4 p2 [] q2 50 := R2
  have hr5 := hr5.save S26 (by omega) (fun g h1 h2 => by omega)
  have B26 := B25.trans (S26.below B25.size (fun k hk => by omega))
  clear hk R1 B25
  go_wp2_with fail
  refine (rerr_calls R2).mono ?_
  rintro r w27 ⟨rfl, rfl⟩
  go_wp2_with fail
  obtain ⟨p3, q3, R3⟩ := hr5
  have hk := rcount_calls R3 5
  rw [show St.count ⟨(St.new [0, 0, 0, 0, 0, 0, 0, 3, 1, 1, 1]).l, (St.new [0, 0, 0, 0, 0, 0, 0, 3, 1, 1, 1]).e⟩ 5 = (3, ⟨[1, 1, 1], 0⟩) from wawk_v] at hk
  refine Calls.mono hk ?_
  rintro r w28 ⟨rfl, ⟨p4, q4, R4⟩, S28⟩
  have R4 : Rd b5 w25.heap.size w28 b5 p4 [1, 1, 1] q4 0 := R4
  have B28 := B26.trans (S28.below B26.size (fun k hk => by omega))
  clear hk R3 B26
  go_wp2_with fail
  refine (rleft_calls R4).mono ?_
  rintro r w29 ⟨rfl, rfl⟩
  rw [show St.left ⟨[1, 1, 1], 0⟩ = 3 from rfl]
  go_wp2_with fail
  go_ret
  exact ⟨rfl, B28⟩
end Go.Proofs.Ytglmijcfdcajkaa
