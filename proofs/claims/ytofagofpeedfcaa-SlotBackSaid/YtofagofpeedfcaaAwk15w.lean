/- Chapter 15's examples: walked. -/
import Derived.Test.YtofagofpeedfcaaAwk15
namespace Go.Proofs.Ytofagofpeedfcaa
open Go Go.RowKit Go.Cit

set_option maxRecDepth 100000 in
set_option maxHeartbeats 4000000 in
theorem awake15_calls (w : World) : Calls Try.prog 33 #[] w fun e w' => e = .returned (.bool true) ∧ Below w.heap.size w w' := by
  have kc := fun (w : World) (C : Array Value) (n c : Nat) => Lib.run_convert_bytes_const (P := Try.prog) w 22 5 C n c Try.underlying22 Try.underlying5
  have kc1 : ∀ (w : World) (o : Obj) (C : Array Value) (n c : Nat), (convert 22 22 (.slice (some ⟨w.heap.size + 1, 0, none⟩) n c)).run Try.prog ((w.alloc o).alloc (.cells C 5)) = .ok (.slice (some ⟨w.heap.size + 1, 0, none⟩) n c) ((w.alloc o).alloc (.cells C 5 (C.size, C.size + 1))) := fun w o C n c => by have h := kc (w.alloc o) C n c; rw [World.size_alloc] at h; exact h
  have hmk : ∀ w : World, (Instr.makeSlice 22 (.int .i64 62) (.int .i64 62)).run Try.prog w = .ok (.slice (some ⟨w.heap.size, 0, none⟩) 62 62) (w.alloc (.cells (madeCells #[.int .u8 0] 62) 5)) := fun _ => by kernel_rfl
  have hz62 : madeCells #[.int .u8 0] 62 = ((List.replicate 62 (0 : UInt8)).map vb).toArray := by kernel_rfl
  obtain ⟨Z, hZ⟩ : ∃ Z, Hid (Z = madeCells #[.int .u8 0] 62) := ⟨_, rfl⟩
  rw [← hZ.out] at hmk hz62
  have HZ62 := Lib.hid hz62
  clear hz62
  go_enter Try.func33, Try.ntmps33
  go_wp2_with fail
  refine (empty_calls w).mono ?_
  rintro e w1 ⟨p, rfl, hD, hpl, hb1⟩
  have HD := Lib.hid hD
  have HPL := Lib.hid hpl
  have HB1 := Lib.hid hb1
  clear hD hpl hb1
  go_wp2_with fail
  obtain ⟨w2, hw2⟩ : ∃ w2, w2 = w1.alloc (.cells #[.int .u8 97, .int .u8 98, .int .u8 99] 5 (3, 4)) := ⟨_, rfl⟩
  have hB2 : Below w1.heap.size w1 w2 := by rw [hw2]; exact (Below.refl _ w1).alloc (Nat.le_refl _) _
  have hr2 : Row w2 (some ⟨w1.heap.size, 0, none⟩) [97, 98, 99] 3 := by
    rw [hw2]
    exact row_blk [97, 98, 99] (World.alloc_heap_new w1 _) rfl (by decide)
  have hwr : Calls Try.prog 35 #[.pointer (some ⟨p.b, 0, none⟩), .int .i64 0, .int .i64 62, .slice (some ⟨w1.heap.size, 0, none⟩) 3 3] w2 fun e w' => ∃ D, e = .returned (.int .i64 0) ∧ DiskAt w' p D ∧ (dirtyI D.C = [3, 4] ∧ Wr (newD 323) D 254 [97, 98, 99]) ∧ Save p.Off w2 w' :=
    (swrite_good w2 p (newD 323) (HD.out.stay hB2) rfl 0 62 (by decide) (some ⟨w1.heap.size, 0, none⟩) [97, 98, 99] 3 hr2 (fun _ g hg => by
      simp [Go.Cit.blk] at hg
      have := HD.out.lt
      exact ⟨by omega, by omega, by omega⟩) (by decide)).mono fun e w' ⟨xs, h1, h2, h3, h4⟩ => by
      obtain ⟨g1, g2, g3⟩ := awk_write h1
      exact ⟨_, by rw [h2, g1], h3, ⟨g2, g3⟩, h4⟩
  rw [← hw2]
  have HB2 := Lib.hid hB2
  clear hB2 hr2 hw2
  refine (hwr).mono ?_
  rintro e w3 ⟨D, rfl, hD3, hF, hs3⟩
  have HD3 := Lib.hid hD3
  have HF := Lib.hid hF
  have HB3 := Lib.hid (HB1.out.trans ((HB2.out.mono HB1.out.size).trans (hs3.below (Nat.le_trans HB1.out.size HB2.out.size) (fun k hk => by have := HPL.out; exact ⟨by omega, by omega, by omega⟩))))
  have hdi := dirty_calls w3 p D HD3.out
  rw [HF.out.1] at hdi
  clear hD3 hF hs3 hwr
  go_wp2_with fail
  refine (hdi).mono ?_
  rintro e w4 ⟨a4, c4, rfl, hO4, hb4⟩
  have HB4 := Lib.hid (HB3.out.trans (hb4.mono HB3.out.size))
  have HD4 := Lib.hid (HD3.out.stay hb4)
  have HV4 := Lib.hid (hO4.vec (fun _ => rfl))
  have hrd : Calls Try.prog 36 #[.pointer (some ⟨p.b, 0, none⟩), .int .i64 0, .int .i64 66] w4 fun e w' => ∃ a c, e = .returned (.tuple #[.slice a 66 c, .int .i64 0]) ∧ Go.Cit.Own 5 w4.heap.size w' a (List.replicate 62 0 ++ [97, 98, 99] ++ [0]) c ∧ Below w4.heap.size w4 w' := by
    have h9 := sread_ct w4 p D HD4.out HF.out.2.up (by rw [HF.out.2.S, newD_len]; decide) 0 (by decide) 66 (by decide)
    rw [show 64 * (3 + 64 * 0) = 192 from rfl, awk_read HF.out.2] at h9
    exact h9
  clear hO4 hb4 hdi
  go_wp2_with fail
  refine (hrd).mono ?_
  rintro e w5 ⟨a5, c5, rfl, hO5, hb5⟩
  have HB5 := Lib.hid (HB4.out.trans (hb5.mono HB4.out.size))
  have HD5 := Lib.hid (HD4.out.stay hb5)
  have HR5 := Lib.hid hO5.isRow
  have hV5 := HV4.out.stay (fun _ => rfl) hb5
  have ix0 : ∀ w, (Instr.indexAt 41 (.slice a4 2 c4) (.int .i64 0)).run Try.prog w = .ok (.pointer (some (ad a4 0))) w := HV4.out.index1 etZ 0 (by decide)
  have ix1 : ∀ w, (Instr.indexAt 41 (.slice a4 2 c4) (.int .i64 1)).run Try.prog w = .ok (.pointer (some (ad a4 1))) w := HV4.out.index1 etZ 1 (by decide)
  have ec0 : w5.cell? (ad a4 0) = some (.int .i64 3) := hV5.cell1 0 (by decide)
  have ec1 : w5.cell? (ad a4 1) = some (.int .i64 4) := hV5.cell1 1 (by decide)
  clear hV5 hO5 hb5 hrd
  go_wp2_with fail
  obtain ⟨w6, hw6⟩ : ∃ w6, w6 = (((w5.alloc (.cells Z 5)).alloc (.cells #[.int .u8 97, .int .u8 98, .int .u8 99] 5 (3, 4))).alloc (.cells #[.int .u8 0] 5)) := ⟨_, rfl⟩
  have hB6 : Below w5.heap.size w5 w6 := by rw [hw6]; exact (((Below.refl _ w5).alloc (Nat.le_refl _) _).alloc (by simp) _).alloc (by simp; omega) _
  have hz6 : w6.heap.size = w5.heap.size + 1 + 1 + 1 := by rw [hw6]; simp
  have r1 : Row w6 (some ⟨w5.heap.size, 0, none⟩) (List.replicate 62 0) 62 := by
    have h1 : Row (w5.alloc (.cells Z 5)) (some ⟨w5.heap.size, 0, none⟩) (List.replicate 62 0) 62 := row_blk (List.replicate 62 0) (World.alloc_heap_new w5 _) HZ62.out (by simp)
    rw [hw6]
    exact h1.stay (((Below.refl _ _).alloc (Nat.le_refl _) _).alloc (by simp) _)
  have r2 : Row w6 (some ⟨w5.heap.size + 1, 0, none⟩) [97, 98, 99] 3 := by
    have h1 : Row ((w5.alloc (.cells Z 5)).alloc (.cells #[.int .u8 97, .int .u8 98, .int .u8 99] 5 (3, 4))) (some ⟨(w5.alloc (.cells Z 5)).heap.size, 0, none⟩) [97, 98, 99] 3 := row_blk [97, 98, 99] (World.alloc_heap_new _ _) rfl (by decide)
    rw [World.size_alloc] at h1
    rw [hw6]
    exact h1.stay ((Below.refl _ _).alloc (Nat.le_refl _) _)
  have r3 : Row w6 (some ⟨w5.heap.size + 1 + 1, 0, none⟩) [0] 1 := by
    have h1 := row_blk [0] (World.alloc_heap_new ((w5.alloc (.cells Z 5)).alloc (.cells #[.int .u8 97, .int .u8 98, .int .u8 99] 5 (3, 4))) (.cells #[.int .u8 0] 5)) rfl (by decide)
    rw [World.size_alloc, World.size_alloc] at h1
    rw [hw6]
    exact h1
  have hcat : Calls Try.prog 62 #[.slice (some ⟨w6.heap.size, 0, none⟩) 3 3] (w6.alloc (.cells #[.slice (some ⟨w5.heap.size, 0, none⟩) 62 62, .slice (some ⟨w5.heap.size + 1, 0, none⟩) 3 3, .slice (some ⟨w5.heap.size + 1 + 1, 0, none⟩) 1 1] 22)) fun e w' => ∃ a cp, e = .returned (.slice a 66 cp) ∧ Row w' a (List.replicate 62 0 ++ [97, 98, 99] ++ [0]) cp ∧ Below w6.heap.size w6 w' :=
    (cat3_calls w6 22 r1 r2 r3 (by simp) (by decide) (by decide)).mono fun e w' ⟨a, cp, h1, h2, h3⟩ => ⟨a, cp, h1, by rw [List.append_assoc]; exact h2.row, h3⟩
  rw [hz6] at hcat
  rw [← hw6]
  have HB6 := Lib.hid (HB5.out.trans (hB6.mono HB5.out.size))
  have HD6 := Lib.hid (HD5.out.stay hB6)
  have HR6 := Lib.hid (HR5.out.stay hB6)
  have HZ6 := Lib.hid hz6
  clear hw6 hB6 hz6 r1 r2 r3 ix0 ix1 ec0 ec1
  refine (hcat).mono ?_
  rintro e w7 ⟨a7, c7, rfl, hr7, hb7⟩
  rw [← HZ6.out] at hb7
  have HB7 := Lib.hid (HB6.out.trans (hb7.mono HB6.out.size))
  have HD7 := Lib.hid (HD6.out.stay hb7)
  have hsm := wsame_id w7 a5 a7 _ c5 c7 (HR6.out.stay hb7) hr7
  have e66 : (List.replicate 62 (0 : UInt8) ++ [97, 98, 99] ++ [0]).length = 66 := rfl
  rw [e66] at hsm
  clear e66
  clear hr7 hb7 hcat
  go_wp2_with fail
  refine (hsm).mono ?_
  rintro e w8 ⟨rfl, hb8⟩
  have HB8 := Lib.hid (HB7.out.trans (hb8.mono HB7.out.size))
  have HD8 := Lib.hid (HD7.out.stay hb8)
  clear hb8 hsm
  go_wp2_with fail
  obtain ⟨w1a, hw1⟩ : ∃ wa, wa = w8.alloc (.cells #[.int .u8 97, .int .u8 98] 5 (2, 3)) := ⟨_, rfl⟩
  have hB1 : Below w8.heap.size w8 w1a := by rw [hw1]; exact (Below.refl _ w8).alloc (Nat.le_refl _) _
  have hr1 : Row w1a (some ⟨w8.heap.size, 0, none⟩) [97, 98] 2 := by rw [hw1]; exact row_blk [97, 98] (World.alloc_heap_new w8 _) rfl (by decide)
  have HDa1 := Lib.hid (HD8.out.stay hB1)
  have hno1 : Calls Try.prog 35 #[.pointer (some ⟨p.b, 0, none⟩), .int .i64 1, .int .i64 4095, .slice (some ⟨w8.heap.size, 0, none⟩) 2 2] w1a fun e w' => e = .returned (.int .i64 4) ∧ Below w1a.heap.size w1a w' := by
    have h9 := swrite_no w1a p D HDa1.out 1 4095 _ [97, 98] 2 hr1 (by rw [HF.out.2.S, newD_len]; decide) (by decide) (by decide)
    rw [HF.out.2.S, newD_len] at h9
    exact h9
  rw [← hw1]
  have HBa1 := Lib.hid (HB8.out.trans (hB1.mono HB8.out.size))
  clear hB1 hr1 hw1
  refine (hno1).mono ?_
  rintro e w1b ⟨rfl, hb1⟩
  have HBb1 := Lib.hid (HBa1.out.trans (hb1.mono HBa1.out.size))
  have HDb1 := Lib.hid (HDa1.out.stay hb1)
  clear hb1 hno1
  go_wp2_with fail
  obtain ⟨w2a, hw2⟩ : ∃ wa, wa = w1b.alloc (.cells #[.int .u8 97] 5 (1, 2)) := ⟨_, rfl⟩
  have hB2 : Below w1b.heap.size w1b w2a := by rw [hw2]; exact (Below.refl _ w1b).alloc (Nat.le_refl _) _
  have hr2 : Row w2a (some ⟨w1b.heap.size, 0, none⟩) [97] 1 := by rw [hw2]; exact row_blk [97] (World.alloc_heap_new w1b _) rfl (by decide)
  have HDa2 := Lib.hid (HDb1.out.stay hB2)
  have hno2 : Calls Try.prog 35 #[.pointer (some ⟨p.b, 0, none⟩), .int .i64 2, .int .i64 0, .slice (some ⟨w1b.heap.size, 0, none⟩) 1 1] w2a fun e w' => e = .returned (.int .i64 2) ∧ Below w2a.heap.size w2a w' := by
    have h9 := swrite_no w2a p D HDa2.out 2 0 _ [97] 1 hr2 (by rw [HF.out.2.S, newD_len]; decide) (by decide) (by decide)
    rw [HF.out.2.S, newD_len] at h9
    exact h9
  rw [← hw2]
  have HBa2 := Lib.hid (HBb1.out.trans (hB2.mono HBb1.out.size))
  clear hB2 hr2 hw2
  refine (hno2).mono ?_
  rintro e w2b ⟨rfl, hb2⟩
  have HBb2 := Lib.hid (HBa2.out.trans (hb2.mono HBa2.out.size))
  have HDb2 := Lib.hid (HDa2.out.stay hb2)
  clear hb2 hno2
  go_wp2_with fail
  obtain ⟨w3a, hw3⟩ : ∃ wa, wa = w2b.alloc (.cells #[.int .u8 97] 5 (1, 2)) := ⟨_, rfl⟩
  have hB3 : Below w2b.heap.size w2b w3a := by rw [hw3]; exact (Below.refl _ w2b).alloc (Nat.le_refl _) _
  have hr3 : Row w3a (some ⟨w2b.heap.size, 0, none⟩) [97] 1 := by rw [hw3]; exact row_blk [97] (World.alloc_heap_new w2b _) rfl (by decide)
  have HDa3 := Lib.hid (HDb2.out.stay hB3)
  have hno3 : Calls Try.prog 35 #[.pointer (some ⟨p.b, 0, none⟩), .int .i64 0, .int .i64 (-1), .slice (some ⟨w2b.heap.size, 0, none⟩) 1 1] w3a fun e w' => e = .returned (.int .i64 2) ∧ Below w3a.heap.size w3a w' := by
    have h9 := swrite_no w3a p D HDa3.out 0 (-1) _ [97] 1 hr3 (by rw [HF.out.2.S, newD_len]; decide) (by decide) (by decide)
    rw [HF.out.2.S, newD_len] at h9
    exact h9
  rw [← hw3]
  have HBa3 := Lib.hid (HBb2.out.trans (hB3.mono HBb2.out.size))
  clear hB3 hr3 hw3
  refine (hno3).mono ?_
  rintro e w3b ⟨rfl, hb3⟩
  have HBb3 := Lib.hid (HBa3.out.trans (hb3.mono HBa3.out.size))
  have HDb3 := Lib.hid (HDa3.out.stay hb3)
  clear hb3 hno3
  go_wp2_with fail
  go_ret
  exact ⟨rfl, HBb3.out⟩
end Go.Proofs.Ytofagofpeedfcaa
