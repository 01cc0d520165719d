/- Chapter 6's law: awake: walked. -/
import Derived.Test.YtofagofpeedfcaaDo6
import Derived.Test.YtofagofpeedfcaaSame
namespace Go.Proofs.Ytofagofpeedfcaa
open Go Go.RowKit Go.Cit

def ones : List UInt8 := List.replicate 64 1
def twos : List UInt8 := List.replicate 64 2
def k1 : Dk := writeT (newD 3) 2 ones
def k2 : Dk := writeT k1 0 twos
def k3 : Dk := crashT [2] k2
def k4 : Dk := startD k3
def k5 : Dk := armD k4 2 []
def k6 : Dk := writeT k5 1 ones
def k7 : Dk := flushT k6
theorem kfacts : writeE (newD 3) 2 64 = 0 ∧ writeE k1 0 64 = 0 ∧ dirtyI k2.C = [0, 2] ∧ crashE k2 = 0 ∧ flushedR k3 2 = ones ∧ flushedR k3 0 = List.replicate 64 0 ∧ readE k3 0 = 60 ∧ readR k3 0 = [] ∧ startE k3 = 0 ∧ readE k4 2 = 0 ∧ readR k4 2 = ones ∧ armE k4 2 = 0 ∧ writeE k5 1 64 = 0 ∧ flushE k6 = 60 ∧ k7.up = false := by decide +kernel
set_option maxRecDepth 100000 in
set_option maxHeartbeats 4000000 in
theorem awake6_calls (w : World) : Calls Try.prog 27 #[] w fun e w' => e = .returned (.bool true) ∧ Below w.heap.size w w' := by
  obtain ⟨F1, F2, F3, F4, F5, F6, F7, F8, F9, F10, F11, F12, F13, F14, F15⟩ := kfacts
  have hnew := new_calls w 3 (by decide) (by decide)
  have LO : Hid (ones.length = 64 ∧ twos.length = 64) := by rw [Hid]; exact ⟨by simp [ones], by simp [twos]⟩
  go_enter Try.func27, Try.ntmps27
  go_wp2_with fail
  refine (hnew).mono ?_
  rintro e w1 ⟨p, rfl, hD1, _, hpl, hb1⟩
  have HB1 := Lib.hid hb1
  have HD1 := Lib.hid hD1
  have HPL : Hid (∀ k, k < w.heap.size → p.Off k) := fun k hk => ⟨by omega, by omega, by omega⟩
  clear hnew hD1 hpl hb1
  go_wp2_with fail
  refine (fill_calls w1 1).mono ?_
  rintro e w2 ⟨a2, rfl, hO2, hb2⟩
  have hwr := write_calls w2 p (newD 3) (HD1.out.stay hb2) 2 a2 ones 64 hO2.isRow (fun _ g hg => ⟨by have := HD1.out.lt; have := (hO2.blk_ge hg).1; omega, by have := HD1.out.lt; have := (hO2.blk_ge hg).1; omega, by have := HD1.out.lt; have := (hO2.blk_ge hg).1; omega⟩)
  rw [LO.out.1, F1] at hwr
  have HB2 := Lib.hid (HB1.out.trans (hb2.mono HB1.out.size))
  clear hb2
  go_wp2_with fail
  refine (hwr).mono ?_
  rintro e w3 ⟨rfl, hD3, hs3⟩
  have HD3 : Hid (DiskAt w3 p k1) := hD3
  have HB3 := Lib.hid (HB2.out.trans (hs3.below HB2.out.size (fun k hk => HPL.out k hk)))
  clear hD3 hs3 hwr hO2
  go_wp2_with fail
  refine (fill_calls w3 2).mono ?_
  rintro e w4 ⟨a4, rfl, hO4, hb4⟩
  have hwr := write_calls w4 p k1 (HD3.out.stay hb4) 0 a4 twos 64 hO4.isRow (fun _ g hg => ⟨by have := HD3.out.lt; have := (hO4.blk_ge hg).1; omega, by have := HD3.out.lt; have := (hO4.blk_ge hg).1; omega, by have := HD3.out.lt; have := (hO4.blk_ge hg).1; omega⟩)
  rw [LO.out.2, F2] at hwr
  have HB4 := Lib.hid (HB3.out.trans (hb4.mono HB3.out.size))
  clear hb4
  go_wp2_with fail
  refine (hwr).mono ?_
  rintro e w5 ⟨rfl, hD5, hs5⟩
  have HD5 : Hid (DiskAt w5 p k2) := hD5
  have HB5 := Lib.hid (HB4.out.trans (hs5.below HB4.out.size (fun k hk => HPL.out k hk)))
  clear hD5 hs5 hwr hO4
  have hdi := dirty_calls w5 p k2 HD5.out
  rw [F3] at hdi
  go_wp2_with fail
  refine (hdi).mono ?_
  rintro e w6 ⟨a6, c6, rfl, hO6, hb6⟩
  have HD6 := Lib.hid (HD5.out.stay hb6)
  have HB6 := Lib.hid (HB5.out.trans (hb6.mono HB5.out.size))
  have HV6 := Lib.hid (hO6.vec (fun _ => rfl))
  have HL6 : Hid (∀ g, Go.Cit.blk a6 = some g → p.Off g) := fun g hg => ⟨by have := HD5.out.lt; have := (hO6.blk_ge hg).1; omega, by have := HD5.out.lt; have := (hO6.blk_ge hg).1; omega, by have := HD5.out.lt; have := (hO6.blk_ge hg).1; omega⟩
  clear hb6 hO6 hdi
  obtain ⟨w7, hw7⟩ : ∃ w7, w7 = w6.alloc (.cells #[vb 2] 5) := ⟨_, rfl⟩
  have hB7 : Below w6.heap.size w6 w7 := by rw [hw7]; exact (Below.refl _ w6).alloc (Nat.le_refl _) _
  have hr7 : Row w7 (some ⟨w6.heap.size, 0, none⟩) [2] 1 := by rw [hw7]; exact row_new w6 _ _ _ [2] rfl (by decide)
  have hcr := crash_calls w7 p k2 (HD6.out.stay hB7) (some ⟨w6.heap.size, 0, none⟩) [2] 1 hr7 (fun _ g hg => by
    have e1 := blk_eq hg
    have := HD6.out.lt
    exact ⟨by omega, by omega, by omega⟩)
  rw [F4] at hcr
  have hcr : Calls Try.prog 16 #[.pointer (some ⟨p.b, 0, none⟩), .slice (some ⟨w6.heap.size, 0, none⟩) 1 1] w7 fun e w' => e = .returned (.int .i64 0) ∧ DiskAt w' p k3 ∧ Save p.Off w7 w' := hcr
  have HV7 := Lib.hid (HV6.out.stay (fun _ => rfl) hB7)
  have HB7 := Lib.hid (HB6.out.trans (hB7.mono HB6.out.size))
  clear hB7 hr7
  go_wp2_with fail
  rw [show w6.alloc (Obj.cells #[Value.int .u8 2] 5) = w7 from hw7.symm]
  clear hw7
  refine (hcr).mono ?_
  rintro e w8 ⟨rfl, hD8, hs8⟩
  have HD8 := Lib.hid hD8
  have HB8 := Lib.hid (HB7.out.trans (hs8.below HB7.out.size (fun k hk => HPL.out k hk)))
  have HV8 := Lib.hid (HV7.out.save (fun _ => rfl) hs8 (fun _ g hg => HL6.out g hg))
  clear hD8 hs8 hcr
  have hf1 := flushed_calls w8 p k3 HD8.out 2
  rw [F5, LO.out.1] at hf1
  go_wp2_with fail
  refine (hf1).mono ?_
  rintro e w9 ⟨a9, c9, rfl, hO9, hb9⟩
  have HD9 := Lib.hid (HD8.out.stay hb9)
  have HB9 := Lib.hid (HB8.out.trans (hb9.mono HB8.out.size))
  have HV9 := Lib.hid (HV8.out.stay (fun _ => rfl) hb9)
  have HR9 := Lib.hid hO9.isRow
  clear hO9 hb9 hf1
  have hf2 := flushed_calls w9 p k3 HD9.out 0
  rw [F6, List.length_replicate] at hf2
  go_wp2_with fail
  refine (hf2).mono ?_
  rintro e w10 ⟨a10, c10, rfl, hO10, hb10⟩
  have HD10 := Lib.hid (HD9.out.stay hb10)
  have HB10 := Lib.hid (HB9.out.trans (hb10.mono HB9.out.size))
  have hV := HV9.out.stay (fun _ => rfl) hb10
  have hR := HR9.out.stay hb10
  have hR2 := hO10.isRow
  have i0 : ∀ w, (Instr.indexAt 41 (.slice a6 2 c6) (.int .i64 0)).run Try.prog w = .ok (.pointer (some (ad a6 0))) w := hV.index1 etZ 0 (by decide)
  have i1 : ∀ w, (Instr.indexAt 41 (.slice a6 2 c6) (.int .i64 1)).run Try.prog w = .ok (.pointer (some (ad a6 1))) w := hV.index1 etZ 1 (by decide)
  have d0 : w10.cell? (ad a6 0) = some (.int .i64 0) := hV.cell1 0 (by decide)
  have d1 : w10.cell? (ad a6 1) = some (.int .i64 2) := hV.cell1 1 (by decide)
  have j0 : ∀ w, (Instr.indexAt 22 (.slice a9 64 c9) (.int .i64 0)).run Try.prog w = .ok (.pointer (some (ad a9 0))) w := by
    have := hR.index bt.slice bt.sz 0 (by rw [LO.out.1]; decide)
    rw [LO.out.1] at this; exact this
  have j1 : ∀ w, (Instr.indexAt 22 (.slice a10 64 c10) (.int .i64 0)).run Try.prog w = .ok (.pointer (some (ad a10 0))) w := by
    have := hR2.index bt.slice bt.sz 0 (by rw [List.length_replicate]; decide)
    rw [List.length_replicate] at this; exact this
  have x0 : w10.cell? (ad a9 0) = some (.int .u8 1) := by
    rw [hR.cell 0 (by rw [LO.out.1]; decide)]; rfl
  have x1 : w10.cell? (ad a10 0) = some (.int .u8 0) := by
    rw [hR2.cell 0 (by rw [List.length_replicate]; decide)]; rfl
  have HRd := read_calls w10 p k3 HD10.out 0
  rw [F7, F8] at HRd
  have HRD := Lib.hid HRd
  clear hV hR hR2 hO10 hb10 hf2 HRd
  go_wp2_with fail
  refine (HRD.out).mono ?_
  rintro e w11 ⟨a11, c11, rfl, hM11, hb11⟩
  have hst := start_calls w11 p k3 (HD10.out.stay hb11)
  rw [F9] at hst
  have hst : Calls Try.prog 18 #[.pointer (some ⟨p.b, 0, none⟩)] w11 fun e w' => e = .returned (.int .i64 0) ∧ DiskAt w' p k4 ∧ Save p.Off w11 w' := hst
  have HB11 := Lib.hid (HB10.out.trans (hb11.mono HB10.out.size))
  clear i0 i1 d0 d1 j0 j1 x0 x1 hM11 hb11
  go_wp2_with fail
  refine (hst).mono ?_
  rintro e w12 ⟨rfl, hD12, hs12⟩
  have HD12 := Lib.hid hD12
  have HB12 := Lib.hid (HB11.out.trans (hs12.below HB11.out.size (fun k hk => HPL.out k hk)))
  have HRd := read_calls w12 p k4 hD12 2
  rw [F10, F11, LO.out.1] at HRd
  clear hD12 hs12 hst
  go_wp2_with fail
  refine (HRd).mono ?_
  rintro e w13 ⟨a13, c13, rfl, hM13, hb13⟩
  have HB13 := Lib.hid (HB12.out.trans (hb13.mono HB12.out.size))
  have HR13 := Lib.hid hM13.row
  have HL13 : Hid (∀ g, Go.Cit.blk a13 = some g → p.Off g) := fun g hg => ⟨by have := HD12.out.lt; have := hM13.new g hg; omega, by have := HD12.out.lt; have := hM13.new g hg; omega, by have := HD12.out.lt; have := hM13.new g hg; omega⟩
  have har := arm_calls w13 p k4 (HD12.out.stay hb13) 2 (by decide) none [] 0 (Row.nil_ _) (by decide)
  rw [F12] at har
  have har : Calls Try.prog 17 #[.pointer (some ⟨p.b, 0, none⟩), .int .i64 2, .slice none 0 0] w13 fun e w' => e = .returned (.int .i64 0) ∧ DiskAt w' p k5 ∧ Save p.Off w13 w' := har
  clear hM13 hb13 HRd
  go_wp2_with fail
  refine (har).mono ?_
  rintro e w14 ⟨rfl, hD14, hs14⟩
  have HD14 := Lib.hid hD14
  have HB14 := Lib.hid (HB13.out.trans (hs14.below HB13.out.size (fun k hk => HPL.out k hk)))
  have HR14 := Lib.hid (HR13.out.save hs14 HL13.out)
  clear hD14 hs14 har
  go_wp2_with fail
  refine (fill_calls w14 1).mono ?_
  rintro e w15 ⟨a15, rfl, hO15, hb15⟩
  have hwr := write_calls w15 p k5 (HD14.out.stay hb15) 1 a15 ones 64 hO15.isRow (fun _ g hg => ⟨by have := HD14.out.lt; have := (hO15.blk_ge hg).1; omega, by have := HD14.out.lt; have := (hO15.blk_ge hg).1; omega, by have := HD14.out.lt; have := (hO15.blk_ge hg).1; omega⟩)
  rw [LO.out.1, F13] at hwr
  have hwr : Calls Try.prog 14 #[.pointer (some ⟨p.b, 0, none⟩), .int .i64 1, .slice a15 64 64] w15 fun e w' => e = .returned (.int .i64 0) ∧ DiskAt w' p k6 ∧ Save p.Off w15 w' := hwr
  have HB15 := Lib.hid (HB14.out.trans (hb15.mono HB14.out.size))
  have HR15 := Lib.hid (HR14.out.stay hb15)
  clear hO15 hb15
  go_wp2_with fail
  refine (hwr).mono ?_
  rintro e w16 ⟨rfl, hD16, hs16⟩
  have hfl := flush_calls w16 p k6 hD16
  rw [F14] at hfl
  have hfl : Calls Try.prog 15 #[.pointer (some ⟨p.b, 0, none⟩)] w16 fun e w' => e = .returned (.int .i64 60) ∧ DiskAt w' p k7 ∧ Save p.Off w16 w' := hfl
  have HB16 := Lib.hid (HB15.out.trans (hs16.below HB15.out.size (fun k hk => HPL.out k hk)))
  have HR16 := Lib.hid (HR15.out.save hs16 HL13.out)
  clear hD16 hs16 hwr
  go_wp2_with fail
  refine (hfl).mono ?_
  rintro e w17 ⟨rfl, hD17, hs17⟩
  have HD17 := Lib.hid hD17
  have HB17 := Lib.hid (HB16.out.trans (hs17.below HB16.out.size (fun k hk => HPL.out k hk)))
  have HR17 := Lib.hid (HR16.out.save hs17 HL13.out)
  clear hD17 hs17 hfl
  go_wp2_with fail
  refine (fill_calls w17 1).mono ?_
  rintro e w18 ⟨a18, rfl, hO18, hb18⟩
  have hsm := wsame_calls w18 a13 a18 ones ones c13 64 (HR17.out.stay hb18) hO18.isRow
  rw [LO.out.1, ordB_self] at hsm
  have hup := up_calls w18 p k7 (HD17.out.stay hb18)
  rw [F15] at hup
  have HB18 := Lib.hid (HB17.out.trans (hb18.mono HB17.out.size))
  clear hO18 hb18
  go_wp2_with fail
  refine (hsm).mono ?_
  rintro e w19 ⟨rfl, rfl⟩
  go_wp2_with fail
  refine (hup).mono ?_
  rintro e w20 ⟨rfl, rfl⟩
  go_wp2_with fail
  go_ret
  exact ⟨rfl, HB18.out⟩
end Go.Proofs.Ytofagofpeedfcaa
