/- hmac.purpose: a label, a zero, the numbers. Walked. -/
import Derived.Test.YtiemafgnpmoblaaRefForm
import Derived.Test.YtiemafgnpmoblaaGf
import Derived.Test.YtiemafgnpmoblaaLawShaChained
namespace Go.Proofs.Ytiemafgnpmoblaa
open Go Go.RowKit Go.Cit

def Clear (w : World) (a : Option Addr) (d : Sl UInt8) : Prop := Row w d.a d.l d.c ∧ ∀ g, Go.Cit.blk d.a = some g → g < w.heap.size ∧ Go.Cit.blk a ≠ some g
theorem Clear.grown {w w' : World} {a a2 : Option Addr} {d : Sl UInt8} (h : Clear w a d) (hg : w.grownBy w' (Go.Cit.blk a)) (hn : Near w.heap.size a a2) : Clear w' a2 d := by
  refine ⟨h.1.save (Save.grown hg) (fun g hg' e => (h.2 g hg').2 e.symm), fun g hg' => ⟨Nat.lt_of_lt_of_le (h.2 g hg').1 hg.size, fun e => ?_⟩⟩
  rcases hn g e with h1 | h1
  · exact (h.2 g hg').2 h1
  · have := (h.2 g hg').1; omega
theorem Clear.stay {w w' : World} {a : Option Addr} {d : Sl UInt8} (h : Clear w a d) (hb : Below w.heap.size w w') : Clear w' a d :=
  ⟨h.1.stay hb, fun g hg => ⟨Nat.lt_of_lt_of_le (h.2 g hg).1 hb.size, (h.2 g hg).2⟩⟩
theorem parts_of {W : World} {b o : Nat} {ds : List (Sl UInt8)} {c : Nat} (h : Vec sf 1 W (some ⟨b, o, none⟩) ds c) (hr : ∀ d ∈ ds, Row W d.a d.l d.c) : Lib.PartsAt W ⟨b, o, none⟩ (ds.map sv) (ds.map (·.l)) := by
  refine ⟨by simp, fun i v hv => ?_, fun i v l hv hl => ?_⟩
  · rw [List.getElem?_map] at hv
    obtain ⟨d, hd, rfl⟩ := Option.map_eq_some_iff.1 hv
    obtain ⟨hi, rfl⟩ := List.getElem?_eq_some_iff.1 hd
    have := h.cell1 (v := sv) i hi
    simpa [ad, Addr.add_mid] using this
  · rw [List.getElem?_map] at hv hl
    obtain ⟨d, hd, rfl⟩ := Option.map_eq_some_iff.1 hv
    obtain ⟨d2, hd2, rfl⟩ := Option.map_eq_some_iff.1 hl
    obtain rfl : d = d2 := by rw [hd] at hd2; exact Option.some.inj hd2
    exact holds_of_row (hr d (List.mem_of_getElem? hd))
theorem partsB_len (s : List UInt8) (zs : List Int) : (formB s zs).length = s.length + 1 + 8 * zs.length := by
  unfold formB
  rw [List.length_append, List.length_append]
  congr 1
  induction zs with
  | nil => rfl
  | cons z zs ih => rw [List.map_cons, List.flatten_cons, List.length_append, ih, rowB_length, List.length_cons]; omega

theorem string_size {w w1 : World} {l : List UInt8} {v : Value} (h : (convert 9 25 (.string ⟨l.toArray⟩)).run Try.prog w = .ok v w1) : w1.heap.size = w.heap.size + 1 := by
  have hr := Lib.run_convert_string_bytes (P := Try.prog) w 9 25 5 ⟨l.toArray⟩ Try.underlying9 Try.underlying25 Try.underlying5
  have he := hr.symm.trans h
  simp only [Result.ok.injEq] at he
  rw [← he.2, Lib.bytesWorld_size]

set_option maxRecDepth 100000 in
set_option maxHeartbeats 4000000 in
theorem purpose_calls (w : World) (s : List UInt8) (hs9 : s.length ≤ 1000) (a : Option Addr) (zs : List Int) (c : Nat) (h : Ints w a zs c) (hz9 : zs.length ≤ 1000) :
    Calls Try.prog 67 #[.string ⟨s.toArray⟩, .slice a zs.length c] w fun e w' => ∃ a' c', e = .returned (.slice a' (formB s zs).length c') ∧ Row w' a' (formB s zs) c' ∧ Below w.heap.size w w' := by
  have HSP := Lib.hid (string_bytes w s (by omega))
  have HZ := Lib.hid h
  obtain ⟨n, hn⟩ : ∃ n, Hid (n = zs.length) := ⟨_, rfl⟩
  rw [← hn.out]
  have hn9 : n ≤ 1000 := by rw [hn.out]; exact hz9
  clear h
  obtain ⟨c1, w1, hr1, hS1, hb1⟩ := HSP.out
  have HS1 := Lib.hid hS1
  have HB1 := Lib.hid hb1
  clear hS1 hb1 HSP
  go_enter Try.func67, Try.ntmps67
  go_wp2_with fail
  obtain ⟨d0, hd0⟩ : ∃ d0 : Sl UInt8, Hid (d0 = ⟨some ⟨w.heap.size, 0, none⟩, c1, s⟩) := ⟨_, rfl⟩
  obtain ⟨d1, hd1⟩ : ∃ d1 : Sl UInt8, Hid (d1 = ⟨some ⟨w1.heap.size, 0, none⟩, 1, [0]⟩) := ⟨_, rfl⟩
  obtain ⟨ds0, hds0⟩ : ∃ ds0 : List (Sl UInt8), Hid (ds0 = [d0, d1]) := ⟨_, rfl⟩
  obtain ⟨wx, hwx⟩ : ∃ wx, Hid (wx = w1.alloc (.cells #[.int .u8 0] 5)) := ⟨_, rfl⟩
  have HBX : Hid (Below w1.heap.size w1 wx) := by rw [hwx.out]; exact (Below.refl _ _).alloc (Nat.le_refl _) _
  have HXS : Hid (wx.heap.size = w1.heap.size + 1) := by rw [Hid, hwx.out]; simp
  have HLT : Hid (Row wx (some ⟨w1.heap.size, 0, none⟩) [0] 1) := by rw [hwx.out]; exact (own_lit w1 #[.int .u8 0] 5 [0] (by rfl) (by simp)).isRow
  have HV0 : Hid (VOwn sf 1 25 wx.heap.size (wx.alloc (.cells #[.slice (some ⟨w.heap.size, 0, none⟩) s.length c1, .slice (some ⟨w1.heap.size, 0, none⟩) 1 1] 25)) (some ⟨wx.heap.size, 0, none⟩) ds0 ds0.length) := by
    refine vown_lit wx _ _ 1 ds0 sf_len ?_ (by rw [hds0.out]; simp)
    rw [hds0.out, hd0.out, hd1.out]
    rfl
  have HSZ := Lib.hid HB1.out.size
  have HZ1 := Lib.hid (string_size hr1)
  have HXB : Hid (Below w.heap.size w wx) := HB1.out.trans (HBX.out.mono HSZ.out)
  have HSX := Lib.hid (HS1.out.stay HBX.out)
  rw [← hwx.out]
  have e1 : w1.heap.size + 1 = wx.heap.size := HXS.out.symm
  rw [e1]
  clear e1
  obtain ⟨wy, hwy⟩ : ∃ wy, Hid (wy = wx.alloc (.cells #[.slice (some ⟨w.heap.size, 0, none⟩) s.length c1, .slice (some ⟨w1.heap.size, 0, none⟩) 1 1] 25)) := ⟨_, rfl⟩
  rw [← hwy.out] at HV0 ⊢
  have HYB0 : Hid (Below wx.heap.size wx wy) := by rw [hwy.out]; exact (Below.refl _ _).alloc (Nat.le_refl _) _
  have HYB : Hid (Below w.heap.size w wy) := HXB.out.trans (HYB0.out.mono HXB.out.size)
  have HYS : Hid (wy.heap.size = wx.heap.size + 1) := by rw [Hid, hwy.out]; simp
  have HC0 : Hid (∀ d ∈ ds0, Clear wy (some ⟨wx.heap.size, 0, none⟩) d) := by
    rw [hds0.out]
    have h1 := HXS.out
    have h2 := HYS.out
    have h3 := HZ1.out
    have h4 := HYB0.out
    intro d hd
    rcases List.mem_cons.1 hd with rfl | hd
    · rw [hd0.out]
      refine ⟨(HSX.out.stay h4), fun g hg => ?_⟩
      simp [Go.Cit.blk] at hg ⊢
      omega
    · obtain rfl : d = d1 := by simpa using hd
      rw [hd1.out]
      refine ⟨(HLT.out.stay h4), fun g hg => ?_⟩
      simp [Go.Cit.blk] at hg ⊢
      omega
  have HL0 : Hid (ds0.length = 2) := by rw [Hid, hds0.out]; rfl
  clear hwx hwy
  go_loopw [5, 14] (fun t i wr => ∃ (k : Nat) (a' : Option Addr) (c' : Nat) (ds : List (Sl UInt8)), Hid (ds.map (·.l) = s :: [0] :: (zs.take k).map fun z => rowB (qOf z) 8) ∧ Hid (ds.length = 2 + k) ∧ k ≤ n ∧ i = .int .i64 k ∧ t = .slice a' ds.length c' ∧ Hid (VOwn sf 1 25 w.heap.size wr a' ds c') ∧ Hid (∀ d ∈ ds, Clear wr a' d) ∧ Hid (Below w.heap.size w wr)) (fun _ i _ => n - (intOf i).toNat)
  case atStart => exact ⟨0, _, 2, ds0, by rw [Hid, hds0.out, hd0.out, hd1.out]; rfl, HL0, Nat.zero_le _, rfl, by rw [HL0.out], by have := HV0.out; rw [HL0.out] at this; exact this.low HXB.out.size, HC0, HYB⟩
  case round =>
    obtain ⟨k, a', c', ds, HX, HL, hk, rfl, rfl, HO, HCl, HB⟩ := hrel
    by_cases hlt : k < n
    · have hkz : k < zs.length := by rw [← hn.out]; exact hlt
      have hZ := HZ.out.stay HB.out
      have i0 := hZ.index k hkz
      have e0 := hZ.cell k hkz
      rw [← hn.out] at i0
      obtain ⟨z, hz⟩ : ∃ z, Hid (z = zs[k]) := ⟨zs[k], rfl⟩
      rw [← hz.out] at e0
      clear hZ
      have hc := put64_calls wr (qOf z)
      go_wp2_with fail
      rw [conv_q z]
      refine Calls.mono hc ?_
      rintro e w4 ⟨a4, c4, rfl, hO4, hb4⟩
      have hbs := HB.out.size
      have hbk : ∀ {g : Nat}, Go.Cit.blk a4 = some g → wr.heap.size ≤ g ∧ g < w4.heap.size := fun hg => hO4.blk_ge hg
      have HO4 : Hid (Row w4 a4 (rowB (qOf z) 8) c4) := hO4.isRow
      have HOs := Lib.hid (HO.out.stay hb4)
      have HB4 := Lib.hid (HB.out.trans (hb4.mono hbs))
      have HR8 := Lib.hid (rowB_length (qOf z) 8)
      obtain ⟨y, hy⟩ : ∃ y : Sl UInt8, Hid (y = ⟨a4, c4, rowB (qOf z) 8⟩) := ⟨_, rfl⟩
      have HCY : Hid (∀ d ∈ ds ++ [y], Clear w4 a' d) := by
        intro d hd
        rcases List.mem_append.1 hd with hd | hd
        · exact (HCl.out d hd).stay hb4
        · obtain rfl : d = y := by simpa using hd
          rw [hy.out]
          refine ⟨HO4.out, fun g hg => ⟨(hbk hg).2, fun e => ?_⟩⟩
          have h1 := (hbk hg).1
          have h2 := (HO.out.blk_ge e).2
          omega
      have HYC : Hid (#[Value.slice a4 8 c4] = (sf y).toArray) := by rw [Hid, hy.out]; show _ = #[Value.slice a4 (rowB (qOf z) 8).length c4]; rw [HR8.out]
      obtain ⟨ds2, hds2⟩ : ∃ ds2, Hid (ds2 = ds ++ [y]) := ⟨ds ++ [y], rfl⟩
      have HNX : Hid (ds2.map (·.l) = s :: [0] :: (zs.take (k + 1)).map fun z => rowB (qOf z) 8) := by
        rw [Hid, hds2.out, List.map_append, HX.out, hy.out, ← take_snoc zs k hkz, List.map_append, ← hz.out]; rfl
      have HL8 : Hid (ds2.length = 2 + (k + 1)) := by rw [Hid, hds2.out, List.length_append, HL.out]; rfl
      have hdl : ds.length + 1 ≤ 1000000000 := by rw [HL.out]; omega
      clear hO4 hb4 hbs hc hbk
      rw [← hds2.out] at HCY
      go_wp2_with (first
        | ((with_reducible refine wpList_vapp1 (o := ⟨some 23, .call _, _, _, _, _⟩) rowsT sf_len sf_one (y := y) (.tmp 18) (.tmp 22) (by with_unfolding_all rfl) (by with_unfolding_all rfl) HOs.out HYC.out hdl HB4.out.size (by with_unfolding_all rfl) (by with_unfolding_all rfl) ?_); intro a5 c5 w5 hO5 hg5 hn5; rw [← hds2.out] at hO5 ⊢; have HO5 := Lib.hid hO5; have HB5 := Lib.hid (HB4.out.trans (HOs.out.grown hg5 HB4.out.size)); have HC5 : Hid (∀ d ∈ ds2, Clear w5 a5 d) := (fun d hd => (HCY.out d hd).grown hg5 hn5); clear hO5 hg5 hn5))
      go_roundw
      case rel => exact ⟨k + 1, a5, c5, ds2, HNX, HL8, by omega, by go_num, rfl, HO5, HC5, HB5⟩
      case measure => simp [intOf]; omega
    · have hk2 : k = n := by omega
      subst hk2
      have hV := HO.out.vec sf_len
      obtain ⟨b, off, rfl⟩ := hV.spot (by intro h0; have := HL.out; rw [h0] at this; simp at this; omega)
      have hF : (ds.map (·.l)).flatten = formB s zs := by
        rw [HX.out, hn.out, List.take_length]
        unfold formB
        simp
      have hcc := cat_calls wr b off c' (ds.map sv) (ds.map (·.l)) (parts_of hV (fun d hd => (HCl.out d hd).1)) (by rw [List.length_map]; exact hV.le) (by rw [hF, partsB_len]; omega) (by rw [List.length_map, HL.out]; omega)
      rw [hF, List.length_map] at hcc
      have HCC := Lib.hid hcc
      clear hcc hF hV
      go_wp2_with fail
      refine HCC.out.mono ?_
      rintro e w6 ⟨a6, c6, rfl, hm6, hb6⟩
      have HM6 := Lib.hid hm6.row
      have HB6 := Lib.hid (HB.out.trans (hb6.mono HB.out.size))
      clear hm6 hb6
      go_wp2_with fail
      go_ret
      exact ⟨a6, c6, rfl, HM6.out, HB6.out⟩
end Go.Proofs.Ytiemafgnpmoblaa
