/- sha.First, constants: walked. -/
import Derived.Test.YtiemafgnpmoblaaShaDef
import Derived.Test.YtiemafgnpmoblaaShaFrac
import Derived.Test.YtiemafgnpmoblaaShaPrimes
import Derived.Test.YtiemafgnpmoblaaArr
namespace Go.Proofs.Ytiemafgnpmoblaa
open Go Go.RowKit Go.Cit

/-- The fractions of the primes. -/
def frS (p : Nat) : UInt32 := UInt32.ofNat (bis (fun x => sqN x p) 37 0)
theorem frS_v (p : Nat) : Value.int .u32 ((bis (fun x => sqN x p) 37 0 % 4294967296 : Nat) : Int) = vw (frS p) := by
  unfold frS vw
  rw [UInt32.toNat_ofNat']
def valS : List UInt32 := (prm 20).map frS
theorem valS_len : (prm 20).length = 8 := by decide +kernel
theorem valS_is : valS = first8.l := by decide +kernel
theorem alloc_First (ρ : Operand → Value) (d : Option Tmp) (ty : TypeId) (ps : String) {af} (w : World) :
    (execOp ρ { dst := d, op := Op.alloc 24, type := ty, pos := ps, after := af, guard := none }).run Try.prog w = .ok (.value (.pointer (some ⟨w.heap.size, 0, none⟩))) (w.alloc (.cells ((List.replicate 8 (0 : UInt32)).map vw).toArray 24)) := by
  kernel_rfl
theorem row_First : RowType Try.prog 24 8 := ⟨⟨_, Try.underlying24, rfl⟩, by kernel_rfl⟩

set_option maxRecDepth 100000 in
set_option maxHeartbeats 2000000 in
theorem First_calls (w : World) :
    Calls Try.prog 16 #[] w fun e w' => e = .returned (.agg (first8.l.map vw).toArray) ∧ Below w.heap.size w w' := by
  have HA := Lib.hid (fun ρ d ty ps af w => alloc_First ρ d ty ps (af := af) w)
  obtain ⟨Z, hZ⟩ : ∃ Z, Hid (Z = ((List.replicate 8 (0 : UInt32)).map vw).toArray) := ⟨_, rfl⟩
  rw [← hZ.out] at HA
  have HZ : Hid (Z.size = 8) := by rw [Hid, hZ.out]; simp
  have b0 := heap_alloc_new w (.cells Z 24)
  have b1 := heap_alloc_new (w.alloc (.cells Z 24)) (.cells Z 24)
  rw [World.size_alloc] at b1
  have b0 := (Below.heap_alloc (w.alloc (.cells Z 24)) (.cells Z 24) w.heap.size (by simp)).trans b0
  have gB : Below w.heap.size w ((w.alloc (.cells Z 24)).alloc (.cells Z 24)) := ((Below.refl _ _).alloc (Nat.le_refl _) _).alloc (by simp) _
  have hsz : ((w.alloc (.cells Z 24)).alloc (.cells Z 24)).heap.size = w.heap.size + 2 := by simp
  have hp := primes_calls ((w.alloc (.cells Z 24)).alloc (.cells Z 24)) 8 20 valS_len (by decide) (by decide)
  have HB := Lib.hid (And.intro b0 (And.intro b1 (And.intro gB hsz)))
  have HPP := Lib.hid hp
  clear b0 b1 gB hsz hp
  go_enter Try.func16, Try.ntmps16
  go_wp2_with (first
    | ((with_reducible refine wpList_value (o := ⟨some 0, .alloc _, _, _, _, _⟩) (by with_unfolding_all rfl) (HA.out _ _ _ _ _ _) ?_))
    | ((with_reducible refine wpList_value (o := ⟨some 1, .alloc _, _, _, _, _⟩) (by with_unfolding_all rfl) (HA.out _ _ _ _ _ _) ?_)))
  refine Calls.mono HPP.out ?_
  rintro e w2 ⟨a, c, rfl, hQ, hb2⟩
  obtain ⟨b0, b1, gB, hsz⟩ := HB.out
  rw [hsz] at hQ hb2
  have hs2 := hb2.size
  rw [hsz] at hs2
  have A0 : w2.heap[w.heap.size]? = some (.cells Z 24) := (hb2.block _ (by omega)).trans b0
  have A1 : Arr 24 w2 (w.heap.size + 1) (List.replicate 8 0) := by
    have := (hb2.block (w.heap.size + 1) (by omega)).trans b1
    rw [hZ.out] at this; exact this
  have B2 : Below w.heap.size w w2 := gB.trans (hb2.mono (by omega))
  have HPL := Lib.hid valS_len
  obtain ⟨ps, hps⟩ : ∃ ps, Hid (ps = prm 20) := ⟨_, rfl⟩
  rw [← hps.out] at hQ HPL
  have HPS : Hid (∀ p ∈ ps, p < 20) := by rw [Hid, hps.out]; exact fun p hp => (prm_pos _ p hp).2
  clear b0 b1 gB hsz HB hb2
  go_wp2_with fail
  go_loopw [6] (fun i wr => ∃ (k : Nat) (l : List UInt32), k ≤ 8 ∧ i = .int .i64 k ∧ Hid (l = (ps.take k).map frS ++ List.replicate (8 - k) 0) ∧ Arr 24 wr (w.heap.size + 1) l ∧ wr.heap[w.heap.size]? = some (.cells Z 24) ∧ Qs (w.heap.size + 2) wr a ps c ∧ Below w.heap.size w wr) (fun i _ => 8 - (intOf i).toNat)
  case atStart => exact ⟨0, _, Nat.zero_le _, rfl, by simp [Hid], A1, A0, hQ, B2⟩
  case round =>
    clear A0 A1 hQ B2
    obtain ⟨k, l, hk, rfl, HL, A1, A0, hQ, B⟩ := hrel
    by_cases hlt : k < 8
    · have hkp : k < ps.length := by rw [HPL.out]; exact hlt
      obtain ⟨g, rfl, hcell⟩ := hQ.cell k hkp
      have i0 := hQ.index k hkp
      rw [HPL.out] at i0
      have e0 : wr.cell? (ad (some ⟨g, 0, none⟩) k) = some (vn ps[k]) := by simpa [ad] using hcell
      have hpk := HPS.out _ (List.getElem_mem hkp)
      obtain ⟨q, hq⟩ : ∃ q, ps[k] = q := ⟨_, rfl⟩
      rw [hq] at e0 hpk
      have hll : l.length = 8 := by rw [HL.out]; simp [HPL.out]; omega
      have i1 := fun W => arr_index (T := 24) (n := 8) Try.underlying24 (w.heap.size + 1) k hlt W
      have c1 := A1.cell k (by omega)
      have f1 := A1.free k
      have hfc := fracSq_calls wr q (by omega)
      rw [frS_v] at hfc
      have HS := Lib.hid (A1.set k (frS q))
      have HLS : Hid (l.set k (frS q) = (ps.take (k + 1)).map frS ++ List.replicate (8 - (k + 1)) 0) := by
        obtain ⟨m, hm⟩ : ∃ m, 8 - k = m + 1 := ⟨8 - k - 1, by omega⟩
        have hlen : ((ps.take k).map frS).length = k := by simp [HPL.out]; omega
        rw [Hid, HL.out, hm, show 8 - (k + 1) = m by omega, List.set_append_right _ _ (by omega), hlen, Nat.sub_self, List.replicate_succ, List.set_cons_zero, List.take_succ_eq_append_getElem hkp, List.map_append, hq, List.append_assoc]; rfl
      have hsv : Save (· ≠ w.heap.size + 1) wr (wr.setCell ⟨w.heap.size + 1, k, none⟩ (vw (frS q))) := Save.set
      have HN : Hid (wr.setCell ⟨w.heap.size + 1, k, none⟩ (vw (frS q)) |>.heap[w.heap.size]? |> (· = some (.cells Z 24))) := (hsv.block _ (Array.getElem?_eq_some_iff.1 A0).1 (by omega)).trans A0
      have HQ2 := Lib.hid (hQ.save hsv (fun g hg _ => by omega))
      have HB2 := Lib.hid (B.setCell (p := ⟨w.heap.size + 1, k, none⟩) (by show w.heap.size ≤ w.heap.size + 1; omega) (vw (frS q)))
      clear hq hcell hsv
      go_wp2_with fail
      refine hfc.mono ?_
      rintro e w' ⟨rfl, rfl⟩
      go_wp2_with fail
      go_roundw
      case rel => exact ⟨k + 1, _, by omega, by go_num, HLS, HS.out, HN.out, HQ2.out, HB2.out⟩
      case measure => simp [intOf]; omega
    · have hk2 : k = 8 := by omega
      have HF : Hid (l = first8.l) := by
        rw [Hid, HL.out, hk2, Nat.sub_self, List.replicate_zero, List.append_nil, List.take_of_length_le (by rw [HPL.out]; exact Nat.le_refl _), hps.out]; exact valS_is
      have HL1 : Hid ((l.map vw).toArray.size = 8) := by rw [Hid, HF.out]; simp [S8.l]
      have HO := Lib.hid (arr_ok l)
      have HA1 : Hid (wr.heap[w.heap.size + 1]? = some (.cells (l.map vw).toArray 24 (0, 0))) := A1
      have HA0 := Lib.hid A0
      obtain ⟨F, hF⟩ : ∃ F, Hid (F = (l.map vw).toArray) := ⟨_, rfl⟩
      rw [← hF.out] at HL1 HO HA1
      clear hk2 HL A1 A0
      go_wp2_with (first
        | ((with_reducible refine wpList_loadB (o := ⟨some 16, .load _ _, _, _, _, _⟩) row_First (.tmp 1) (by with_unfolding_all rfl) (by with_unfolding_all rfl) (by with_unfolding_all rfl) HA1.out HL1.out ?_))
        | ((with_reducible refine wpList_storeB (o := ⟨none, .store _ (.tmp 0) (.tmp 16), _, _, _, _⟩) row_First (.tmp 0) (.tmp 16) (by with_unfolding_all rfl) (by with_unfolding_all rfl) (by with_unfolding_all rfl) (by with_unfolding_all rfl) (by with_unfolding_all rfl) HA0.out HZ.out HL1.out HO.out ?_); intro w4 hb4 hS4))
      refine bodyPost_ret (resB1 row_First rfl rfl hb4 HL1.out) rfl ⟨by rw [hF.out, HF.out], ?_⟩
      exact B.trans (hS4.below B.size (fun j hj => by omega))

/-- The fractions of the primes. -/
def frC (p : Nat) : UInt32 := UInt32.ofNat (bis (fun x => cuN x p) 37 0)
theorem frC_v (p : Nat) : Value.int .u32 ((bis (fun x => cuN x p) 37 0 % 4294967296 : Nat) : Int) = vw (frC p) := by
  unfold frC vw
  rw [UInt32.toNat_ofNat']
def valC : List UInt32 := (prm 312).map frC
theorem valC_len : (prm 312).length = 64 := by decide +kernel
theorem valC_is : valC = kTab := by decide +kernel
theorem alloc_constants (ρ : Operand → Value) (d : Option Tmp) (ty : TypeId) (ps : String) {af} (w : World) :
    (execOp ρ { dst := d, op := Op.alloc 69, type := ty, pos := ps, after := af, guard := none }).run Try.prog w = .ok (.value (.pointer (some ⟨w.heap.size, 0, none⟩))) (w.alloc (.cells ((List.replicate 64 (0 : UInt32)).map vw).toArray 69)) := by
  kernel_rfl
theorem row_constants : RowType Try.prog 69 64 := ⟨⟨_, Try.underlying69, rfl⟩, by kernel_rfl⟩

set_option maxRecDepth 100000 in
set_option maxHeartbeats 2000000 in
theorem constants_calls (w : World) :
    Calls Try.prog 48 #[] w fun e w' => e = .returned (.agg (kTab.map vw).toArray) ∧ Below w.heap.size w w' := by
  have HA := Lib.hid (fun ρ d ty ps af w => alloc_constants ρ d ty ps (af := af) w)
  obtain ⟨Z, hZ⟩ : ∃ Z, Hid (Z = ((List.replicate 64 (0 : UInt32)).map vw).toArray) := ⟨_, rfl⟩
  rw [← hZ.out] at HA
  have HZ : Hid (Z.size = 64) := by rw [Hid, hZ.out]; simp
  have b0 := heap_alloc_new w (.cells Z 69)
  have b1 := heap_alloc_new (w.alloc (.cells Z 69)) (.cells Z 69)
  rw [World.size_alloc] at b1
  have b0 := (Below.heap_alloc (w.alloc (.cells Z 69)) (.cells Z 69) w.heap.size (by simp)).trans b0
  have gB : Below w.heap.size w ((w.alloc (.cells Z 69)).alloc (.cells Z 69)) := ((Below.refl _ _).alloc (Nat.le_refl _) _).alloc (by simp) _
  have hsz : ((w.alloc (.cells Z 69)).alloc (.cells Z 69)).heap.size = w.heap.size + 2 := by simp
  have hp := primes_calls ((w.alloc (.cells Z 69)).alloc (.cells Z 69)) 64 312 valC_len (by decide) (by decide)
  have HB := Lib.hid (And.intro b0 (And.intro b1 (And.intro gB hsz)))
  have HPP := Lib.hid hp
  clear b0 b1 gB hsz hp
  go_enter Try.func48, Try.ntmps48
  go_wp2_with (first
    | ((with_reducible refine wpList_value (o := ⟨some 0, .alloc _, _, _, _, _⟩) (by with_unfolding_all rfl) (HA.out _ _ _ _ _ _) ?_))
    | ((with_reducible refine wpList_value (o := ⟨some 1, .alloc _, _, _, _, _⟩) (by with_unfolding_all rfl) (HA.out _ _ _ _ _ _) ?_)))
  refine Calls.mono HPP.out ?_
  rintro e w2 ⟨a, c, rfl, hQ, hb2⟩
  obtain ⟨b0, b1, gB, hsz⟩ := HB.out
  rw [hsz] at hQ hb2
  have hs2 := hb2.size
  rw [hsz] at hs2
  have A0 : w2.heap[w.heap.size]? = some (.cells Z 69) := (hb2.block _ (by omega)).trans b0
  have A1 : Arr 69 w2 (w.heap.size + 1) (List.replicate 64 0) := by
    have := (hb2.block (w.heap.size + 1) (by omega)).trans b1
    rw [hZ.out] at this; exact this
  have B2 : Below w.heap.size w w2 := gB.trans (hb2.mono (by omega))
  have HPL := Lib.hid valC_len
  obtain ⟨ps, hps⟩ : ∃ ps, Hid (ps = prm 312) := ⟨_, rfl⟩
  rw [← hps.out] at hQ HPL
  have HPS : Hid (∀ p ∈ ps, p < 312) := by rw [Hid, hps.out]; exact fun p hp => (prm_pos _ p hp).2
  clear b0 b1 gB hsz HB hb2
  go_wp2_with fail
  go_loopw [6] (fun i wr => ∃ (k : Nat) (l : List UInt32), k ≤ 64 ∧ i = .int .i64 k ∧ Hid (l = (ps.take k).map frC ++ List.replicate (64 - k) 0) ∧ Arr 69 wr (w.heap.size + 1) l ∧ wr.heap[w.heap.size]? = some (.cells Z 69) ∧ Qs (w.heap.size + 2) wr a ps c ∧ Below w.heap.size w wr) (fun i _ => 64 - (intOf i).toNat)
  case atStart => exact ⟨0, _, Nat.zero_le _, rfl, by simp [Hid], A1, A0, hQ, B2⟩
  case round =>
    clear A0 A1 hQ B2
    obtain ⟨k, l, hk, rfl, HL, A1, A0, hQ, B⟩ := hrel
    by_cases hlt : k < 64
    · have hkp : k < ps.length := by rw [HPL.out]; exact hlt
      obtain ⟨g, rfl, hcell⟩ := hQ.cell k hkp
      have i0 := hQ.index k hkp
      rw [HPL.out] at i0
      have e0 : wr.cell? (ad (some ⟨g, 0, none⟩) k) = some (vn ps[k]) := by simpa [ad] using hcell
      have hpk := HPS.out _ (List.getElem_mem hkp)
      obtain ⟨q, hq⟩ : ∃ q, ps[k] = q := ⟨_, rfl⟩
      rw [hq] at e0 hpk
      have hll : l.length = 64 := by rw [HL.out]; simp [HPL.out]; omega
      have i1 := fun W => arr_index (T := 69) (n := 64) Try.underlying69 (w.heap.size + 1) k hlt W
      have c1 := A1.cell k (by omega)
      have f1 := A1.free k
      have hfc := fracCu_calls wr q (by omega)
      rw [frC_v] at hfc
      have HS := Lib.hid (A1.set k (frC q))
      have HLS : Hid (l.set k (frC q) = (ps.take (k + 1)).map frC ++ List.replicate (64 - (k + 1)) 0) := by
        obtain ⟨m, hm⟩ : ∃ m, 64 - k = m + 1 := ⟨64 - k - 1, by omega⟩
        have hlen : ((ps.take k).map frC).length = k := by simp [HPL.out]; omega
        rw [Hid, HL.out, hm, show 64 - (k + 1) = m by omega, List.set_append_right _ _ (by omega), hlen, Nat.sub_self, List.replicate_succ, List.set_cons_zero, List.take_succ_eq_append_getElem hkp, List.map_append, hq, List.append_assoc]; rfl
      have hsv : Save (· ≠ w.heap.size + 1) wr (wr.setCell ⟨w.heap.size + 1, k, none⟩ (vw (frC q))) := Save.set
      have HN : Hid (wr.setCell ⟨w.heap.size + 1, k, none⟩ (vw (frC q)) |>.heap[w.heap.size]? |> (· = some (.cells Z 69))) := (hsv.block _ (Array.getElem?_eq_some_iff.1 A0).1 (by omega)).trans A0
      have HQ2 := Lib.hid (hQ.save hsv (fun g hg _ => by omega))
      have HB2 := Lib.hid (B.setCell (p := ⟨w.heap.size + 1, k, none⟩) (by show w.heap.size ≤ w.heap.size + 1; omega) (vw (frC q)))
      clear hq hcell hsv
      go_wp2_with fail
      refine hfc.mono ?_
      rintro e w' ⟨rfl, rfl⟩
      go_wp2_with fail
      go_roundw
      case rel => exact ⟨k + 1, _, by omega, by go_num, HLS, HS.out, HN.out, HQ2.out, HB2.out⟩
      case measure => simp [intOf]; omega
    · have hk2 : k = 64 := by omega
      have HF : Hid (l = kTab) := by
        rw [Hid, HL.out, hk2, Nat.sub_self, List.replicate_zero, List.append_nil, List.take_of_length_le (by rw [HPL.out]; exact Nat.le_refl _), hps.out]; exact valC_is
      have HL1 : Hid ((l.map vw).toArray.size = 64) := by rw [Hid, HF.out]; simp [kTab]
      have HO := Lib.hid (arr_ok l)
      have HA1 : Hid (wr.heap[w.heap.size + 1]? = some (.cells (l.map vw).toArray 69 (0, 0))) := A1
      have HA0 := Lib.hid A0
      obtain ⟨F, hF⟩ : ∃ F, Hid (F = (l.map vw).toArray) := ⟨_, rfl⟩
      rw [← hF.out] at HL1 HO HA1
      clear hk2 HL A1 A0
      go_wp2_with (first
        | ((with_reducible refine wpList_loadB (o := ⟨some 16, .load _ _, _, _, _, _⟩) row_constants (.tmp 1) (by with_unfolding_all rfl) (by with_unfolding_all rfl) (by with_unfolding_all rfl) HA1.out HL1.out ?_))
        | ((with_reducible refine wpList_storeB (o := ⟨none, .store _ (.tmp 0) (.tmp 16), _, _, _, _⟩) row_constants (.tmp 0) (.tmp 16) (by with_unfolding_all rfl) (by with_unfolding_all rfl) (by with_unfolding_all rfl) (by with_unfolding_all rfl) (by with_unfolding_all rfl) HA0.out HZ.out HL1.out HO.out ?_); intro w4 hb4 hS4))
      refine bodyPost_ret (resB1 row_constants rfl rfl hb4 HL1.out) rfl ⟨by rw [hF.out, HF.out], ?_⟩
      exact B.trans (hS4.below B.size (fun j hj => by omega))
end Go.Proofs.Ytiemafgnpmoblaa
