/- sha.Sum: walked. -/
import Derived.Test.YtiemafgnpmoblaaShaEat
import Derived.Test.YtiemafgnpmoblaaShaFirst
import Derived.Test.YtiemafgnpmoblaaShaPrint
import Derived.Test.YtiemafgnpmoblaaShaTail
namespace Go.Proofs.Ytiemafgnpmoblaa
open Go Go.RowKit Go.Cit

theorem eatAll_next (K : List UInt32) : ∀ (k : Nat) (s : S8) (b : List UInt8), eatAll K (k + 1) s b = (eatAll K k s b).eat K ((b.drop (64 * k)).take 64)
  | 0, s, b => rfl
  | k + 1, s, b => by
    rw [eatAll, eatAll_next K k, eatAll, List.drop_drop]
    congr 3
    omega
theorem tail_whole (n : Nat) : (n + (tailB n).length) % 64 = 0 := by
  unfold tailB
  simp [rowB_length]
  omega

/-- The pieces of 64 bytes that a whole number of blocks has. -/
theorem sum_pieces {M : List UInt8} {n : Nat} (hn : M.length = 64 * n) {ds : List (Sl UInt8)} (hds : ds.map (·.l) = cutL 64 M) : ds.length = n ∧ Hid (∀ k (h : k < ds.length), ds[k].l = (M.drop (64 * k)).take 64) := by
  have hdl : ds.length = n := by
    have := congrArg List.length hds
    rw [List.length_map, cutL, List.length_map, List.length_range, cutN, hn] at this
    omega
  refine ⟨hdl, fun k h => ?_⟩
  have h1 : (ds.map (·.l))[k]? = some (pieceL 64 M k) := by
    rw [hds, cutL, List.getElem?_map, List.getElem?_range (by unfold cutN; omega)]; rfl
  rw [List.getElem?_map, List.getElem?_eq_getElem h] at h1
  have h2 : ds[k].l = pieceL 64 M k := Option.some.inj h1
  rw [h2, pieceL, Nat.mul_comm]

set_option maxRecDepth 100000 in
set_option maxHeartbeats 4000000 in
theorem sum_calls (w : World) (a : Option Addr) (b : List UInt8) (c : Nat) (hr : Row w a b c) (hb : b.length ≤ 10000000) :
    Calls Try.prog 22 #[.slice a b.length c] w fun e w' => e = .returned (.agg ((sumB b).map vb).toArray) ∧ Below w.heap.size w w' := by
  have HA1 := Lib.hid (fun ρ d ty ps af w => alloc_state ρ d ty ps (af := af) w)
  have HA2 := Lib.hid (fun ρ d ty ps af w => alloc_w64 ρ d ty ps (af := af) w)
  have HA3 := Lib.hid (fun ρ d ty ps af w => alloc_tag ρ d ty ps (af := af) w)
  obtain ⟨Y, hY⟩ : ∃ Y, Hid (Y = ((List.replicate 8 (0 : UInt32)).map vw).toArray) := ⟨_, rfl⟩
  obtain ⟨Z, hZ⟩ : ∃ Y, Hid (Y = ((List.replicate 64 (0 : UInt32)).map vw).toArray) := ⟨_, rfl⟩
  obtain ⟨X, hX⟩ : ∃ Y, Hid (Y = ((List.replicate 32 (0 : UInt8)).map vb).toArray) := ⟨_, rfl⟩
  obtain ⟨S, hS⟩ : ∃ S, Hid (S = (first8.l.map vw).toArray) := ⟨_, rfl⟩
  obtain ⟨K, hK⟩ : ∃ S, Hid (S = (kTab.map vw).toArray) := ⟨_, rfl⟩
  rw [← hY.out] at HA1
  rw [← hZ.out] at HA2
  rw [← hX.out] at HA3
  have HY : Hid (Y.size = 8) := by rw [Hid, hY.out]; simp
  have HZ : Hid (Z.size = 64) := by rw [Hid, hZ.out]; simp
  have HX : Hid (X.size = 32) := by rw [Hid, hX.out]; simp
  have HSs : Hid (S.size = 8) := by rw [Hid, hS.out]; simp [S8.l]
  have HKs : Hid (K.size = 64) := by rw [Hid, hK.out]; simp [kTab]
  have HSo : Hid (S.all (·.oneCell') = true) := by rw [Hid, hS.out]; exact arr_ok _
  have HKo : Hid (K.all (·.oneCell') = true) := by rw [Hid, hK.out]; exact arr_ok _
  have HFC := Lib.hid (First_calls)
  have HCC := Lib.hid (constants_calls)
  rw [← hS.out] at HFC
  rw [← hK.out] at HCC
  go_enter Try.func22, Try.ntmps22
  go_wp2_with (first
    | ((with_reducible refine wpList_value (o := ⟨some 2, .alloc _, _, _, _, _⟩) (by with_unfolding_all rfl) (HA3.out _ _ _ _ _ _) ?_)))
  refine (HFC.out _).mono ?_
  rintro e w1 ⟨rfl, hb1⟩
  go_wp2_with fail
  refine (HCC.out _).mono ?_
  rintro e w2 ⟨rfl, hb2⟩
  have hX2 : w2.heap[w.heap.size]? = some (.cells X 36 (0, 0)) :=
    (hb2.block _ (by have := hb1.size; simp at this; omega)).trans ((hb1.block _ (by simp)).trans (heap_alloc_new w _))
  have B2 : Below w.heap.size w w2 := ((Below.refl _ w).alloc (Nat.le_refl _) _).trans ((hb1.mono (by simp)).trans (hb2.mono (by have := hb1.size; simp at this; omega)))
  have hlt2 : w.heap.size < w2.heap.size := by have := hb1.size; have := hb2.size; simp at *; omega
  clear hb1 hb2
  have c3 : ((w2.alloc (.cells Y 24)).alloc (.cells Z 69)).heap[w2.heap.size]? = some (.cells Y 24 (0, 0)) := (Below.heap_alloc _ _ _ (by simp)).trans (heap_alloc_new w2 _)
  have c4 : ((w2.alloc (.cells Y 24)).alloc (.cells Z 69)).heap[w2.heap.size + 1]? = some (.cells Z 69 (0, 0)) := by
    have := heap_alloc_new (w2.alloc (.cells Y 24)) (.cells Z 69)
    rwa [World.size_alloc] at this
  have hs2 : Save (fun _ => True) w2 ((w2.alloc (.cells Y 24)).alloc (.cells Z 69)) := (Save.alloc _ _).trans (Save.of (((Below.refl _ _).alloc (Nat.le_refl _) _)))
  have C3 := Lib.hid c3
  have C4 := Lib.hid c4
  have CS := Lib.hid hs2
  clear c3 c4 hs2
  have hsz4 : (w2.alloc (.cells Y 24)).heap.size = w2.heap.size + 1 := by simp
  have hsz5 : ((w2.alloc (.cells Y 24)).alloc (.cells Z 69)).heap.size = w2.heap.size + 2 := by simp
  have HS4 := Lib.hid hsz4
  have HS5 := Lib.hid hsz5
  clear hsz4 hsz5
  go_wp2_with (first
    | ((with_reducible refine wpList_value (o := ⟨some 3, .alloc _, _, _, _, _⟩) (by with_unfolding_all rfl) (HA1.out _ _ _ _ _ _) ?_))
    | ((with_reducible refine wpList_value (o := ⟨some 4, .alloc _, _, _, _, _⟩) (by with_unfolding_all rfl) (HA2.out _ _ _ _ _ _) ?_))
    | ((with_reducible refine wpList_storeB (o := ⟨none, .store _ (.tmp 3) (.tmp 7), _, _, _, _⟩) row_state (.tmp 3) (.tmp 7) (by with_unfolding_all rfl) (by with_unfolding_all rfl) (by with_unfolding_all rfl) (by with_unfolding_all rfl) (by with_unfolding_all rfl) C3.out HY.out HSs.out HSo.out ?_); intro w3 hb3 hS3; have c4' : Hid (w3.heap[(w2.alloc (.cells Y 24)).heap.size]? = some (.cells Z 69 (0, 0))) := HS4.out ▸ ((hS3.block (w2.heap.size + 1) (by have h5 := HS5.out; omega) (by show w2.heap.size + 1 ≠ w2.heap.size; omega)).trans C4.out))
    | ((with_reducible refine wpList_storeB (o := ⟨none, .store _ (.tmp 4) (.tmp 8), _, _, _, _⟩) row_w64 (.tmp 4) (.tmp 8) (by with_unfolding_all rfl) (by with_unfolding_all rfl) (by with_unfolding_all rfl) (by with_unfolding_all rfl) (by with_unfolding_all rfl) c4'.out HZ.out HKs.out HKo.out ?_); intro w4 hb4 hS4))
  rw [HS4.out] at hb4 hS4
  have hlt4 : w2.heap.size + 2 ≤ w4.heap.size := by have := hS3.size; have := hS4.size; have := HS5.out; omega
  have hb3' := (hS4.block w2.heap.size (by have := hS3.size; have := HS5.out; omega) (by omega)).trans hb3
  have B4 : Below w.heap.size w w4 := by
    refine B2.trans (((CS.out.below (B := w.heap.size) (by omega) (fun _ _ => trivial)).trans (hS3.below (by have := HS5.out; omega) (fun j hj => by omega))).trans (hS4.below (by have := hS3.size; have := HS5.out; omega) (fun j hj => by omega)))
  have hX4 : Hid (w4.heap[w.heap.size]? = some (.cells X 36 (0, 0))) :=
    (hS4.block _ (by have := hS3.size; have := HS5.out; omega) (by omega)).trans ((hS3.block _ (by have := HS5.out; omega) (by omega)).trans ((CS.out.block _ (by omega) trivial).trans hX2))
  have A3 : Hid (Arr 24 w4 w2.heap.size first8.l) := by have := hb3'; rw [hS.out] at this; exact this
  have A4 : Hid (Arr 69 w4 (w2.heap.size + 1) kTab) := by have := hb4; rw [hK.out] at this; exact this
  have HR4 := Lib.hid (hr.stay B4)
  have HBL := Lib.hid hb
  clear hb3 hb3' hb4 hS3 hS4 c4' C3 C4 CS HS4 HS5 hX2 B2 hr
  obtain ⟨n2, hn2⟩ : ∃ n, n = w2.heap.size := ⟨_, rfl⟩
  rw [← hn2] at A3 A4 hlt4 hlt2 ⊢
  clear hn2
  refine (tail_calls w4 b.length (by omega)).mono ?_
  rintro e w5 ⟨a5, c5, rfl, hr5, hb5⟩
  go_wp2_with fail
  have hr0 : Row w5 a b c := HR4.out.stay hb5
  have htl : (tailB b.length).length ≤ 100 := by unfold tailB; simp [rowB_length]; omega
  refine (cat2_calls w5 _ hr0 hr5 (by omega) (by omega)).mono ?_
  rintro e w6 ⟨a6, c6, rfl, hm6, hb6⟩
  have hW := tail_whole b.length
  obtain ⟨M, hM⟩ : ∃ M, Hid (M = b ++ tailB b.length) := ⟨_, rfl⟩
  rw [← hM.out] at hm6 ⊢
  obtain ⟨n, hn⟩ : ∃ n, M.length = 64 * n := ⟨M.length / 64, by rw [hM.out, List.length_append]; omega⟩
  have HN : Hid (n = (b.length + (tailB b.length).length) / 64) := by rw [Hid, ← List.length_append, ← hM.out, hn]; omega
  have hML : M.length ≤ 20000000 := by rw [hM.out, List.length_append]; omega
  have h46 : Below w4.heap.size w4 w6 := hb5.trans (hb6.mono hb5.size)
  have HMN := Lib.hid hn
  clear hr0 hr5 hb5 hb6 htl hW hn
  go_wp2_with fail
  refine (cut_own w6 a6 M c6 64 hm6.row (by decide) (by decide) (by omega)).mono ?_
  rintro e w7 ⟨a7, ds, c7, rfl, hds, hR, hNw, hb7⟩
  have h47 : Below w4.heap.size w4 w7 := h46.trans (hb7.mono h46.size)
  obtain ⟨hdl, HD⟩ := sum_pieces HMN.out hds
  have HNW : Hid ((∀ g, Go.Cit.blk a7 = some g → w4.heap.size ≤ g) ∧ ∀ d ∈ ds, ∀ g, Go.Cit.blk d.a = some g → w4.heap.size ≤ g) := ⟨fun g h => Nat.le_trans h46.size (hNw.1 g h), fun d hd g h => Nat.le_trans h46.size (hNw.2 d hd g h)⟩
  have HDL := Lib.hid hdl
  have A7 := A3.out.stay h47
  clear hds hNw hb7 h46 hm6 hdl
  go_wp2_with fail
  have hnb : n ≤ 20000000 := by have := HMN.out; omega
  go_loopw [17] (fun i wr => ∃ (k : Nat), k ≤ n ∧ i = .int .i64 k ∧ Arr 24 wr n2 (eatAll kTab k first8 M).l ∧ Save (· ≠ n2) w7 wr) (fun i _ => n - (intOf i).toNat)
  case atStart => exact ⟨0, Nat.zero_le _, rfl, A7, Save.refl _ _⟩
  case round =>
    clear A7
    obtain ⟨k, hk, rfl, AX, hsv⟩ := hrel
    have hRr := hR.save hsv (fun g hg => by have := HNW.out.1 g hg; omega) (fun d hd g hg => by have := HNW.out.2 d hd g hg; omega)
    by_cases hlt : k < n
    · have hkd : k < ds.length := by rw [HDL.out]; exact hlt
      have d1 : decide (k < ds.length) = true := by simp; omega
      have i0 := hRr.index k hkd
      have e0 := hRr.cell k hkd
      have hrow := hRr.row ds[k] (List.getElem_mem hkd)
      have hpl := HD.out k hkd
      generalize ds[k] = d at e0 hrow hpl
      have hp64 : d.l.length = 64 := by rw [hpl, List.length_take, List.length_drop, HMN.out]; omega
      rw [hp64] at e0
      have A4w : Hid (wr.heap[n2 + 1]? = some (.cells (kTab.map vw).toArray 69 (0, 0))) := (A4.out.stay h47).save hsv (by omega)
      have hek := eat_calls wr (eatAll kTab k first8 M) d.a d.l d.c kTab hrow hp64 (by decide)
      rw [hpl, ← eatAll_next] at hek
      have hSz : Hid (((eatAll kTab k first8 M).l.map vw).toArray.size = 8) := by simp [Hid, S8.l]
      have hSz' : Hid (((eatAll kTab (k + 1) first8 M).l.map vw).toArray.size = 8) := by simp [Hid, S8.l]
      have hKz : Hid ((kTab.map vw).toArray.size = 64) := by simp [Hid, kTab]
      have hSo : Hid (((eatAll kTab (k + 1) first8 M).l.map vw).toArray.all (·.oneCell') = true) := by rw [Hid]; exact arr_ok _
      have HEK := Lib.hid hek
      have HAX : Hid (wr.heap[n2]? = some (.cells ((eatAll kTab k first8 M).l.map vw).toArray 24 (0, 0))) := AX
      have HSV := Lib.hid hsv
      clear hek AX hsv hp64 hpl hRr hrow
      go_wp2_with (first
        | ((with_reducible refine wpList_loadB (o := ⟨some 21, .load _ _, _, _, _, _⟩) row_state (.tmp 3) (by with_unfolding_all rfl) (by with_unfolding_all rfl) (by with_unfolding_all rfl) HAX.out hSz.out ?_))
        | ((with_reducible refine wpList_loadB (o := ⟨some 23, .load _ _, _, _, _, _⟩) row_w64 (.tmp 4) (by with_unfolding_all rfl) (by with_unfolding_all rfl) (by with_unfolding_all rfl) A4w.out hKz.out ?_)))
      refine HEK.out.mono ?_
      rintro e wr' ⟨rfl, hbr⟩
      have HBX := Lib.hid hbr
      have HAX' : Hid (wr'.heap[n2]? = some (.cells ((eatAll kTab k first8 M).l.map vw).toArray 24 (0, 0))) := (hbr.block n2 (Array.getElem?_eq_some_iff.1 HAX.out).1).trans HAX.out
      clear hbr
      go_wp2_with (first
        | ((with_reducible refine wpList_storeB (o := ⟨none, .store _ (.tmp 3) (.tmp 24), _, _, _, _⟩) row_state (.tmp 3) (.tmp 24) (by with_unfolding_all rfl) (by with_unfolding_all rfl) (by with_unfolding_all rfl) (by with_unfolding_all rfl) (by with_unfolding_all rfl) HAX'.out hSz.out hSz'.out hSo.out ?_); intro wq hbq hsq; have HBQ := Lib.hid hbq; have HSQ := Lib.hid hsq; clear hbq hsq))
      go_roundw
      case rel => exact ⟨k + 1, by omega, by go_num, HBQ.out, HSV.out.trans ((Save.of HBX.out).trans HSQ.out)⟩
      case measure => simp [intOf]; omega
    · have d1 : decide (k < ds.length) = false := by have := HDL.out; simp; omega
      obtain rfl : k = n := by omega
      have HAX : Hid (wr.heap[n2]? = some (.cells ((eatAll kTab k first8 M).l.map vw).toArray 24 (0, 0))) := AX
      have hSz : Hid (((eatAll kTab k first8 M).l.map vw).toArray.size = 8) := by simp [Hid, S8.l]
      have HSV := Lib.hid hsv
      have HX7 : Hid (wr.heap[w.heap.size]? = some (.cells X 36 (0, 0))) := (hsv.block _ (by have := h47.size; omega) (by omega)).trans ((h47.block _ (by omega)).trans hX4.out)
      have hbm : sumB b = printB (eatAll kTab k first8 M) := by unfold sumB; rw [HN.out, hM.out]
      have HBM := Lib.hid hbm
      have HPC := Lib.hid (print_calls wr (eatAll kTab k first8 M))
      clear hbm AX hsv hRr
      go_wp2_with (first
        | ((with_reducible refine wpList_loadB (o := ⟨some 26, .load _ _, _, _, _, _⟩) row_state (.tmp 3) (by with_unfolding_all rfl) (by with_unfolding_all rfl) (by with_unfolding_all rfl) HAX.out hSz.out ?_)))
      refine HPC.out.mono ?_
      rintro e wz ⟨rfl, hbz⟩
      have HX8 : Hid (wz.heap[w.heap.size]? = some (.cells X 36 (0, 0))) := (hbz.block _ (Array.getElem?_eq_some_iff.1 HX7.out).1).trans HX7.out
      have HBZ := Lib.hid hbz
      obtain ⟨R, hR0⟩ : ∃ R, Hid (R = ((printB (eatAll kTab k first8 M)).map vb).toArray) := ⟨_, rfl⟩
      rw [← hR0.out]
      have HRs : Hid (R.size = 32) := by rw [Hid, hR0.out]; simp [printB, S8.l, rowB_length]
      have HRo : Hid (R.all (·.oneCell') = true) := by rw [Hid, hR0.out]; exact arrB_ok _
      clear hbz
      go_wp2_with (first
        | ((with_reducible refine wpList_storeB (o := ⟨none, .store _ (.tmp 2) (.tmp 27), _, _, _, _⟩) row_tag (.tmp 2) (.tmp 27) (by with_unfolding_all rfl) (by with_unfolding_all rfl) (by with_unfolding_all rfl) (by with_unfolding_all rfl) (by with_unfolding_all rfl) HX8.out HX.out HRs.out HRo.out ?_); intro wq hbq hsq; have HBQ := Lib.hid hbq; have HSQ := Lib.hid hsq; clear hbq hsq))
      refine bodyPost_ret (resB1 row_tag rfl rfl HBQ.out HRs.out) rfl ⟨?_, ?_⟩
      · rw [HBM.out, hR0.out]
      · have h7 := (h47.mono (Nat.le_of_lt (Nat.lt_of_lt_of_le (Nat.lt_succ_of_lt hlt2) (Nat.le_of_succ_le hlt4)))).trans (HSV.out.below (by have := h47.size; omega) (fun j hj => by omega))
        have h8 : Below w.heap.size w wr := B4.trans (h7.mono (by omega))
        exact h8.trans ((HBZ.out.mono h8.size).trans (HSQ.out.below (by have := h8.size; have := HBZ.out.size; omega) (fun j hj => by omega)))
end Go.Proofs.Ytiemafgnpmoblaa
