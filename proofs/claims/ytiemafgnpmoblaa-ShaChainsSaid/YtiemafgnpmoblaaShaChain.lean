/- sha.Chain: walked. -/
import Derived.Test.YtiemafgnpmoblaaShaSum
import Derived.Test.YtiemafgnpmoblaaRefShaP
namespace Go.Proofs.Ytiemafgnpmoblaa
open Go Go.RowKit Go.Cit

theorem sumB_len (b : List UInt8) : (sumB b).length = 32 := by unfold sumB; exact printB_len _
/-- The fingerprint of the first k rows. -/
def chN (ls : List (List UInt8)) : Nat → List UInt8
  | 0 => sumB []
  | k + 1 => sumB ((if k = 0 then [] else chN ls k) ++ ls.getD k [])
theorem chN_len (ls : List (List UInt8)) (k : Nat) : (chN ls k).length = 32 := by
  cases k <;> exact sumB_len _
theorem tag_all (g : Nat) (w : World) : (Instr.sliceAt 36 (.pointer (some ⟨g, 0, none⟩)) none none none).run Try.prog w = .ok (.slice (some ⟨g, 0, none⟩) 32 32) w := by
  have hT : Try.prog.underlying 36 = some (.array 32 5) := Try.underlying36
  have he : Try.prog.elem 36 = 5 := by simp [Program.elem, hT]
  have hl : Try.prog.arrayLen 36 = 32 := by simp [Program.arrayLen, hT]
  rw [run_sliceAt_array_all _ _ _ (by rw [he, hl]; exact hT), he, szB, hl]
  simp [Result.andThen, slicedAt, Addr.add]

set_option maxRecDepth 100000 in
set_option maxHeartbeats 4000000 in
theorem chain_calls (w : World) (a : Option Addr) (ds : List (Sl UInt8)) (c : Nat) (hr : Rows w a ds c) (hb : ∀ d ∈ ds, d.l.length ≤ 1000000) :
    Calls Try.prog 28 #[.slice a ds.length c] w fun e w' => e = .returned (.agg ((chN (ds.map (·.l)) ds.length).map vb).toArray) ∧ Below w.heap.size w w' := by
  obtain ⟨ls, hls⟩ : ∃ ls, Hid (ls = ds.map (·.l)) := ⟨_, rfl⟩
  rw [← hls.out]
  have HA := Lib.hid (fun ρ d ty ps af w => alloc_tag ρ d ty ps (af := af) w)
  obtain ⟨X, hX⟩ : ∃ Y, Hid (Y = ((List.replicate 32 (0 : UInt8)).map vb).toArray) := ⟨_, rfl⟩
  rw [← hX.out] at HA
  have HX : Hid (X.size = 32) := by rw [Hid, hX.out]; simp
  have B0 : Below w.heap.size w (w.alloc (.cells X 36)) := (Below.refl _ _).alloc (Nat.le_refl _) _
  have x0 : (w.alloc (.cells X 36)).heap[w.heap.size]? = some (.cells X 36 (0, 0)) := heap_alloc_new w _
  have HB0 := Lib.hid (And.intro x0 B0)
  have HBL := Lib.hid hb
  have HL9 := hr.len_le
  have HRW := Lib.hid hr
  have hS : Calls Try.prog 22 #[.slice none 0 0] (w.alloc (.cells X 36)) fun e w' => e = .returned (.agg ((sumB []).map vb).toArray) ∧ Below (w.alloc (.cells X 36)).heap.size (w.alloc (.cells X 36)) w' := sum_calls _ none [] 0 (Row.nil_ _) (by simp)
  have HS := Lib.hid hS
  clear B0 x0 hb hr hS
  go_enter Try.func28, Try.ntmps28
  go_wp2_with (first
    | ((with_reducible refine wpList_value (o := ⟨some 2, .alloc _, _, _, _, _⟩) (by with_unfolding_all rfl) (HA.out _ _ _ _ _ _) ?_)))
  refine HS.out.mono ?_
  rintro e w1 ⟨rfl, hb1⟩
  have hsz1 : w.heap.size < w1.heap.size := by have := hb1.size; simp at this; omega
  have x1 := (hb1.block _ (by simp)).trans HB0.out.1
  have B1 := HB0.out.2.trans (hb1.mono (by simp))
  have hn1 : (w1.alloc (.cells X 36)).heap[w1.heap.size]? = some (.cells X 36 (0, 0)) := heap_alloc_new _ _
  have HN1 := Lib.hid hn1
  obtain ⟨D, hD⟩ : ∃ D, Hid (D = ((sumB []).map vb).toArray) := ⟨_, rfl⟩
  rw [← hD.out]
  have HD : Hid (D.size = 32) := by rw [Hid, hD.out]; simpa using sumB_len []
  have HDo : Hid (D.all (·.oneCell') = true) := by rw [Hid, hD.out]; exact arrB_ok _
  have HX1 := Lib.hid x1
  clear hb1 hn1 x1
  go_wp2_with (first
    | ((with_reducible refine wpList_value (o := ⟨some 3, .alloc _, _, _, _, _⟩) (by with_unfolding_all rfl) (HA.out _ _ _ _ _ _) ?_))
    | ((with_reducible refine wpList_storeB (o := ⟨none, .store _ (.tmp 3) (.tmp 7), _, _, _, _⟩) row_tag (.tmp 3) (.tmp 7) (by with_unfolding_all rfl) (by with_unfolding_all rfl) (by with_unfolding_all rfl) (by with_unfolding_all rfl) (by with_unfolding_all rfl) HN1.out HX.out HD.out HDo.out ?_); intro w2 hb2 hS2; have HB2 := Lib.hid hb2; have HS2 := Lib.hid hS2; clear hb2 hS2))
  have hs2 := HS2.out.size
  rw [World.size_alloc] at hs2
  have hA2 : Below w1.heap.size w1 w2 := (((Below.refl _ w1).alloc (Nat.le_refl _) (.cells X 36))).trans (HS2.out.below (by simp) (fun j hj => by omega))
  have B2 := B1.trans (hA2.mono B1.size)
  have x2 := (hA2.block _ hsz1).trans HX1.out
  have A2 : ArrB 36 w2 w1.heap.size (chN (ds.map (·.l)) 0) := by have := HB2.out; rw [hD.out] at this; exact this
  clear HB2 HS2 hA2
  obtain ⟨t3, ht3⟩ : ∃ t, t = w1.heap.size := ⟨_, rfl⟩
  rw [← ht3] at A2 hs2 hsz1 ⊢
  clear ht3
  rw [← hls.out] at A2
  go_loopw [10] (fun i wr => ∃ (k : Nat), k ≤ ds.length ∧ i = .int .i64 k ∧ ArrB 36 wr t3 (chN ls k) ∧ wr.heap[w.heap.size]? = some (.cells X 36 (0, 0)) ∧ Below w.heap.size w wr) (fun i _ => ds.length - (intOf i).toNat)
  case atStart => exact ⟨0, Nat.zero_le _, rfl, A2, x2, B2⟩
  case round =>
    clear A2 x2 B2
    obtain ⟨k, hk, rfl, A, xr, B⟩ := hrel
    have hlt3 := A.lt
    by_cases hlt : k < ds.length
    · have d1 : decide (k < ds.length) = true := by simpa using hlt
      have hRr := HRW.out.stay B
      have i0 := hRr.index k hlt
      have e0 := hRr.cell k hlt
      have hrow := hRr.row ds[k] (List.getElem_mem hlt)
      have hdl := HBL.out ds[k] (List.getElem_mem hlt)
      have hget : ls.getD k [] = ds[k].l := by rw [hls.out]; simp [hlt]
      generalize ds[k] = d at e0 hrow hdl hget
      have HG := Lib.hid hget
      have tA := tag_all t3
      have hAr := A.row (by rw [chN_len]; decide)
      rw [chN_len] at hAr
      have hcl := chN_len ls k
      have HSZ : Hid (((chN ls k).map vb).toArray.size = 32) := by rw [Hid]; simp [chN_len]
      have HSZ' : Hid (((chN ls (k + 1)).map vb).toArray.size = 32) := by rw [Hid]; simp [chN_len]
      have HO' := Lib.hid (arrB_ok (chN ls (k + 1)))
      have HAX := Lib.hid A
      have HXR := Lib.hid xr
      clear hget hRr A xr
      by_cases hk0 : k = 0
      · subst hk0
        have i0' : ∀ w, (Instr.indexAt 46 (.slice a ds.length c) (.int .i64 0)).run Try.prog w = .ok (.pointer (some (ad a 0))) w := i0
        have d1' : decide ((0 : Int) < (ds.length : Int)) = true := by simp; omega
        have hc := cat2_calls wr 25 (Row.nil_ wr) hrow (by simp) (by omega)
        simp only [List.length_nil, List.nil_append] at hc
        have HC := Lib.hid hc
        have HCH : Hid (sumB d.l = chN ls (0 + 1)) := by rw [Hid, chN, if_pos rfl, HG.out, List.nil_append]
        clear hc hAr hcl
        go_wp2_with fail
        refine HC.out.mono ?_
        rintro e w3 ⟨a3, c3, rfl, hm3, hb3⟩
        have HS3 := Lib.hid (sum_calls w3 a3 d.l c3 hm3.row (by omega))
        have HA3 := Lib.hid (HAX.out.stay hb3)
        have HX3 : Hid (w3.heap[w.heap.size]? = some (.cells X 36 (0, 0))) := (hb3.block _ (by omega)).trans HXR.out
        have B3 := B.trans (hb3.mono B.size)
        clear hm3 hb3
        go_wp2_with fail
        refine HS3.out.mono ?_
        rintro e w4 ⟨rfl, hb4⟩
        rw [HCH.out]
        have HA4 : Hid (w4.heap[t3]? = some (.cells ((chN ls 0).map vb).toArray 36 (0, 0))) := HA3.out.stay hb4
        have HX4 : Hid (w4.heap[w.heap.size]? = some (.cells X 36 (0, 0))) := (hb4.block _ (Array.getElem?_eq_some_iff.1 HX3.out).1).trans HX3.out
        have B4 := B3.trans (hb4.mono B3.size)
        clear hb4 B3
        go_wp2_with (first
          | ((with_reducible refine wpList_storeB (o := ⟨none, .store _ (.tmp 3) (.tmp 22), _, _, _, _⟩) row_tag (.tmp 3) (.tmp 22) (by with_unfolding_all rfl) (by with_unfolding_all rfl) (by with_unfolding_all rfl) (by with_unfolding_all rfl) (by with_unfolding_all rfl) HA4.out HSZ.out HSZ'.out HO'.out ?_); intro w5 hb5 hS5; have HB5 := Lib.hid hb5; have HS5 := Lib.hid hS5; clear hb5 hS5))
        go_roundw
        case rel => exact ⟨0 + 1, by omega, by go_num, HB5.out, (HS5.out.block _ (Array.getElem?_eq_some_iff.1 HX4.out).1 (by omega)).trans HX4.out, B4.trans (HS5.out.below B4.size (fun j hj => by omega))⟩
        case measure => simp [intOf]; omega
      · have d2 : ((k : Int) == 0) = false := by rw [beq_eq_false_iff_ne]; omega
        have d2' : (k == 0) = false := by rw [beq_eq_false_iff_ne]; exact hk0
        have hc := cat2_calls wr 25 hAr hrow (by omega) (by omega)
        rw [hcl] at hc
        have HC := Lib.hid hc
        have HCH : Hid (sumB (chN ls k ++ d.l) = chN ls (k + 1)) := by rw [Hid, chN, if_neg hk0, HG.out]
        clear hc hAr hk0
        have HCL := Lib.hid hcl
        clear hcl
        go_wp2_with fail
        refine HC.out.mono ?_
        rintro e w3 ⟨a3, c3, rfl, hm3, hb3⟩
        obtain ⟨M, hM⟩ : ∃ M, Hid (M = chN ls k ++ d.l) := ⟨_, rfl⟩
        rw [← hM.out] at hm3 HCH ⊢
        have HML : M.length ≤ 10000000 := by rw [hM.out, List.length_append, HCL.out]; omega
        have HS3 := Lib.hid (sum_calls w3 a3 M c3 hm3.row HML)
        have HA3 := Lib.hid (HAX.out.stay hb3)
        have HX3 : Hid (w3.heap[w.heap.size]? = some (.cells X 36 (0, 0))) := (hb3.block _ (by omega)).trans HXR.out
        have B3 := B.trans (hb3.mono B.size)
        clear hm3 hb3
        go_wp2_with fail
        refine HS3.out.mono ?_
        rintro e w4 ⟨rfl, hb4⟩
        rw [HCH.out]
        have HA4 : Hid (w4.heap[t3]? = some (.cells ((chN ls k).map vb).toArray 36 (0, 0))) := HA3.out.stay hb4
        have HX4 : Hid (w4.heap[w.heap.size]? = some (.cells X 36 (0, 0))) := (hb4.block _ (Array.getElem?_eq_some_iff.1 HX3.out).1).trans HX3.out
        have B4 := B3.trans (hb4.mono B3.size)
        clear hb4 B3
        go_wp2_with (first
          | ((with_reducible refine wpList_storeB (o := ⟨none, .store _ (.tmp 3) (.tmp 22), _, _, _, _⟩) row_tag (.tmp 3) (.tmp 22) (by with_unfolding_all rfl) (by with_unfolding_all rfl) (by with_unfolding_all rfl) (by with_unfolding_all rfl) (by with_unfolding_all rfl) HA4.out HSZ.out HSZ'.out HO'.out ?_); intro w5 hb5 hS5; have HB5 := Lib.hid hb5; have HS5 := Lib.hid hS5; clear hb5 hS5))
        go_roundw
        case rel => exact ⟨k + 1, by omega, by go_num, HB5.out, (HS5.out.block _ (Array.getElem?_eq_some_iff.1 HX4.out).1 (by omega)).trans HX4.out, B4.trans (HS5.out.below B4.size (fun j hj => by omega))⟩
        case measure => simp [intOf]; omega
    · obtain rfl : k = ds.length := by omega
      have d1 : decide (ds.length < ds.length) = false := by simp
      obtain ⟨R, hR0⟩ : ∃ R, Hid (R = ((chN ls ds.length).map vb).toArray) := ⟨_, rfl⟩
      have HRs : Hid (R.size = 32) := by rw [Hid, hR0.out]; simp [chN_len]
      have HRo : Hid (R.all (·.oneCell') = true) := by rw [Hid, hR0.out]; exact arrB_ok _
      have HAX : Hid (wr.heap[t3]? = some (.cells R 36 (0, 0))) := by rw [hR0.out]; exact A
      have HXR := Lib.hid xr
      clear A xr
      go_wp2_with (first
        | ((with_reducible refine wpList_loadB (o := ⟨some 24, .load _ _, _, _, _, _⟩) row_tag (.tmp 3) (by with_unfolding_all rfl) (by with_unfolding_all rfl) (by with_unfolding_all rfl) HAX.out HRs.out ?_))
        | ((with_reducible refine wpList_storeB (o := ⟨none, .store _ (.tmp 2) (.tmp 24), _, _, _, _⟩) row_tag (.tmp 2) (.tmp 24) (by with_unfolding_all rfl) (by with_unfolding_all rfl) (by with_unfolding_all rfl) (by with_unfolding_all rfl) (by with_unfolding_all rfl) HXR.out HX.out HRs.out HRo.out ?_); intro w5 hb5 hS5; have HB5 := Lib.hid hb5; have HS5 := Lib.hid hS5; clear hb5 hS5))
      refine bodyPost_ret (resB1 row_tag rfl rfl HB5.out HRs.out) rfl ⟨?_, ?_⟩
      · rw [hR0.out]
      · exact B.trans (HS5.out.below B.size (fun j hj => by omega))
end Go.Proofs.Ytiemafgnpmoblaa
