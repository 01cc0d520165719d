/- The reference's Chain: walked. -/
import Derived.Test.YtiemafgnpmoblaaRefShaS
import Derived.Test.YtiemafgnpmoblaaShaChain
import Derived.StillTailTactics
namespace Go.Proofs.Ytiemafgnpmoblaa
open Go Go.RowKit Go.Cit

theorem Rows.take_run {w : World} {a : Option Addr} {ds : List (Sl UInt8)} {cap : Nat} (h : Rows w a ds cap) (n : Nat) (hn : n ≤ ds.length) :
    (∀ w, (Instr.sliceAt 46 (.slice a ds.length cap) none (some (.int .i64 (n : Int))) none).run Try.prog w = .ok (.slice a n cap) w) ∧ Rows w a (ds.take n) cap := by
  have hT : Try.prog.underlying 46 = some (.slice 25) := Try.underlying46
  have he : Try.prog.elem 46 = 25 := by simp [Program.elem, hT]
  have hle := h.le
  refine ⟨fun w => ?_, by rw [List.length_take]; omega, h.top, h.nil, fun hne => h.spot (by intro h0; rw [h0] at hne; simp at hne), fun i hi => ?_, fun d hd => h.row d (List.mem_of_mem_take hd)⟩
  · rw [run_sliceAt_slice _ _ _ _ _ _ (by rw [he]; exact hT), run_slice_h w _ a _ _ (by rw [he]; exact hT) .i64 n (by omega) (by omega), he, szRow]
    cases a with
    | none => simp [Result.andThen, sliced]
    | some x => simp [Result.andThen, sliced, Addr.add]
  · have hi' : i < ds.length := by rw [List.length_take] at hi; omega
    rw [h.cell i hi']
    simp
theorem chN_take (ls : List (List UInt8)) (m : Nat) : ∀ k, k ≤ m → m ≤ ls.length → chN (ls.take m) k = chN ls k
  | 0, _, _ => rfl
  | k + 1, hk, hm => by
    have ih := chN_take ls m k (by omega) hm
    have hg : (ls.take m).getD k [] = ls.getD k [] := by
      have h1 : k < (ls.take m).length := by rw [List.length_take]; omega
      have h2 : k < ls.length := by omega
      simp [h2, show k < m by omega]
    rw [chN, chN, ih, hg]

set_option maxRecDepth 100000 in
set_option maxHeartbeats 4000000 in
theorem refchain_calls : ∀ (n : Nat) (w : World) (a : Option Addr) (ds : List (Sl UInt8)) (c : Nat), ds.length = n → n ≤ 1000000 → Rows w a ds c → (∀ d ∈ ds, d.l.length ≤ 1000000) →
    Calls Try.prog 29 #[.slice a ds.length c] w fun e w' => e = .returned (.agg ((chN (ds.map (·.l)) ds.length).map vb).toArray) ∧ Below w.heap.size w w' := by
  intro n
  induction n with
  | zero =>
    intro w a ds c hn _ hr hb
    obtain rfl : ds = [] := List.eq_nil_of_length_eq_zero hn
    have HA := Lib.hid (fun ρ d ty ps af w => alloc_tag ρ d ty ps (af := af) w)
    obtain ⟨X, hX⟩ : ∃ Y, Hid (Y = ((List.replicate 32 (0 : UInt8)).map vb).toArray) := ⟨_, rfl⟩
    rw [← hX.out] at HA
    have HX : Hid (X.size = 32) := by rw [Hid, hX.out]; simp
    have B0 : Below w.heap.size w (w.alloc (.cells X 36)) := (Below.refl _ _).alloc (Nat.le_refl _) _
    have x0 : (w.alloc (.cells X 36)).heap[w.heap.size]? = some (.cells X 36 (0, 0)) := heap_alloc_new w _
    have hS : Calls Try.prog 24 #[.slice none 0 0] (w.alloc (.cells X 36)) fun e w' => e = .returned (.agg ((sumB []).map vb).toArray) ∧ Below (w.alloc (.cells X 36)).heap.size (w.alloc (.cells X 36)) w' := refsum_calls _ none [] 0 (Row.nil_ _) (by simp)
    have HB0 := Lib.hid (And.intro x0 B0)
    have HS := Lib.hid hS
    clear x0 B0 hS hr hb
    show Calls Try.prog 29 #[.slice a 0 c] w _
    go_enter Try.func29, Try.ntmps29
    go_wp2_with (first
      | ((with_reducible refine wpList_value (o := ⟨some 2, .alloc _, _, _, _, _⟩) (by with_unfolding_all rfl) (HA.out _ _ _ _ _ _) ?_)))
    refine HS.out.mono ?_
    rintro e w1 ⟨rfl, hb1⟩
    have HX1 : Hid (w1.heap[w.heap.size]? = some (.cells X 36 (0, 0))) := (hb1.block _ (by simp)).trans HB0.out.1
    have B1 := HB0.out.2.trans (hb1.mono (by simp))
    obtain ⟨D, hD⟩ : ∃ D, Hid (D = ((sumB []).map vb).toArray) := ⟨_, rfl⟩
    rw [← hD.out]
    have HD : Hid (D.size = 32) := by rw [Hid, hD.out]; simpa using sumB_len []
    have HDo : Hid (D.all (·.oneCell') = true) := by rw [Hid, hD.out]; exact arrB_ok _
    clear hb1
    go_wp2_with (first
      | ((with_reducible refine wpList_storeB (o := ⟨none, .store _ (.tmp 2) (.tmp 8), _, _, _, _⟩) row_tag (.tmp 2) (.tmp 8) (by with_unfolding_all rfl) (by with_unfolding_all rfl) (by with_unfolding_all rfl) (by with_unfolding_all rfl) (by with_unfolding_all rfl) HX1.out HX.out HD.out HDo.out ?_); intro w5 hb5 hS5; have HB5 := Lib.hid hb5; have HS5 := Lib.hid hS5; clear hb5 hS5))
    refine bodyPost_ret (resB1 row_tag rfl rfl HB5.out HD.out) rfl ⟨?_, ?_⟩
    · rw [hD.out]; rfl
    · exact B1.trans (HS5.out.below B1.size (fun j hj => by omega))
  | succ n ih =>
    intro w a ds c hn hn9 hr hb
    have HIH := Lib.hid ih
    clear ih
    obtain ⟨ls, hls⟩ : ∃ ls, Hid (ls = ds.map (·.l)) := ⟨_, rfl⟩
    rw [← hls.out]
    have HLS : Hid (ls.length = n + 1) := by rw [Hid, hls.out, List.length_map, hn]
    have HA := Lib.hid (fun ρ d ty ps af w => alloc_tag ρ d ty ps (af := af) w)
    obtain ⟨X, hX⟩ : ∃ Y, Hid (Y = ((List.replicate 32 (0 : UInt8)).map vb).toArray) := ⟨_, rfl⟩
    rw [← hX.out] at HA
    have HX : Hid (X.size = 32) := by rw [Hid, hX.out]; simp
    have B0 : Below w.heap.size w (w.alloc (.cells X 36)) := (Below.refl _ _).alloc (Nat.le_refl _) _
    have x0 : (w.alloc (.cells X 36)).heap[w.heap.size]? = some (.cells X 36 (0, 0)) := heap_alloc_new w _
    have HR0 := Lib.hid (hr.stay B0)
    have HB0 := Lib.hid (And.intro x0 B0)
    have HBL := Lib.hid hb
    have HN := Lib.hid hn
    have hget : ls.getD n [] = (ds[n]'(by omega)).l := by rw [hls.out]; simp [hn]
    have hrow := HR0.out.row ds[n] (List.getElem_mem _)
    have hdl := hb ds[n] (List.getElem_mem _)
    have i0 := HR0.out.index n (by omega)
    have e0 := HR0.out.cell n (by omega)
    rw [hn] at i0 ⊢
    generalize ds[n]'(by omega) = d at e0 hrow hdl hget
    have HG := Lib.hid hget
    have nz : (((n + 1 : Nat) : Int) == 0) = false := by rw [beq_eq_false_iff_ne]; omega
    have nz2 : (((n : Int) + 1) == 0) = false := by rw [beq_eq_false_iff_ne]; omega
    have lw : IntKind.i64.wrap (((n + 1 : Nat) : Int) - 1) = (n : Int) := by rw [show ((n + 1 : Nat) : Int) - 1 = (n : Int) by omega]; exact IntWalk.i64_in _ (by omega)
    have HI0 := Lib.hid i0
    have HE0 := Lib.hid e0
    clear x0 B0 hr hb hget hn e0
    by_cases hn0 : n = 0
    · subst hn0
      have i0' : ∀ w, (Instr.indexAt 46 (.slice a 1 c) (.int .i64 0)).run Try.prog w = .ok (.pointer (some (ad a 0))) w := HI0.out
      have e0 := HE0.out
      have HS := Lib.hid (refsum_calls _ d.a d.l d.c hrow (by omega))
      have HCH : Hid (sumB d.l = chN ls 1) := by rw [Hid, chN, if_pos rfl, HG.out, List.nil_append]
      clear nz nz2 lw i0 hrow
      show Calls Try.prog 29 #[.slice a 1 c] w _
      go_enter Try.func29, Try.ntmps29
      go_wp2_with (first
        | ((with_reducible refine wpList_value (o := ⟨some 2, .alloc _, _, _, _, _⟩) (by with_unfolding_all rfl) (HA.out _ _ _ _ _ _) ?_)))
      refine HS.out.mono ?_
      rintro e w1 ⟨rfl, hb1⟩
      have HX1 : Hid (w1.heap[w.heap.size]? = some (.cells X 36 (0, 0))) := (hb1.block _ (by simp)).trans HB0.out.1
      have B1 := HB0.out.2.trans (hb1.mono (by simp))
      obtain ⟨D, hD⟩ : ∃ D, Hid (D = ((sumB d.l).map vb).toArray) := ⟨_, rfl⟩
      rw [← hD.out]
      have HD : Hid (D.size = 32) := by rw [Hid, hD.out]; simpa using sumB_len d.l
      have HDo : Hid (D.all (·.oneCell') = true) := by rw [Hid, hD.out]; exact arrB_ok _
      clear hb1
      go_wp2_with (first
        | ((with_reducible refine wpList_storeB (o := ⟨none, .store _ (.tmp 2) (.tmp 17), _, _, _, _⟩) row_tag (.tmp 2) (.tmp 17) (by with_unfolding_all rfl) (by with_unfolding_all rfl) (by with_unfolding_all rfl) (by with_unfolding_all rfl) (by with_unfolding_all rfl) HX1.out HX.out HD.out HDo.out ?_); intro w5 hb5 hS5; have HB5 := Lib.hid hb5; have HS5 := Lib.hid hS5; clear hb5 hS5))
      refine bodyPost_ret (resB1 row_tag rfl rfl HB5.out HD.out) rfl ⟨?_, ?_⟩
      · rw [hD.out, HCH.out]
      · exact B1.trans (HS5.out.below B1.size (fun j hj => by omega))
    · have z1 : ((n : Int) == 0) = false := by rw [beq_eq_false_iff_ne]; omega
      obtain ⟨hrun, hRt⟩ := HR0.out.take_run n (by have := HN.out; omega)
      rw [HN.out] at hrun
      have htl : (ds.take n).length = n := by rw [List.length_take]; have := HN.out; omega
      have hch := HIH.out _ a (ds.take n) c htl (by omega) hRt (fun d hd => HBL.out d (List.mem_of_mem_take hd))
      rw [htl] at hch
      have hmt : (ds.take n).map (·.l) = ls.take n := by rw [hls.out, List.map_take]
      rw [hmt, chN_take ls n n (Nat.le_refl _) (by have := HLS.out; omega)] at hch
      have HCH0 := Lib.hid hch
      clear hmt htl hch hRt
      show Calls Try.prog 29 #[.slice a (n + 1) c] w _
      go_enter Try.func29, Try.ntmps29
      go_wp2_with (first
        | ((with_reducible refine wpList_value (o := ⟨some 2, .alloc _, _, _, _, _⟩) (by with_unfolding_all rfl) (HA.out _ _ _ _ _ _) ?_)))
      refine HCH0.out.mono ?_
      rintro e w1 ⟨rfl, hb1⟩
      have hsz1 : w.heap.size < w1.heap.size := by have := hb1.size; simp at this; omega
      have HX1 : Hid (w1.heap[w.heap.size]? = some (.cells X 36 (0, 0))) := (hb1.block _ (by simp)).trans HB0.out.1
      have B1 := HB0.out.2.trans (hb1.mono (by simp))
      have e1 := (hb1.cell (World.block_lt_of_cell? _ _ HE0.out)).trans HE0.out
      have hrow1 := hrow.stay hb1
      obtain ⟨D, hD⟩ : ∃ D, Hid (D = ((chN ls n).map vb).toArray) := ⟨_, rfl⟩
      rw [← hD.out]
      have HD : Hid (D.size = 32) := by rw [Hid, hD.out]; simpa using chN_len ls n
      have HDo : Hid (D.all (·.oneCell') = true) := by rw [Hid, hD.out]; exact arrB_ok _
      have hn1 : (w1.alloc (.cells X 36)).heap[w1.heap.size]? = some (.cells X 36 (0, 0)) := heap_alloc_new _ _
      have HN1 := Lib.hid hn1
      have HE1 := Lib.hid e1
      clear hb1 hn1 e1 hrow
      go_wp2_with (first
        | ((with_reducible refine wpList_value (o := ⟨some 4, .alloc _, _, _, _, _⟩) (by with_unfolding_all rfl) (HA.out _ _ _ _ _ _) ?_))
        | ((with_reducible refine wpList_storeB (o := ⟨none, .store _ (.tmp 4) (.tmp 21), _, _, _, _⟩) row_tag (.tmp 4) (.tmp 21) (by with_unfolding_all rfl) (by with_unfolding_all rfl) (by with_unfolding_all rfl) (by with_unfolding_all rfl) (by with_unfolding_all rfl) HN1.out HX.out HD.out HDo.out ?_); intro w2 hb2 hS2; have HB2 := Lib.hid hb2; have HS2 := Lib.hid hS2; clear hb2 hS2))
      have hs2 := HS2.out.size
      rw [World.size_alloc] at hs2
      have hA2 : Below w1.heap.size w1 w2 := (((Below.refl _ w1).alloc (Nat.le_refl _) (.cells X 36))).trans (HS2.out.below (by simp) (fun j hj => by omega))
      have B2 := B1.trans (hA2.mono B1.size)
      have HX2 : Hid (w2.heap[w.heap.size]? = some (.cells X 36 (0, 0))) := (hA2.block _ hsz1).trans HX1.out
      have A2 : ArrB 36 w2 w1.heap.size (chN ls n) := by have := HB2.out; rw [hD.out] at this; exact this
      have hrow2 := hrow1.stay hA2
      have e2 : ∀ k, ({ w2 with drawn := k } : World).cell? (ad a n) = some (.slice d.a d.l.length d.c) := fun _ => (hA2.cell (World.block_lt_of_cell? _ _ HE1.out)).trans HE1.out
      clear HB2 HS2 hA2 hrow1
      obtain ⟨t4, ht4⟩ : ∃ t, t = w1.heap.size := ⟨_, rfl⟩
      rw [← ht4] at A2 hs2 hsz1 ⊢
      clear ht4
      have tA := tag_all t4
      have i0' : ∀ w, (Instr.indexAt 46 (.slice a (n + 1) c) (.int .i64 (n : Int))).run Try.prog w = .ok (.pointer (some (ad a n))) w := HI0.out
      clear i0
      go_still_tail 5, (by kernel_rfl)
      change wpList _ _ _ _ _ w2.drew
      have Bd : Below w.heap.size w w2.drew := B2.trans (below_drewN _ _ 1)
      have HXd : Hid (w2.drew.heap[w.heap.size]? = some (.cells X 36 (0, 0))) := HX2.out
      have hAr : Row w2.drew (some ⟨t4, 0, none⟩) (chN ls n) 32 := by
        have := (A2.row (by rw [chN_len]; decide)).drewN 1
        rwa [chN_len] at this
      have hrd : Row w2.drew d.a d.l d.c := hrow2.drewN 1
      have hsd : w.heap.size < w2.drew.heap.size := by show w.heap.size < w2.heap.size; omega
      generalize w2.drew = W at Bd HXd hAr hrd hsd ⊢
      have hc := refcat_calls W _ _ (chN ls n) d.l _ _ hAr hrd (by rw [chN_len]; decide) (by omega)
      rw [chN_len] at hc
      have HC := Lib.hid hc
      have HCH : Hid (sumB (chN ls n ++ d.l) = chN ls (n + 1)) := by rw [Hid, chN, if_neg hn0, HG.out]
      clear hc A2 e2 hrow2 B2 HX2
      go_wp2_with fail
      refine HC.out.mono ?_
      rintro e w3 ⟨a3, c3, rfl, hO3, hb3⟩
      obtain ⟨M, hM⟩ : ∃ M, Hid (M = chN ls n ++ d.l) := ⟨_, rfl⟩
      rw [← hM.out] at hO3 HCH ⊢
      have HML : M.length ≤ 10000000 := by rw [hM.out, List.length_append, chN_len]; omega
      have HS3 := Lib.hid (refsum_calls w3 a3 M c3 hO3.isRow HML)
      have HX3 : Hid (w3.heap[w.heap.size]? = some (.cells X 36 (0, 0))) := (hb3.block _ hsd).trans HXd.out
      have B3 := Bd.trans (hb3.mono Bd.size)
      clear hO3 hb3
      go_wp2_with fail
      refine HS3.out.mono ?_
      rintro e w4 ⟨rfl, hb4⟩
      obtain ⟨F, hF⟩ : ∃ F, Hid (F = ((sumB M).map vb).toArray) := ⟨_, rfl⟩
      rw [← hF.out]
      have HF : Hid (F.size = 32) := by rw [Hid, hF.out]; simpa using sumB_len M
      have HFo : Hid (F.all (·.oneCell') = true) := by rw [Hid, hF.out]; exact arrB_ok _
      have HX4 : Hid (w4.heap[w.heap.size]? = some (.cells X 36 (0, 0))) := (hb4.block _ (Array.getElem?_eq_some_iff.1 HX3.out).1).trans HX3.out
      have B4 := B3.trans (hb4.mono B3.size)
      clear hb4 B3
      go_wp2_with (first
        | ((with_reducible refine wpList_storeB (o := ⟨none, .store _ (.tmp 2) (.tmp 28), _, _, _, _⟩) row_tag (.tmp 2) (.tmp 28) (by with_unfolding_all rfl) (by with_unfolding_all rfl) (by with_unfolding_all rfl) (by with_unfolding_all rfl) (by with_unfolding_all rfl) HX4.out HX.out HF.out HFo.out ?_); intro w5 hb5 hS5; have HB5 := Lib.hid hb5; have HS5 := Lib.hid hS5; clear hb5 hS5))
      refine bodyPost_ret (resB1 row_tag rfl rfl HB5.out HF.out) rfl ⟨?_, ?_⟩
      · rw [hF.out, HCH.out]
      · exact B4.trans (HS5.out.below B4.size (fun j hj => by omega))
end Go.Proofs.Ytiemafgnpmoblaa
