/- ShaChains: the walk of the law. -/
import Derived.Test.YtiemafgnpmoblaaRefChain
import Derived.Test.YtiemafgnpmoblaaRowsOwn
import Derived.Test.YtiemafgnpmoblaaLawShaEats
namespace Go.Proofs.Ytiemafgnpmoblaa
open Go Go.RowKit Go.Cit

theorem chains_far (w : World) (a0 : Option Addr) (ds : List (Sl UInt8)) (c0 : Nat) (h0 : Rows w a0 ds c0) (hfar : 10 < ds.length) :
    Calls Try.prog 5 #[.slice a0 ds.length c0] w fun e w' => e = .returned (.bool true) ∧ Below w.heap.size w w' := by
  have hlen := h0.len_le
  go_enter Try.func5, Try.ntmps5
  go_wp2_with fail
  go_loop [3, 4] (fun m i => ∃ (k : Nat) (n : Int), k ≤ ds.length ∧ i = .int .i64 k ∧ m = .int .i64 n) (fun _ i => ds.length - (intOf i).toNat)
  case atStart => exact ⟨0, 0, Nat.zero_le _, rfl, rfl⟩
  case round =>
    obtain ⟨k, n, hk, rfl, rfl⟩ := hrel
    by_cases hlt : k < ds.length
    · have d1 : decide (k < ds.length) = true := by simpa using hlt
      have i0 := h0.index k hlt
      have e0 := h0.cell k hlt
      go_wp2_with fail
      go_round
      case rel => exact ⟨k + 1, _, by omega, by go_num, rfl⟩
      case measure => simp [intOf]; omega
    · have d1 : decide (k < ds.length) = false := by simpa using hlt
      have d3 : decide ((10 : Int) < (ds.length : Int)) = true := by simp; omega
      have d3' : decide (10 < ds.length) = true := by simpa using hfar
      by_cases hm : 600 < n
      · have d2 : decide (600 < n) = true := by simpa using hm
        go_wp2_with fail
        go_ret
        exact ⟨rfl, Below.refl _ _⟩
      · have d2 : decide (600 < n) = false := by simpa using hm
        go_wp2_with fail
        go_ret
        exact ⟨rfl, Below.refl _ _⟩

set_option maxRecDepth 100000 in
set_option maxHeartbeats 4000000 in
theorem chains_near (w : World) (a0 : Option Addr) (ds : List (Sl UInt8)) (c0 : Nat) (h0 : Rows w a0 ds c0) (hc : ∀ d ∈ ds, d.l.length ≤ 140737488351232) (hn : ds.length ≤ 10) :
    Calls Try.prog 5 #[.slice a0 ds.length c0] w fun e w' => e = .returned (.bool true) ∧ Below w.heap.size w w' := by
  have HT : Hid (∀ k, k ≤ ds.length → totB (ds.take k) ≤ 1407374883512320) := fun k hk => by
    have h1 := totB_le (ds.take k) _ (fun d hd => hc d (List.mem_of_mem_take hd))
    rw [List.length_take] at h1
    have : min k ds.length * 140737488351232 ≤ 10 * 140737488351232 := Nat.mul_le_mul (by omega) (Nat.le_refl _)
    omega
  have HC := Lib.hid hc
  clear hc
  go_enter Try.func5, Try.ntmps5
  go_wp2_with fail
  go_loop [3, 4] (fun m i => ∃ (k n : Nat), k ≤ ds.length ∧ i = .int .i64 k ∧ Hid (n = totB (ds.take k)) ∧ n ≤ 1407374883512320 ∧ m = .int .i64 n) (fun _ i => ds.length - (intOf i).toNat)
  case atStart => exact ⟨0, 0, Nat.zero_le _, rfl, rfl, by omega, rfl⟩
  case round =>
    obtain ⟨k, n, hk, rfl, HN, hn9, rfl⟩ := hrel
    by_cases hlt : k < ds.length
    · have d1 : decide (k < ds.length) = true := by simpa using hlt
      have i0 := h0.index k hlt
      have e0 := h0.cell k hlt
      have HS : Hid (n + ds[k].l.length = totB (ds.take (k + 1))) := by rw [Hid, HN.out, totB_take ds k hlt]
      have hl := HC.out ds[k] (List.getElem_mem hlt)
      have hs9 := HT.out (k + 1) hlt
      rw [← HS.out] at hs9
      generalize ds[k] = d at e0 HS hl hs9
      go_wp2_with fail
      go_round
      case rel => exact ⟨k + 1, n + d.l.length, by omega, by go_num, HS, by omega, by go_num⟩
      case measure => simp [intOf]; omega
    · have d1 : decide (k < ds.length) = false := by simpa using hlt
      have hk2 : k = ds.length := by omega
      by_cases hm : 600 < n
      · have d2 : decide (600 < n) = true := by simpa using hm
        go_wp2_with fail
        go_ret
        exact ⟨rfl, Below.refl _ _⟩
      · have d2 : decide ((600 : Int) < (n : Int)) = false := by simp; omega
        have d2' : decide (600 < n) = false := by simpa using hm
        have d3 : decide ((10 : Int) < (ds.length : Int)) = false := by simp; omega
        have d3' : decide (10 < ds.length) = false := by simp; omega
        have HL6 : Hid (∀ d ∈ ds, d.l.length ≤ 600) := fun d hd => by
          have h1 := totB_one ds d hd
          have h2 : n = totB ds := by rw [HN.out, hk2, List.take_length]
          omega
        obtain ⟨N, hN⟩ : ∃ N, ds.length = N := ⟨_, rfl⟩
        have HNN := Lib.hid hN
        clear hk2 hN
        go_wp2_with (first
          | ((with_reducible refine wpList_vmake (o := ⟨some 30, .makeSlice _ _ _, _, _, _, _⟩) (v := sv) (x0 := nilD) rowsT rfl (.tmp 29) (.tmp 29) (by with_unfolding_all rfl) (by with_unfolding_all rfl) ds.length .i64 .i64 (by with_unfolding_all rfl) (by with_unfolding_all rfl) rfl (by omega) ?_); intro w1 hO1 hg1 hz1))
        have B1 : Below w.heap.size w w1 := grown_below hg1 (Nat.le_refl _) (fun k hk => by simp at hk)
        have HW : Hid (∀ j, j < ds.length → (List.replicate ds.length nilD)[j]? = some nilD) := fun j hj => by simp [hj]
        go_loopw [6] (fun i wr => ∃ (k : Nat) (es : List (Sl UInt8)), k ≤ ds.length ∧ i = .int .i64 k ∧ Hid (es.length = ds.length) ∧ Hid (∀ j, j < k → (es.getD j nilD).l = (ds.getD j nilD).l) ∧ VOwn sf 1 25 w.heap.size wr (some ⟨w.heap.size, 0, none⟩) es ds.length ∧ Hid (∀ d ∈ es, Row wr d.a d.l d.c ∧ ∀ g, Go.Cit.blk d.a = some g → w.heap.size + 1 ≤ g) ∧ Below w.heap.size w wr) (fun i _ => ds.length - (intOf i).toNat)
        case atStart => exact ⟨0, _, Nat.zero_le _, rfl, by simp [Hid], fun j hj => by omega, hO1, fun d hd => by obtain rfl := List.eq_of_mem_replicate hd; exact ⟨Row.nil_ _, fun g h => by simp [Go.Cit.blk] at h⟩, B1⟩
        case round =>
          clear hO1 hg1 B1 HW
          obtain ⟨k, es, hk, rfl, HEL, HEQ, hO, HER, B⟩ := hrel
          by_cases hlt : k < ds.length
          · have d4 : decide (k < ds.length) = true := by simpa using hlt
            have hRr := h0.stay B
            have i0 := hRr.index k hlt
            have e0 := hRr.cell k hlt
            have hrow := hRr.row ds[k] (List.getElem_mem hlt)
            have hdl := HL6.out ds[k] (List.getElem_mem hlt)
            have hget : (ds.getD k nilD).l = ds[k].l := by simp [hlt]
            generalize ds[k] = d at e0 hrow hdl hget
            have iO := (hO.vec sf_len).index1 (v := sv) rowsT k (by rw [HEL.out]; exact hlt)
            rw [HEL.out, ad_some] at iO
            have HG := Lib.hid hget
            have HCP := Lib.hid (copy_calls wr d.a d.l d.c hrow (by omega))
            clear hRr hrow hget
            go_wp2_with fail
            refine HCP.out.mono ?_
            rintro e w3 ⟨a3, c3, rfl, hO3, hb3⟩
            have hOw := hO.stay hb3
            have c1 : ∃ v, w3.cell? ⟨w.heap.size, k, none⟩ = some v := by
              have := (hOw.vec sf_len).cell1 (v := sv) k (by rw [HEL.out]; exact hlt)
              rw [ad_some] at this
              exact ⟨_, this⟩
            obtain ⟨v1, c1⟩ := c1
            have f1 := hOw.frozen k
            obtain ⟨hst, hgr⟩ := VOwn.stored (v := sv) hOw k ⟨a3, c3, d.l⟩
            have hbk : ∀ g, Go.Cit.blk a3 = some g → w.heap.size + 1 ≤ g := fun g hg => by have h1 := (hO3.blk_ge hg).1; have h2 := (hO.blk_ge (g := w.heap.size) rfl).2; omega
            have hsv : Save (· ≠ w.heap.size) w3 (w3.setCell ⟨w.heap.size, k, none⟩ (.slice a3 d.l.length c3)) := Save.set
            have HST := Lib.hid hst
            have HR2 : Hid (∀ x ∈ es.set k ⟨a3, c3, d.l⟩, Row (w3.setCell ⟨w.heap.size, k, none⟩ (.slice a3 d.l.length c3)) x.a x.l x.c ∧ ∀ g, Go.Cit.blk x.a = some g → w.heap.size + 1 ≤ g) := fun x hx => by
              rcases List.mem_or_eq_of_mem_set hx with h | rfl
              · obtain ⟨h1, h2⟩ := HER.out x h
                exact ⟨(h1.stay hb3).save hsv (fun g hg => by have := h2 g hg; omega), h2⟩
              · exact ⟨hO3.isRow.save hsv (fun g hg => by have := hbk g hg; omega), hbk⟩
            have HQ2 : Hid (∀ j, j < k + 1 → ((es.set k ⟨a3, c3, d.l⟩).getD j nilD).l = (ds.getD j nilD).l) := fun j hj => by
              by_cases hjk : j = k
              · subst hjk
                rw [HG.out]
                simp [HEL.out, hlt]
              · have := HEQ.out j (by omega)
                rw [← this]
                have hkj : k ≠ j := fun h => hjk h.symm
                simp [hkj]
            have HB2 := Lib.hid ((B.trans (hb3.mono B.size)).trans (hsv.below (B.trans (hb3.mono B.size)).size (fun j hj => by omega)))
            clear hst hgr hbk hsv hOw hO3 hb3 hO
            go_wp2_with fail
            go_roundw
            case rel => exact ⟨k + 1, _, by omega, by go_num, by rw [Hid, List.length_set]; exact HEL.out, HQ2, HST.out, HR2, HB2.out⟩
            case measure => simp [intOf]; omega
          · have d4 : decide (k < ds.length) = false := by simpa using hlt
            have hkn : k = ds.length := by omega
            have HM : Hid (es.map (·.l) = ds.map (·.l)) := by
              apply List.ext_getElem
              · rw [List.length_map, List.length_map, HEL.out]
              · intro j h1 h2
                have hj : j < ds.length := by simpa using h2
                have he : j < es.length := by simpa using h1
                have := HEQ.out j (by omega)
                simp [hj, he] at this
                simpa using this
            have hre := rows_vec (hO.vec sf_len) (fun d hd => (HER.out d hd).1)
            have hel : es.length = ds.length := HEL.out
            have hE6 : ∀ d ∈ es, d.l.length ≤ 1000000 := fun d hd => by
              have h1 : d.l ∈ es.map (·.l) := List.mem_map.2 ⟨d, hd, rfl⟩
              rw [HM.out] at h1
              obtain ⟨x, hx, hxe⟩ := List.mem_map.1 h1
              have := HL6.out x hx
              rw [← hxe]; omega
            rw [← hel] at hre
            have hch := chain_calls wr _ es _ hre hE6
            rw [HM.out, hel] at hch
            have HCH := Lib.hid hch
            have HRE := Lib.hid hre
            clear hre hE6 hch hkn hel hO
            go_wp2_with fail
            refine HCH.out.mono ?_
            rintro e w3 ⟨rfl, hb3⟩
            have B3 := B.trans (hb3.mono B.size)
            have HRE3 := Lib.hid (HRE.out.stay hb3)
            have HRC := Lib.hid (refchain_calls ds.length w3 a0 ds c0 rfl (by omega) (h0.stay B3) (fun d hd => by have := HL6.out d hd; omega))
            clear hb3
            go_wp2_with fail
            refine HRC.out.mono ?_
            rintro e w4 ⟨rfl, hb4⟩
            have B4 := B3.trans (hb4.mono B3.size)
            have HRE4 := Lib.hid (HRE3.out.stay hb4)
            obtain ⟨D, hD⟩ : ∃ D, Hid (D = ((chN (ds.map (·.l)) ds.length).map vb).toArray) := ⟨_, rfl⟩
            rw [← hD.out]
            have HEQD : Hid (∀ w, (Op.equalIn 10000 36 (.agg D) (.agg D)).run Try.prog w = .ok true w) := by
              intro w; rw [hD.out, run_eq_bytes tagT _ _ (chN_len _ _) (chN_len _ _)]; simp
            clear hb4
            go_wp2_with (first
              | ((with_reducible refine wpList_value (o := ⟨some 49, .binOp _ _ _ _ _, _, _, _, _⟩) (by with_unfolding_all rfl) (exec_bin (by with_unfolding_all rfl) (by with_unfolding_all rfl) (by with_unfolding_all rfl) (run_neq_op tagT.guard _ _ HEQD.out) _) ?_)))
            have HEL2 := Lib.hid HEL.out
            have HRD4 := Lib.hid (h0.stay B4)
            clear HEL HEQ HER B HRE HRE3 B3 HEQD
            go_loopw [7] (fun i wr => ∃ (k : Nat), k ≤ ds.length ∧ i = .int .i64 k ∧ Below w4.heap.size w4 wr) (fun i _ => ds.length - (intOf i).toNat)
            case atStart => exact ⟨0, Nat.zero_le _, rfl, Below.refl _ _⟩
            case round =>
              obtain ⟨k, hk, rfl, B⟩ := hrel
              by_cases hlt : k < ds.length
              · have d4 : decide (k < ds.length) = true := by simpa using hlt
                have hke : k < es.length := by rw [HEL2.out]; exact hlt
                have hm := HRE4.out.stay B
                have hd := HRD4.out.stay B
                have i1 := hm.index k hke
                have i2 := hd.index k hlt
                have e1 : ∀ n, ({ wr with drawn := n } : World).cell? (ad (some ⟨w.heap.size, 0, none⟩) k) = some (.slice es[k].a es[k].l.length es[k].c) := fun _ => hm.cell k hke
                have e2 : ∀ n, ({ wr with drawn := n } : World).cell? (ad a0 k) = some (.slice ds[k].a ds[k].l.length ds[k].c) := fun _ => hd.cell k hlt
                have r1 := hm.row es[k] (List.getElem_mem hke)
                have r2 := hd.row ds[k] (List.getElem_mem hlt)
                have hll : es[k].l = ds[k].l := by
                  have h1 : (es.map (·.l))[k]? = (ds.map (·.l))[k]? := by rw [HM.out]
                  simpa [hke, hlt] using h1
                rw [HEL2.out] at i1
                generalize ds[k] = d at e2 r2 hll
                generalize es[k] = x at e1 r1 hll
                have HK : Hid (∀ n, Calls Try.prog 14 #[.slice x.a x.l.length x.c, .slice d.a d.l.length d.c] (wr.drewN n) fun e w' => e = .returned (.bool true) ∧ ∃ m, w' = (wr.drewN n).drewN m) := fun n => by
                  have h := same_calls (wr.drewN n) x.a d.a x.l d.l x.c d.c (r1.drewN n) (r2.drewN n)
                  rw [hll, ordB_self] at h
                  rw [hll]
                  exact h
                clear hll r1 r2 hm hd hke
                go_wp2_with fail
                go_quiet ((exact Calls.quiet_of (HK.out _)))
                go_wp2_with fail
                go_roundw
                case rel => exact ⟨k + 1, by omega, by go_num, B.trans (below_drewN _ _ _)⟩
                case measure => simp [intOf]; omega
              · have d4 : decide (k < ds.length) = false := by simpa using hlt
                go_wp2_with fail
                go_ret
                exact ⟨rfl, B4.trans (B.mono B4.size)⟩
theorem shaChains_law (w : World) (a0 : Option Addr) (ds : List (Sl UInt8)) (c0 : Nat) (h0 : Rows w a0 ds c0) (hc : ∀ d ∈ ds, d.l.length ≤ 140737488351232) :
    Calls Try.prog 5 #[.slice a0 ds.length c0] w fun e w' => e = .returned (.bool true) ∧ Below w.heap.size w w' := by
  by_cases h : 10 < ds.length
  · exact chains_far w a0 ds c0 h0 h
  · exact chains_near w a0 ds c0 h0 hc (by omega)
end Go.Proofs.Ytiemafgnpmoblaa
