/- The reference's Sum: walked. -/
import Derived.Test.YtiemafgnpmoblaaRefShaT
namespace Go.Proofs.Ytiemafgnpmoblaa
open Go Go.RowKit Go.Cit

theorem tailB_len (n : Nat) : 9 ≤ (tailB n).length ∧ (tailB n).length ≤ 72 := by
  unfold tailB
  have : (119 - n % 64) % 64 < 64 := Nat.mod_lt _ (by decide)
  simp [rowB_length]; omega

set_option maxRecDepth 100000 in
set_option maxHeartbeats 2000000 in
theorem refsum_calls (w : World) (a : Option Addr) (b : List UInt8) (c : Nat) (hr : Row w a b c) (hb : b.length ≤ 10000000) :
    Calls Try.prog 24 #[.slice a b.length c] w fun e w' => e = .returned (.agg ((sumB b).map vb).toArray) ∧ Below w.heap.size w w' := by
  have HA := Lib.hid (fun ρ d ty ps af w => alloc_tag ρ d ty ps (af := af) w)
  obtain ⟨X, hX⟩ : ∃ Y, Hid (Y = ((List.replicate 32 (0 : UInt8)).map vb).toArray) := ⟨_, rfl⟩
  rw [← hX.out] at HA
  have HX : Hid (X.size = 32) := by rw [Hid, hX.out]; simp
  have B0 : Below w.heap.size w (w.alloc (.cells X 36)) := (Below.refl _ _).alloc (Nat.le_refl _) _
  have x0 : (w.alloc (.cells X 36)).heap[w.heap.size]? = some (.cells X 36 (0, 0)) := heap_alloc_new w _
  have HB := Lib.hid (And.intro x0 (And.intro B0 (hr.stay B0)))
  have HBL := Lib.hid hb
  clear B0 x0 hr
  go_enter Try.func24, Try.ntmps24
  go_wp2_with (first
    | ((with_reducible refine wpList_value (o := ⟨some 2, .alloc _, _, _, _, _⟩) (by with_unfolding_all rfl) (HA.out _ _ _ _ _ _) ?_)))
  obtain ⟨x0, B0, R0⟩ := HB.out
  refine (reftail_calls _ b.length (by omega)).mono ?_
  rintro e w5 ⟨a5, c5, rfl, hO5, hb5⟩
  have hr0 : Row w5 a b c := R0.stay hb5
  have hr5 := hO5.isRow
  have htl := tailB_len b.length
  have x5 := (hb5.block _ (Array.getElem?_eq_some_iff.1 x0).1).trans x0
  have B5 := B0.trans (hb5.mono B0.size)
  have hl5 : w.heap.size < w5.heap.size := (Array.getElem?_eq_some_iff.1 x5).1
  have HC6 := Lib.hid (refcat_calls w5 a a5 b (tailB b.length) c c5 hr0 hr5 (by omega) (by omega))
  clear hO5 hb5 hr0 hr5 x0 B0 R0
  go_wp2_with fail
  refine HC6.out.mono ?_
  rintro e w6 ⟨a6, c6, rfl, hO6, hb6⟩
  have hW := tail_whole b.length
  obtain ⟨M, hM⟩ : ∃ M, Hid (M = b ++ tailB b.length) := ⟨_, rfl⟩
  rw [← hM.out] at hO6 ⊢
  obtain ⟨n, hn⟩ : ∃ n, M.length = 64 * n := ⟨M.length / 64, by rw [hM.out, List.length_append]; omega⟩
  have HN : Hid (n = (b.length + (tailB b.length).length) / 64) := by rw [Hid, ← List.length_append, ← hM.out, hn]; omega
  have hML : M.length ≤ 20000000 := by rw [hM.out, List.length_append]; omega
  have x6 := (hb6.block _ hl5).trans x5
  have B6 := B5.trans (hb6.mono B5.size)
  have r6 := hO6.isRow
  have HMN := Lib.hid hn
  have hnb : n ≤ 20000000 := by omega
  have hl6 : w.heap.size < w6.heap.size := (Array.getElem?_eq_some_iff.1 x6).1
  clear hO6 hb6 htl hW hn x5 B5
  go_wp2_with fail
  refine (reffirst_calls w6).mono ?_
  rintro e w7 ⟨rfl, hO7, hb7, _⟩
  have x7 := (hb7.block _ hl6).trans x6
  have B7 := B6.trans (hb7.mono B6.size)
  have HR7 := Lib.hid (r6.stay hb7)
  have hl7 : w.heap.size < w7.heap.size := (Array.getElem?_eq_some_iff.1 x7).1
  have hv7 := hO7.vec cw_len
  clear hO7 hb7 x6 B6 r6
  go_wp2_with fail
  go_loopw [4, 5] (fun v i wr => ∃ (k : Nat) (a' : Option Addr) (c' : Nat), k ≤ n ∧ i = .int .i64 ((64 * k : Nat) : Int) ∧ v = .slice a' 8 c' ∧ Vec cw 1 wr a' (eatAll kTab k first8 M).l c' ∧ Below w7.heap.size w7 wr) (fun _ i _ => 64 * n + 64 - (intOf i).toNat)
  case atStart => exact ⟨0, _, _, Nat.zero_le _, rfl, rfl, hv7, Below.refl _ _⟩
  case round =>
    clear hv7
    obtain ⟨k, a', c', hk, rfl, rfl, hv, B⟩ := hrel
    obtain ⟨q, hq⟩ : ∃ q, 64 * k = q := ⟨_, rfl⟩
    have HQ := Lib.hid hq
    have hq9 : q ≤ M.length := by rw [HMN.out]; omega
    by_cases hlt : k < n
    · have d1 : decide (q < M.length) = true := by have := HMN.out; simp; omega
      have hq64 : q + 64 ≤ M.length := by rw [HMN.out]; omega
      obtain ⟨am, m, cm, hm, hrun, rm⟩ := (HR7.out.stay B).part bt.slice bt.sz q (q + 64) (by omega) hq64
      have hm64 : m.length = 64 := by rw [hm, List.length_drop, List.length_take]; omega
      have hmp : (M.drop (64 * k)).take 64 = m := by
        rw [hm, List.drop_take, HQ.out]
        congr 1; omega
      have hrun' : ∀ w, (Instr.sliceAt 25 (.slice a6 M.length c6) (some (.int .i64 (q : Int))) (some (.int .i64 ((q : Int) + 64))) none).run Try.prog w = .ok (.slice am 64 cm) w := by
        intro w
        have := hrun w
        rw [hm64] at this
        exact this
      have hek := refeat_calls wr a' (eatAll kTab k first8 M) c' hv am m cm rm hm64
      rw [← hmp, ← eatAll_next] at hek
      have HEK := Lib.hid hek
      clear hek hmp hm hm64 hrun rm hv
      rw [hq]
      clear hq
      go_wp2_with fail
      refine HEK.out.mono ?_
      rintro e wr' ⟨a2, rfl, hO2, hb2⟩
      have HV2 := Lib.hid (hO2.vec cw_len)
      have HB2 := Lib.hid (B.trans (hb2.mono B.size))
      clear hO2 hb2
      go_wp2_with fail
      go_roundw
      case rel => exact ⟨k + 1, a2, 8, by omega, by rw [← HQ.out]; go_num, rfl, HV2.out, HB2.out⟩
      case measure => have := HMN.out; simp [intOf]; omega
    · obtain rfl : k = n := by omega
      have d1 : decide (q < M.length) = false := by have := HMN.out; simp; omega
      rw [hq]
      clear hq
      have HPC := Lib.hid (refprint_calls wr a' (eatAll kTab k first8 M) c' hv)
      have HXr : Hid (wr.heap[w.heap.size]? = some (.cells X 36 (0, 0))) := (B.block _ hl7).trans x7
      have HBM : Hid (sumB b = printB (eatAll kTab k first8 M)) := by rw [Hid, sumB, HN.out, hM.out]
      clear hv
      go_wp2_with fail
      refine HPC.out.mono ?_
      rintro e wz ⟨rfl, hbz⟩
      have HX8 : Hid (wz.heap[w.heap.size]? = some (.cells X 36 (0, 0))) := (hbz.block _ (Array.getElem?_eq_some_iff.1 HXr.out).1).trans HXr.out
      have HBZ := Lib.hid hbz
      obtain ⟨R, hR0⟩ : ∃ R, Hid (R = ((printB (eatAll kTab k first8 M)).map vb).toArray) := ⟨_, rfl⟩
      rw [← hR0.out]
      have HRs : Hid (R.size = 32) := by rw [Hid, hR0.out]; simp [printB_len]
      have HRo : Hid (R.all (·.oneCell') = true) := by rw [Hid, hR0.out]; exact arrB_ok _
      clear hbz
      go_wp2_with (first
        | ((with_reducible refine wpList_storeB (o := ⟨none, .store _ (.tmp 2) (.tmp 26), _, _, _, _⟩) row_tag (.tmp 2) (.tmp 26) (by with_unfolding_all rfl) (by with_unfolding_all rfl) (by with_unfolding_all rfl) (by with_unfolding_all rfl) (by with_unfolding_all rfl) HX8.out HX.out HRs.out HRo.out ?_); intro wq hbq hsq; have HBQ := Lib.hid hbq; have HSQ := Lib.hid hsq; clear hbq hsq))
      refine bodyPost_ret (resB1 row_tag rfl rfl HBQ.out HRs.out) rfl ⟨?_, ?_⟩
      · rw [HBM.out, hR0.out]
      · have h8 : Below w.heap.size w wr := B7.trans (B.mono B7.size)
        exact h8.trans ((HBZ.out.mono h8.size).trans (HSQ.out.below (by have := h8.size; have := HBZ.out.size; omega) (fun j hj => by omega)))
end Go.Proofs.Ytiemafgnpmoblaa
