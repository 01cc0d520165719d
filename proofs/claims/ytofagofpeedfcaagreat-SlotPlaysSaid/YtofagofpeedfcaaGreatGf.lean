/- Texts of the proof, one behind the other: RefShaT, RefShaS. No condition but those that each names. -/
import Derived.Test.YtofagofpeedfcaaGreatGe
import Derived.Test.YtofagofpeedfcaaGreatGb
/- The reference's Tail, Sum: walked. -/
namespace Go.Proofs.YtofagofpeedfcaaGreat
open Go Go.RowKit Go.Cit

theorem tail_num (n : Nat) : qOfI (8 * (n : Int)) = qMul (qI 8) (qOfI n) := by
  apply UInt64.toNat_inj.1
  have h1 : ((qOfI (8 * (n : Int))).toNat : Int) = (8 * (n : Int)) % 18446744073709551616 := qOfI_nat _
  have h2 : ((qOfI (n : Int)).toNat : Int) = (n : Int) % 18446744073709551616 := qOfI_nat _
  have h3 : ((qI 8).toNat : Int) = 8 := qI_nat 8 (by decide) (by decide)
  have h4 : (qMul (qI 8) (qOfI (n : Int))).toNat = (qI 8).toNat * (qOfI (n : Int)).toNat % 18446744073709551616 := by unfold qMul; rw [UInt64.toNat_mul]
  have h5 : (qI 8).toNat = 8 := by omega
  rw [h4, h5]
  omega
section
variable {P : Program} {T E : TypeId}
theorem wp_append_boxc (hBT : ByteTypes P T E) {w0 : World} {ops : Array Oper} {rest : List Oper} {o : Oper} {act : Act} {Q : Exit → Act → World → Prop} (s x : Operand) (hgd : o.guard = none)
    (ho : o.op = .call { callee := .builtin .append, args := #[s, x], argTypes := #[T, T] }) {base : Nat} {cs : Array Value}
    {a : Option Addr} {l : List UInt8} {cap : Nat} {b : UInt8} (hcs : cs = #[vb b]) (hown : Cit.Own E base w0 a l cap) (hlen : l.length ≤ 1000000000) (hbase : base ≤ w0.heap.size)
    (hs : act.eval s = .slice a l.length cap) (hx : act.eval x = .slice (some ⟨w0.heap.size, 0, none⟩) 1 1)
    (h : ∀ a' cap' w', Cit.Own E base w' a' (l ++ [b]) cap' → w0.grownBy w' (Cit.blk a) → wpList P ops Q rest (act.put o.dst (.slice a' (l ++ [b]).length cap')) w') : wpList P ops Q (o :: rest) act (w0.alloc (.cells cs E)) := by
  subst hcs; exact wp_append_box hBT s x hgd ho hown hlen hbase hs hx h
end
theorem seven_zero (z : Nat) : (List.replicate z (0 : UInt8)) ++ [0] = List.replicate (z + 1) 0 := by rw [List.replicate_succ']

set_option maxRecDepth 100000 in
set_option maxHeartbeats 2000000 in
theorem reftail_calls (w : World) (n : Nat) (hn : n ≤ 100000000) :
    Calls Tryz.prog 39 #[.int .i64 n] w fun e w' => ∃ a c, e = .returned (.slice a (tailB n).length c) ∧ Cit.Own 5 w.heap.size w' a (tailB n) c ∧ Below w.heap.size w w' := by
  obtain ⟨z, hz⟩ : ∃ z, Hid (z = (119 - n % 64) % 64) := ⟨_, rfl⟩
  have hz1 : z ≤ 63 := by rw [hz.out]; omega
  have hz2 : (n + z + 9) % 64 = 0 := by rw [hz.out]; omega
  have hz3 : ∀ j, j < z → (n + j + 9) % 64 ≠ 0 := fun j hj => by rw [hz.out] at hj; omega
  have HZ := Lib.hid (And.intro hz2 hz3)
  clear hz2 hz3
  have B0 : Below w.heap.size w (w.alloc (.cells #[vb 128] 5)) := (Below.refl _ _).alloc (Nat.le_refl _) _
  have O0 := own_lit w #[vb 128] 5 [128] rfl (by decide)
  have HB := Lib.hid (And.intro B0 O0)
  clear B0 O0
  go_enter Tryz.func39, Tryz.ntmps39
  go_wp2_with fail
  obtain ⟨B0, O0⟩ := HB.out
  go_loopw [3] (fun v wr => ∃ (j : Nat) (a : Option Addr) (c : Nat) (L : List UInt8), j ≤ z ∧ v = .slice a L.length c ∧ Hid (L = 128 :: List.replicate j 0) ∧ Cit.Own 5 w.heap.size wr a L c ∧ Below w.heap.size w wr) (fun v _ => 200 - (match v with | .slice _ n _ => n | _ => 0))
  case atStart => exact ⟨0, _, _, [128], Nat.zero_le _, rfl, rfl, O0, B0⟩
  case round =>
    clear O0 B0
    obtain ⟨j, a, c, L, hj, rfl, HL, hO, B⟩ := hrel
    have HLL : Hid (L.length = j + 1) := by rw [Hid, HL.out]; simp
    have hL9 : L.length ≤ 64 := by rw [HLL.out]; omega
    by_cases hlt : j < z
    · have d1 : (((n : Int) + (L.length : Int) + 8) % 64 != 0) = true := by
        rw [bne_iff_ne]; have := HZ.out.2 j hlt; rw [HLL.out]; omega
      have h9 : L.length ≤ 1000000000 := by omega
      have HLS : Hid (L ++ [0] = 128 :: List.replicate (j + 1) 0) := by rw [Hid, HL.out, List.cons_append, seven_zero]
      go_wp2_with (first
        | ((with_reducible refine wp_append_boxc (o := ⟨some 14, .call _, _, _, _, _⟩) bt (.tmp 12) (.tmp 13) (by with_unfolding_all rfl) (by with_unfolding_all rfl) (b := 0) (by with_unfolding_all rfl) hO h9 B.size (by with_unfolding_all rfl) (by with_unfolding_all rfl) ?_); intro a2 c2 w2 hO2 hg2; have HO2 := Lib.hid hO2; have HB2 := Lib.hid (B.trans (grown_below hg2 B.size (fun k hk => (hO.blk_ge hk).1))); clear hO2 hg2))
      go_roundw
      case rel => exact ⟨j + 1, _, _, _, by omega, by simp, HLS, HO2.out, HB2.out⟩
      case measure => simp; omega
    · have hjz : j = z := by omega
      have d1 : (((n : Int) + (L.length : Int) + 8) % 64 != 0) = false := by
        rw [bne_eq_false_iff_eq]; have := HZ.out.1; rw [HLL.out]; omega
      have HT : Hid (L ++ rowB (qMul (qI 8) (qOfI n)) 8 = tailB n) := by rw [Hid, HL.out, hjz, hz.out]; rfl
      have HNU := Lib.hid (tail_num n)
      clear hjz
      go_wp2_with fail
      have hq : (8 * (n : Int)) = ((qMul (qI 8) (qOfI n)).toNat : Int) := by
        have := qOfI_nat (8 * (n : Int)); rw [HNU.out] at this; omega
      have hp : Calls Tryz.prog 60 #[.int .u64 ((qMul (qI 8) (qOfI n)).toNat : Int), .int .i64 8] wr _ := refput_calls wr (qMul (qI 8) (qOfI n)) 8 (by decide)
      rw [← hq] at hp
      refine hp.mono ?_
      rintro e w2 ⟨a2, c2, rfl, hO2, hb2⟩
      have hO1 := hO.isRow.stay hb2
      have hr2 := hO2.isRow
      have hlr : (rowB (qMul (qI 8) (qOfI n)) 8).length = 8 := rowB_length _ _
      have B2 := B.trans (hb2.mono B.size)
      have hc := refcat_calls w2 a a2 L (rowB (qMul (qI 8) (qOfI n)) 8) c c2 hO1 hr2 (by omega) (by omega)
      rw [hlr, HT.out] at hc
      have HC := Lib.hid hc
      clear hq hp hc hlr hr2 hO1 hO2 hb2 hO
      go_wp2_with fail
      refine HC.out.mono ?_
      rintro e w3 ⟨a3, c3, rfl, hO3, hb3⟩
      have HO3 := Lib.hid hO3
      have HB3 := Lib.hid (B2.trans (hb3.mono B2.size))
      clear hO3 hb3
      go_wp2_with fail
      go_ret
      exact ⟨a3, c3, rfl, ⟨(HO3.out.low B2.size).row⟩, HB3.out⟩
end Go.Proofs.YtofagofpeedfcaaGreat

/- The reference's Sum: walked. -/
namespace Go.Proofs.YtofagofpeedfcaaGreat
open Go Go.RowKit Go.Cit

theorem tailB_len (n : Nat) : 9 ≤ (tailB n).length ∧ (tailB n).length ≤ 72 := by
  unfold tailB
  have : (119 - n % 64) % 64 < 64 := Nat.mod_lt _ (by decide)
  simp [rowB_length]; omega

set_option maxRecDepth 100000 in
set_option maxHeartbeats 2000000 in
theorem refsum_calls (w : World) (a : Option Addr) (b : List UInt8) (c : Nat) (hr : Row w a b c) (hb : b.length ≤ 10000000) :
    Calls Tryz.prog 15 #[.slice a b.length c] w fun e w' => e = .returned (.agg ((sumB b).map vb).toArray) ∧ Below w.heap.size w w' := by
  have HA := Lib.hid (fun ρ d ty ps af w => alloc_tag ρ d ty ps (af := af) w)
  obtain ⟨X, hX⟩ : ∃ Y, Hid (Y = ((List.replicate 32 (0 : UInt8)).map vb).toArray) := ⟨_, rfl⟩
  rw [← hX.out] at HA
  have HX : Hid (X.size = 32) := by rw [Hid, hX.out]; simp
  have B0 : Below w.heap.size w (w.alloc (.cells X 54)) := (Below.refl _ _).alloc (Nat.le_refl _) _
  have x0 : (w.alloc (.cells X 54)).heap[w.heap.size]? = some (.cells X 54 (0, 0)) := heap_alloc_new w _
  have HB := Lib.hid (And.intro x0 (And.intro B0 (hr.stay B0)))
  have HBL := Lib.hid hb
  clear B0 x0 hr
  go_enter Tryz.func15, Tryz.ntmps15
  go_wp2_with (first
    | ((with_reducible refine wpList_value (o := ⟨some 2, .alloc _, _, _, _, _⟩) (by with_unfolding_all rfl) (HA.out _ _ _ _ _ _) ?_)))
  obtain ⟨x0, B0, R0⟩ := HB.out
  refine (reftail_calls _ b.length (by omega)).mono ?_
  rintro e w5 ⟨a5, c5, rfl, hO5, hb5⟩
  have hr0 : Row w5 a b c := R0.stay hb5
  have hr5 := hO5.isRow
  have htl := tailB_len b.length
  have x5 := (hb5.block _ (Array.getElem?_eq_some_iff.1 x0).1).trans x0
  have B5 := B0.trans (hb5.mono B0.size)
  have hl5 : w.heap.size < w5.heap.size := (Array.getElem?_eq_some_iff.1 x5).1
  have HC6 := Lib.hid (refcat_calls w5 a a5 b (tailB b.length) c c5 hr0 hr5 (by omega) (by omega))
  clear hO5 hb5 hr0 hr5 x0 B0 R0
  go_wp2_with fail
  refine HC6.out.mono ?_
  rintro e w6 ⟨a6, c6, rfl, hO6, hb6⟩
  have hW := tail_whole b.length
  obtain ⟨M, hM⟩ : ∃ M, Hid (M = b ++ tailB b.length) := ⟨_, rfl⟩
  rw [← hM.out] at hO6 ⊢
  obtain ⟨n, hn⟩ : ∃ n, M.length = 64 * n := ⟨M.length / 64, by rw [hM.out, List.length_append]; omega⟩
  have HN : Hid (n = (b.length + (tailB b.length).length) / 64) := by rw [Hid, ← List.length_append, ← hM.out, hn]; omega
  have hML : M.length ≤ 20000000 := by rw [hM.out, List.length_append]; omega
  have x6 := (hb6.block _ hl5).trans x5
  have B6 := B5.trans (hb6.mono B5.size)
  have r6 := hO6.isRow
  have HMN := Lib.hid hn
  have hnb : n ≤ 20000000 := by omega
  have hl6 : w.heap.size < w6.heap.size := (Array.getElem?_eq_some_iff.1 x6).1
  clear hO6 hb6 htl hW hn x5 B5
  go_wp2_with fail
  refine (reffirst_calls w6).mono ?_
  rintro e w7 ⟨rfl, hO7, hb7, _⟩
  have x7 := (hb7.block _ hl6).trans x6
  have B7 := B6.trans (hb7.mono B6.size)
  have HR7 := Lib.hid (r6.stay hb7)
  have hl7 : w.heap.size < w7.heap.size := (Array.getElem?_eq_some_iff.1 x7).1
  have hv7 := hO7.vec cw_len
  clear hO7 hb7 x6 B6 r6
  go_wp2_with fail
  go_loopw [4, 5] (fun v i wr => ∃ (k : Nat) (a' : Option Addr) (c' : Nat), k ≤ n ∧ i = .int .i64 ((64 * k : Nat) : Int) ∧ v = .slice a' 8 c' ∧ Vec cw 1 wr a' (eatAll kTab k first8 M).l c' ∧ Below w7.heap.size w7 wr) (fun _ i _ => 64 * n + 64 - (intOf i).toNat)
  case atStart => exact ⟨0, _, _, Nat.zero_le _, rfl, rfl, hv7, Below.refl _ _⟩
  case round =>
    clear hv7
    obtain ⟨k, a', c', hk, rfl, rfl, hv, B⟩ := hrel
    obtain ⟨q, hq⟩ : ∃ q, 64 * k = q := ⟨_, rfl⟩
    have HQ := Lib.hid hq
    have hq9 : q ≤ M.length := by rw [HMN.out]; omega
    by_cases hlt : k < n
    · have d1 : decide (q < M.length) = true := by have := HMN.out; simp; omega
      have hq64 : q + 64 ≤ M.length := by rw [HMN.out]; omega
      obtain ⟨am, m, cm, hm, hrun, rm⟩ := (HR7.out.stay B).part bt.slice bt.sz q (q + 64) (by omega) hq64
      have hm64 : m.length = 64 := by rw [hm, List.length_drop, List.length_take]; omega
      have hmp : (M.drop (64 * k)).take 64 = m := by
        rw [hm, List.drop_take, HQ.out]
        congr 1; omega
      have hrun' : ∀ w, (Instr.sliceAt 31 (.slice a6 M.length c6) (some (.int .i64 (q : Int))) (some (.int .i64 ((q : Int) + 64))) none).run Tryz.prog w = .ok (.slice am 64 cm) w := by
        intro w
        have := hrun w
        rw [hm64] at this
        exact this
      have hek := refeat_calls wr a' (eatAll kTab k first8 M) c' hv am m cm rm hm64
      rw [← hmp, ← eatAll_next] at hek
      have HEK := Lib.hid hek
      clear hek hmp hm hm64 hrun rm hv
      rw [hq]
      clear hq
      go_wp2_with fail
      refine HEK.out.mono ?_
      rintro e wr' ⟨a2, rfl, hO2, hb2⟩
      have HV2 := Lib.hid (hO2.vec cw_len)
      have HB2 := Lib.hid (B.trans (hb2.mono B.size))
      clear hO2 hb2
      go_wp2_with fail
      go_roundw
      case rel => exact ⟨k + 1, a2, 8, by omega, by rw [← HQ.out]; go_num, rfl, HV2.out, HB2.out⟩
      case measure => have := HMN.out; simp [intOf]; omega
    · obtain rfl : k = n := by omega
      have d1 : decide (q < M.length) = false := by have := HMN.out; simp; omega
      rw [hq]
      clear hq
      have HPC := Lib.hid (refprint_calls wr a' (eatAll kTab k first8 M) c' hv)
      have HXr : Hid (wr.heap[w.heap.size]? = some (.cells X 54 (0, 0))) := (B.block _ hl7).trans x7
      have HBM : Hid (sumB b = printB (eatAll kTab k first8 M)) := by rw [Hid, sumB, HN.out, hM.out]
      clear hv
      go_wp2_with fail
      refine HPC.out.mono ?_
      rintro e wz ⟨rfl, hbz⟩
      have HX8 : Hid (wz.heap[w.heap.size]? = some (.cells X 54 (0, 0))) := (hbz.block _ (Array.getElem?_eq_some_iff.1 HXr.out).1).trans HXr.out
      have HBZ := Lib.hid hbz
      obtain ⟨R, hR0⟩ : ∃ R, Hid (R = ((printB (eatAll kTab k first8 M)).map vb).toArray) := ⟨_, rfl⟩
      rw [← hR0.out]
      have HRs : Hid (R.size = 32) := by rw [Hid, hR0.out]; simp [printB_len]
      have HRo : Hid (R.all (·.oneCell') = true) := by rw [Hid, hR0.out]; exact arrB_ok _
      clear hbz
      go_wp2_with (first
        | ((with_reducible refine wpList_storeB (o := ⟨none, .store _ (.tmp 2) (.tmp 26), _, _, _, _⟩) row_tag (.tmp 2) (.tmp 26) (by with_unfolding_all rfl) (by with_unfolding_all rfl) (by with_unfolding_all rfl) (by with_unfolding_all rfl) (by with_unfolding_all rfl) HX8.out HX.out HRs.out HRo.out ?_); intro wq hbq hsq; have HBQ := Lib.hid hbq; have HSQ := Lib.hid hsq; clear hbq hsq))
      refine bodyPost_ret (resB1 row_tag rfl rfl HBQ.out HRs.out) rfl ⟨?_, ?_⟩
      · rw [HBM.out, hR0.out]
      · have h8 : Below w.heap.size w wr := B7.trans (B.mono B7.size)
        exact h8.trans ((HBZ.out.mono h8.size).trans (HSQ.out.below (by have := h8.size; have := HBZ.out.size; omega) (fun j hj => by omega)))
end Go.Proofs.YtofagofpeedfcaaGreat

