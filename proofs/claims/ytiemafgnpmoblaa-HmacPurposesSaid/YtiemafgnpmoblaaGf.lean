/- Texts of the proof, one behind the other: RefShaT, RefShaS, Hex, RefHex, ShaChain, RefChain, RowsOwn. No condition but those that each names. -/
import Derived.Test.YtiemafgnpmoblaaGe
import Derived.Test.YtiemafgnpmoblaaGb
import Derived.Deep.RegionLaw
import Derived.BigRegion
import Derived.StillTailTactics
import Derived.Test.YtiemafgnpmoblaaGc
/- The reference's Tail, Sum: walked. -/
namespace Go.Proofs.Ytiemafgnpmoblaa
open Go Go.RowKit Go.Cit

theorem tail_num (n : Nat) : qOfI (8 * (n : Int)) = qMul (qI 8) (qOfI n) := by
  apply UInt64.toNat_inj.1
  have h1 : ((qOfI (8 * (n : Int))).toNat : Int) = (8 * (n : Int)) % 18446744073709551616 := qOfI_nat _
  have h2 : ((qOfI (n : Int)).toNat : Int) = (n : Int) % 18446744073709551616 := qOfI_nat _
  have h3 : ((qI 8).toNat : Int) = 8 := qI_nat 8 (by decide) (by decide)
  have h4 : (qMul (qI 8) (qOfI (n : Int))).toNat = (qI 8).toNat * (qOfI (n : Int)).toNat % 18446744073709551616 := by unfold qMul; rw [UInt64.toNat_mul]
  have h5 : (qI 8).toNat = 8 := by omega
  rw [h4, h5]
  omega
section
variable {P : Program} {T E : TypeId}
theorem wp_append_boxc (hBT : ByteTypes P T E) {w0 : World} {ops : Array Oper} {rest : List Oper} {o : Oper} {act : Act} {Q : Exit → Act → World → Prop} (s x : Operand) (hgd : o.guard = none)
    (ho : o.op = .call { callee := .builtin .append, args := #[s, x], argTypes := #[T, T] }) {base : Nat} {cs : Array Value}
    {a : Option Addr} {l : List UInt8} {cap : Nat} {b : UInt8} (hcs : cs = #[vb b]) (hown : Cit.Own E base w0 a l cap) (hlen : l.length ≤ 1000000000) (hbase : base ≤ w0.heap.size)
    (hs : act.eval s = .slice a l.length cap) (hx : act.eval x = .slice (some ⟨w0.heap.size, 0, none⟩) 1 1)
    (h : ∀ a' cap' w', Cit.Own E base w' a' (l ++ [b]) cap' → w0.grownBy w' (Cit.blk a) → wpList P ops Q rest (act.put o.dst (.slice a' (l ++ [b]).length cap')) w') : wpList P ops Q (o :: rest) act (w0.alloc (.cells cs E)) := by
  subst hcs; exact wp_append_box hBT s x hgd ho hown hlen hbase hs hx h
end
theorem seven_zero (z : Nat) : (List.replicate z (0 : UInt8)) ++ [0] = List.replicate (z + 1) 0 := by rw [List.replicate_succ']

set_option maxRecDepth 100000 in
set_option maxHeartbeats 2000000 in
theorem reftail_calls (w : World) (n : Nat) (hn : n ≤ 100000000) :
    Calls Try.prog 27 #[.int .i64 n] w fun e w' => ∃ a c, e = .returned (.slice a (tailB n).length c) ∧ Cit.Own 5 w.heap.size w' a (tailB n) c ∧ Below w.heap.size w w' := by
  obtain ⟨z, hz⟩ : ∃ z, Hid (z = (119 - n % 64) % 64) := ⟨_, rfl⟩
  have hz1 : z ≤ 63 := by rw [hz.out]; omega
  have hz2 : (n + z + 9) % 64 = 0 := by rw [hz.out]; omega
  have hz3 : ∀ j, j < z → (n + j + 9) % 64 ≠ 0 := fun j hj => by rw [hz.out] at hj; omega
  have HZ := Lib.hid (And.intro hz2 hz3)
  clear hz2 hz3
  have B0 : Below w.heap.size w (w.alloc (.cells #[vb 128] 5)) := (Below.refl _ _).alloc (Nat.le_refl _) _
  have O0 := own_lit w #[vb 128] 5 [128] rfl (by decide)
  have HB := Lib.hid (And.intro B0 O0)
  clear B0 O0
  go_enter Try.func27, Try.ntmps27
  go_wp2_with fail
  obtain ⟨B0, O0⟩ := HB.out
  go_loopw [3] (fun v wr => ∃ (j : Nat) (a : Option Addr) (c : Nat) (L : List UInt8), j ≤ z ∧ v = .slice a L.length c ∧ Hid (L = 128 :: List.replicate j 0) ∧ Cit.Own 5 w.heap.size wr a L c ∧ Below w.heap.size w wr) (fun v _ => 200 - (match v with | .slice _ n _ => n | _ => 0))
  case atStart => exact ⟨0, _, _, [128], Nat.zero_le _, rfl, rfl, O0, B0⟩
  case round =>
    clear O0 B0
    obtain ⟨j, a, c, L, hj, rfl, HL, hO, B⟩ := hrel
    have HLL : Hid (L.length = j + 1) := by rw [Hid, HL.out]; simp
    have hL9 : L.length ≤ 64 := by rw [HLL.out]; omega
    by_cases hlt : j < z
    · have d1 : (((n : Int) + (L.length : Int) + 8) % 64 != 0) = true := by
        rw [bne_iff_ne]; have := HZ.out.2 j hlt; rw [HLL.out]; omega
      have h9 : L.length ≤ 1000000000 := by omega
      have HLS : Hid (L ++ [0] = 128 :: List.replicate (j + 1) 0) := by rw [Hid, HL.out, List.cons_append, seven_zero]
      go_wp2_with (first
        | ((with_reducible refine wp_append_boxc (o := ⟨some 14, .call _, _, _, _, _⟩) bt (.tmp 12) (.tmp 13) (by with_unfolding_all rfl) (by with_unfolding_all rfl) (b := 0) (by with_unfolding_all rfl) hO h9 B.size (by with_unfolding_all rfl) (by with_unfolding_all rfl) ?_); intro a2 c2 w2 hO2 hg2; have HO2 := Lib.hid hO2; have HB2 := Lib.hid (B.trans (grown_below hg2 B.size (fun k hk => (hO.blk_ge hk).1))); clear hO2 hg2))
      go_roundw
      case rel => exact ⟨j + 1, _, _, _, by omega, by simp, HLS, HO2.out, HB2.out⟩
      case measure => simp; omega
    · have hjz : j = z := by omega
      have d1 : (((n : Int) + (L.length : Int) + 8) % 64 != 0) = false := by
        rw [bne_eq_false_iff_eq]; have := HZ.out.1; rw [HLL.out]; omega
      have HT : Hid (L ++ rowB (qMul (qI 8) (qOfI n)) 8 = tailB n) := by rw [Hid, HL.out, hjz, hz.out]; rfl
      have HNU := Lib.hid (tail_num n)
      clear hjz
      go_wp2_with fail
      have hq : (8 * (n : Int)) = ((qMul (qI 8) (qOfI n)).toNat : Int) := by
        have := qOfI_nat (8 * (n : Int)); rw [HNU.out] at this; omega
      have hp : Calls Try.prog 54 #[.int .u64 ((qMul (qI 8) (qOfI n)).toNat : Int), .int .i64 8] wr _ := refput_calls wr (qMul (qI 8) (qOfI n)) 8 (by decide)
      rw [← hq] at hp
      refine hp.mono ?_
      rintro e w2 ⟨a2, c2, rfl, hO2, hb2⟩
      have hO1 := hO.isRow.stay hb2
      have hr2 := hO2.isRow
      have hlr : (rowB (qMul (qI 8) (qOfI n)) 8).length = 8 := rowB_length _ _
      have B2 := B.trans (hb2.mono B.size)
      have hc := refcat_calls w2 a a2 L (rowB (qMul (qI 8) (qOfI n)) 8) c c2 hO1 hr2 (by omega) (by omega)
      rw [hlr, HT.out] at hc
      have HC := Lib.hid hc
      clear hq hp hc hlr hr2 hO1 hO2 hb2 hO
      go_wp2_with fail
      refine HC.out.mono ?_
      rintro e w3 ⟨a3, c3, rfl, hO3, hb3⟩
      have HO3 := Lib.hid hO3
      have HB3 := Lib.hid (B2.trans (hb3.mono B2.size))
      clear hO3 hb3
      go_wp2_with fail
      go_ret
      exact ⟨a3, c3, rfl, ⟨(HO3.out.low B2.size).row⟩, HB3.out⟩
end Go.Proofs.Ytiemafgnpmoblaa

/- The reference's Sum: walked. -/
namespace Go.Proofs.Ytiemafgnpmoblaa
open Go Go.RowKit Go.Cit

theorem tailB_len (n : Nat) : 9 ≤ (tailB n).length ∧ (tailB n).length ≤ 72 := by
  unfold tailB
  have : (119 - n % 64) % 64 < 64 := Nat.mod_lt _ (by decide)
  simp [rowB_length]; omega

set_option maxRecDepth 100000 in
set_option maxHeartbeats 2000000 in
theorem refsum_calls (w : World) (a : Option Addr) (b : List UInt8) (c : Nat) (hr : Row w a b c) (hb : b.length ≤ 10000000) :
    Calls Try.prog 24 #[.slice a b.length c] w fun e w' => e = .returned (.agg ((sumB b).map vb).toArray) ∧ Below w.heap.size w w' := by
  have HA := Lib.hid (fun ρ d ty ps af w => alloc_tag ρ d ty ps (af := af) w)
  obtain ⟨X, hX⟩ : ∃ Y, Hid (Y = ((List.replicate 32 (0 : UInt8)).map vb).toArray) := ⟨_, rfl⟩
  rw [← hX.out] at HA
  have HX : Hid (X.size = 32) := by rw [Hid, hX.out]; simp
  have B0 : Below w.heap.size w (w.alloc (.cells X 36)) := (Below.refl _ _).alloc (Nat.le_refl _) _
  have x0 : (w.alloc (.cells X 36)).heap[w.heap.size]? = some (.cells X 36 (0, 0)) := heap_alloc_new w _
  have HB := Lib.hid (And.intro x0 (And.intro B0 (hr.stay B0)))
  have HBL := Lib.hid hb
  clear B0 x0 hr
  go_enter Try.func24, Try.ntmps24
  go_wp2_with (first
    | ((with_reducible refine wpList_value (o := ⟨some 2, .alloc _, _, _, _, _⟩) (by with_unfolding_all rfl) (HA.out _ _ _ _ _ _) ?_)))
  obtain ⟨x0, B0, R0⟩ := HB.out
  refine (reftail_calls _ b.length (by omega)).mono ?_
  rintro e w5 ⟨a5, c5, rfl, hO5, hb5⟩
  have hr0 : Row w5 a b c := R0.stay hb5
  have hr5 := hO5.isRow
  have htl := tailB_len b.length
  have x5 := (hb5.block _ (Array.getElem?_eq_some_iff.1 x0).1).trans x0
  have B5 := B0.trans (hb5.mono B0.size)
  have hl5 : w.heap.size < w5.heap.size := (Array.getElem?_eq_some_iff.1 x5).1
  have HC6 := Lib.hid (refcat_calls w5 a a5 b (tailB b.length) c c5 hr0 hr5 (by omega) (by omega))
  clear hO5 hb5 hr0 hr5 x0 B0 R0
  go_wp2_with fail
  refine HC6.out.mono ?_
  rintro e w6 ⟨a6, c6, rfl, hO6, hb6⟩
  have hW := tail_whole b.length
  obtain ⟨M, hM⟩ : ∃ M, Hid (M = b ++ tailB b.length) := ⟨_, rfl⟩
  rw [← hM.out] at hO6 ⊢
  obtain ⟨n, hn⟩ : ∃ n, M.length = 64 * n := ⟨M.length / 64, by rw [hM.out, List.length_append]; omega⟩
  have HN : Hid (n = (b.length + (tailB b.length).length) / 64) := by rw [Hid, ← List.length_append, ← hM.out, hn]; omega
  have hML : M.length ≤ 20000000 := by rw [hM.out, List.length_append]; omega
  have x6 := (hb6.block _ hl5).trans x5
  have B6 := B5.trans (hb6.mono B5.size)
  have r6 := hO6.isRow
  have HMN := Lib.hid hn
  have hnb : n ≤ 20000000 := by omega
  have hl6 : w.heap.size < w6.heap.size := (Array.getElem?_eq_some_iff.1 x6).1
  clear hO6 hb6 htl hW hn x5 B5
  go_wp2_with fail
  refine (reffirst_calls w6).mono ?_
  rintro e w7 ⟨rfl, hO7, hb7, _⟩
  have x7 := (hb7.block _ hl6).trans x6
  have B7 := B6.trans (hb7.mono B6.size)
  have HR7 := Lib.hid (r6.stay hb7)
  have hl7 : w.heap.size < w7.heap.size := (Array.getElem?_eq_some_iff.1 x7).1
  have hv7 := hO7.vec cw_len
  clear hO7 hb7 x6 B6 r6
  go_wp2_with fail
  go_loopw [4, 5] (fun v i wr => ∃ (k : Nat) (a' : Option Addr) (c' : Nat), k ≤ n ∧ i = .int .i64 ((64 * k : Nat) : Int) ∧ v = .slice a' 8 c' ∧ Vec cw 1 wr a' (eatAll kTab k first8 M).l c' ∧ Below w7.heap.size w7 wr) (fun _ i _ => 64 * n + 64 - (intOf i).toNat)
  case atStart => exact ⟨0, _, _, Nat.zero_le _, rfl, rfl, hv7, Below.refl _ _⟩
  case round =>
    clear hv7
    obtain ⟨k, a', c', hk, rfl, rfl, hv, B⟩ := hrel
    obtain ⟨q, hq⟩ : ∃ q, 64 * k = q := ⟨_, rfl⟩
    have HQ := Lib.hid hq
    have hq9 : q ≤ M.length := by rw [HMN.out]; omega
    by_cases hlt : k < n
    · have d1 : decide (q < M.length) = true := by have := HMN.out; simp; omega
      have hq64 : q + 64 ≤ M.length := by rw [HMN.out]; omega
      obtain ⟨am, m, cm, hm, hrun, rm⟩ := (HR7.out.stay B).part bt.slice bt.sz q (q + 64) (by omega) hq64
      have hm64 : m.length = 64 := by rw [hm, List.length_drop, List.length_take]; omega
      have hmp : (M.drop (64 * k)).take 64 = m := by
        rw [hm, List.drop_take, HQ.out]
        congr 1; omega
      have hrun' : ∀ w, (Instr.sliceAt 25 (.slice a6 M.length c6) (some (.int .i64 (q : Int))) (some (.int .i64 ((q : Int) + 64))) none).run Try.prog w = .ok (.slice am 64 cm) w := by
        intro w
        have := hrun w
        rw [hm64] at this
        exact this
      have hek := refeat_calls wr a' (eatAll kTab k first8 M) c' hv am m cm rm hm64
      rw [← hmp, ← eatAll_next] at hek
      have HEK := Lib.hid hek
      clear hek hmp hm hm64 hrun rm hv
      rw [hq]
      clear hq
      go_wp2_with fail
      refine HEK.out.mono ?_
      rintro e wr' ⟨a2, rfl, hO2, hb2⟩
      have HV2 := Lib.hid (hO2.vec cw_len)
      have HB2 := Lib.hid (B.trans (hb2.mono B.size))
      clear hO2 hb2
      go_wp2_with fail
      go_roundw
      case rel => exact ⟨k + 1, a2, 8, by omega, by rw [← HQ.out]; go_num, rfl, HV2.out, HB2.out⟩
      case measure => have := HMN.out; simp [intOf]; omega
    · obtain rfl : k = n := by omega
      have d1 : decide (q < M.length) = false := by have := HMN.out; simp; omega
      rw [hq]
      clear hq
      have HPC := Lib.hid (refprint_calls wr a' (eatAll kTab k first8 M) c' hv)
      have HXr : Hid (wr.heap[w.heap.size]? = some (.cells X 36 (0, 0))) := (B.block _ hl7).trans x7
      have HBM : Hid (sumB b = printB (eatAll kTab k first8 M)) := by rw [Hid, sumB, HN.out, hM.out]
      clear hv
      go_wp2_with fail
      refine HPC.out.mono ?_
      rintro e wz ⟨rfl, hbz⟩
      have HX8 : Hid (wz.heap[w.heap.size]? = some (.cells X 36 (0, 0))) := (hbz.block _ (Array.getElem?_eq_some_iff.1 HXr.out).1).trans HXr.out
      have HBZ := Lib.hid hbz
      obtain ⟨R, hR0⟩ : ∃ R, Hid (R = ((printB (eatAll kTab k first8 M)).map vb).toArray) := ⟨_, rfl⟩
      rw [← hR0.out]
      have HRs : Hid (R.size = 32) := by rw [Hid, hR0.out]; simp [printB_len]
      have HRo : Hid (R.all (·.oneCell') = true) := by rw [Hid, hR0.out]; exact arrB_ok _
      clear hbz
      go_wp2_with (first
        | ((with_reducible refine wpList_storeB (o := ⟨none, .store _ (.tmp 2) (.tmp 26), _, _, _, _⟩) row_tag (.tmp 2) (.tmp 26) (by with_unfolding_all rfl) (by with_unfolding_all rfl) (by with_unfolding_all rfl) (by with_unfolding_all rfl) (by with_unfolding_all rfl) HX8.out HX.out HRs.out HRo.out ?_); intro wq hbq hsq; have HBQ := Lib.hid hbq; have HSQ := Lib.hid hsq; clear hbq hsq))
      refine bodyPost_ret (resB1 row_tag rfl rfl HBQ.out HRs.out) rfl ⟨?_, ?_⟩
      · rw [HBM.out, hR0.out]
      · have h8 : Below w.heap.size w wr := B7.trans (B.mono B7.size)
        exact h8.trans ((HBZ.out.mono h8.size).trans (HSQ.out.below (by have := h8.size; have := HBZ.out.size; omega) (fun j hj => by omega)))
end Go.Proofs.Ytiemafgnpmoblaa

/- sha.Hex, the reference's Hex: walked. -/
namespace Go.Proofs.Ytiemafgnpmoblaa
open Go Go.RowKit Go.Cit

def digH (d : Nat) : UInt8 := if d < 10 then UInt8.ofNat (48 + d) else UInt8.ofNat (87 + d)
def hexB (l : List UInt8) : List UInt8 := l.flatMap fun x => [digH (x.toNat / 16), digH (x.toNat % 16)]
theorem hexB_snoc (l : List UInt8) (x : UInt8) : hexB (l ++ [x]) = hexB l ++ [digH (x.toNat / 16), digH (x.toNat % 16)] := by simp [hexB]
theorem hexB_len (l : List UInt8) : (hexB l).length = 2 * l.length := by
  unfold hexB
  rw [flatLen (n := 2) (fun _ => rfl)]; omega
theorem hex_0 (w : World) : (Instr.index 9 (.string ⟨#[48, 49, 50, 51, 52, 53, 54, 55, 56, 57, 97, 98, 99, 100, 101, 102]⟩) (.int .u8 0)).run Try.prog w = .ok (vb (digH 0)) w := by kernel_rfl
theorem hex_1 (w : World) : (Instr.index 9 (.string ⟨#[48, 49, 50, 51, 52, 53, 54, 55, 56, 57, 97, 98, 99, 100, 101, 102]⟩) (.int .u8 1)).run Try.prog w = .ok (vb (digH 1)) w := by kernel_rfl
theorem hex_2 (w : World) : (Instr.index 9 (.string ⟨#[48, 49, 50, 51, 52, 53, 54, 55, 56, 57, 97, 98, 99, 100, 101, 102]⟩) (.int .u8 2)).run Try.prog w = .ok (vb (digH 2)) w := by kernel_rfl
theorem hex_3 (w : World) : (Instr.index 9 (.string ⟨#[48, 49, 50, 51, 52, 53, 54, 55, 56, 57, 97, 98, 99, 100, 101, 102]⟩) (.int .u8 3)).run Try.prog w = .ok (vb (digH 3)) w := by kernel_rfl
theorem hex_4 (w : World) : (Instr.index 9 (.string ⟨#[48, 49, 50, 51, 52, 53, 54, 55, 56, 57, 97, 98, 99, 100, 101, 102]⟩) (.int .u8 4)).run Try.prog w = .ok (vb (digH 4)) w := by kernel_rfl
theorem hex_5 (w : World) : (Instr.index 9 (.string ⟨#[48, 49, 50, 51, 52, 53, 54, 55, 56, 57, 97, 98, 99, 100, 101, 102]⟩) (.int .u8 5)).run Try.prog w = .ok (vb (digH 5)) w := by kernel_rfl
theorem hex_6 (w : World) : (Instr.index 9 (.string ⟨#[48, 49, 50, 51, 52, 53, 54, 55, 56, 57, 97, 98, 99, 100, 101, 102]⟩) (.int .u8 6)).run Try.prog w = .ok (vb (digH 6)) w := by kernel_rfl
theorem hex_7 (w : World) : (Instr.index 9 (.string ⟨#[48, 49, 50, 51, 52, 53, 54, 55, 56, 57, 97, 98, 99, 100, 101, 102]⟩) (.int .u8 7)).run Try.prog w = .ok (vb (digH 7)) w := by kernel_rfl
theorem hex_8 (w : World) : (Instr.index 9 (.string ⟨#[48, 49, 50, 51, 52, 53, 54, 55, 56, 57, 97, 98, 99, 100, 101, 102]⟩) (.int .u8 8)).run Try.prog w = .ok (vb (digH 8)) w := by kernel_rfl
theorem hex_9 (w : World) : (Instr.index 9 (.string ⟨#[48, 49, 50, 51, 52, 53, 54, 55, 56, 57, 97, 98, 99, 100, 101, 102]⟩) (.int .u8 9)).run Try.prog w = .ok (vb (digH 9)) w := by kernel_rfl
theorem hex_10 (w : World) : (Instr.index 9 (.string ⟨#[48, 49, 50, 51, 52, 53, 54, 55, 56, 57, 97, 98, 99, 100, 101, 102]⟩) (.int .u8 10)).run Try.prog w = .ok (vb (digH 10)) w := by kernel_rfl
theorem hex_11 (w : World) : (Instr.index 9 (.string ⟨#[48, 49, 50, 51, 52, 53, 54, 55, 56, 57, 97, 98, 99, 100, 101, 102]⟩) (.int .u8 11)).run Try.prog w = .ok (vb (digH 11)) w := by kernel_rfl
theorem hex_12 (w : World) : (Instr.index 9 (.string ⟨#[48, 49, 50, 51, 52, 53, 54, 55, 56, 57, 97, 98, 99, 100, 101, 102]⟩) (.int .u8 12)).run Try.prog w = .ok (vb (digH 12)) w := by kernel_rfl
theorem hex_13 (w : World) : (Instr.index 9 (.string ⟨#[48, 49, 50, 51, 52, 53, 54, 55, 56, 57, 97, 98, 99, 100, 101, 102]⟩) (.int .u8 13)).run Try.prog w = .ok (vb (digH 13)) w := by kernel_rfl
theorem hex_14 (w : World) : (Instr.index 9 (.string ⟨#[48, 49, 50, 51, 52, 53, 54, 55, 56, 57, 97, 98, 99, 100, 101, 102]⟩) (.int .u8 14)).run Try.prog w = .ok (vb (digH 14)) w := by kernel_rfl
theorem hex_15 (w : World) : (Instr.index 9 (.string ⟨#[48, 49, 50, 51, 52, 53, 54, 55, 56, 57, 97, 98, 99, 100, 101, 102]⟩) (.int .u8 15)).run Try.prog w = .ok (vb (digH 15)) w := by kernel_rfl
theorem hex_index (d : Nat) (hd : d < 16) (w : World) : (Instr.index 9 (.string ⟨#[48, 49, 50, 51, 52, 53, 54, 55, 56, 57, 97, 98, 99, 100, 101, 102]⟩) (.int .u8 (d : Int))).run Try.prog w = .ok (vb (digH d)) w := by
  have h : d = 0 ∨ d = 1 ∨ d = 2 ∨ d = 3 ∨ d = 4 ∨ d = 5 ∨ d = 6 ∨ d = 7 ∨ d = 8 ∨ d = 9 ∨ d = 10 ∨ d = 11 ∨ d = 12 ∨ d = 13 ∨ d = 14 ∨ d = 15 := by omega
  rcases h with rfl | rfl | rfl | rfl | rfl | rfl | rfl | rfl | rfl | rfl | rfl | rfl | rfl | rfl | rfl | rfl
  · exact hex_0 w
  · exact hex_1 w
  · exact hex_2 w
  · exact hex_3 w
  · exact hex_4 w
  · exact hex_5 w
  · exact hex_6 w
  · exact hex_7 w
  · exact hex_8 w
  · exact hex_9 w
  · exact hex_10 w
  · exact hex_11 w
  · exact hex_12 w
  · exact hex_13 w
  · exact hex_14 w
  · exact hex_15 w
theorem bDiv_16 (x : UInt8) : (bDiv x (bI 16)).toNat = x.toNat / 16 := by unfold bDiv bI; rw [UInt8.toNat_div]; rfl
theorem bMod_16 (x : UInt8) : (bMod x (bI 16)).toNat = x.toNat % 16 := by unfold bMod bI; rw [UInt8.toNat_mod]; rfl
theorem bAnd_15 (x : UInt8) : (bAnd x (bI 15)).toNat = x.toNat % 16 := by
  unfold bAnd bI
  rw [UInt8.toNat_and]
  exact Nat.and_two_pow_sub_one_eq_mod x.toNat 4

set_option maxRecDepth 100000 in
set_option maxHeartbeats 2000000 in
theorem hex_calls (w : World) (l : List UInt8) (hl : l.length = 32) :
    Calls Try.prog 25 #[.agg (l.map vb).toArray] w fun e w' => e = .returned (.string ⟨(hexB l).toArray⟩) ∧ Below w.heap.size w w' := by
  obtain ⟨C, hC⟩ : ∃ C, Hid (C = (l.map vb).toArray) := ⟨_, rfl⟩
  have HC : Hid (C.size = 32) := by rw [Hid, hC.out]; simpa using hl
  rw [← hC.out]
  have HLL := Lib.hid hl
  clear hl
  have b0 : (w.alloc (.cells C 36)).heap[w.heap.size]? = some (.cells C 36 (0, 0)) := heap_alloc_new w _
  have B0 : Below w.heap.size w (w.alloc (.cells C 36)) := (Below.refl _ w).alloc (Nat.le_refl _) _
  have HB := Lib.hid (And.intro b0 B0)
  clear b0 B0
  go_enter Try.func25, Try.ntmps25
  go_wp2_with (first
    | ((with_reducible refine wpList_boxB (o := ⟨some 1, .box _ (.tmp 0), _, _, _, _⟩) (.tmp 0) (by with_unfolding_all rfl) (by with_unfolding_all rfl) (by with_unfolding_all rfl) ?_))
    | ((with_reducible refine wpList_loadB (o := ⟨some 6, .load _ _, _, _, _, _⟩) row_tag (.tmp 1) (by with_unfolding_all rfl) (by with_unfolding_all rfl) (by with_unfolding_all rfl) HB.out.1 HC.out ?_)))
  have B0 := HB.out.2
  go_loopw [3, 7] (fun v i wr => ∃ (k : Nat) (S : List UInt8) (a' : Option Addr) (c' : Nat), k ≤ 32 ∧ i = .int .i64 k ∧ v = .slice a' S.length c' ∧ Hid (S = hexB (l.take k)) ∧ VOwn cb 1 5 w.heap.size wr a' S c' ∧ Below w.heap.size w wr) (fun _ i _ => 32 - (intOf i).toNat)
  case atStart => exact ⟨0, [], none, 0, by omega, rfl, rfl, rfl, VOwn.nil_ _ _ _ _ _, B0⟩
  case round =>
    clear B0
    obtain ⟨k, S, a', c', hk, rfl, rfl, HL, hO, B⟩ := hrel
    have HSL : Hid (S.length = 2 * k) := by rw [Hid, HL.out, hexB_len, List.length_take, HLL.out]; omega
    by_cases hlt : k < 32
    · have d1 : decide ((k : Int) < 32) = true := by simp; omega
      have hkl : k < l.length := by rw [HLL.out]; exact hlt
      have ix : ∀ w, (Instr.index 36 (.agg C) (.int .i64 (k : Int))).run Try.prog w = .ok (vb l[k]) w := fun w => by
        have := run_index_agg (P := Try.prog) (n := 32) (k := k) (C := C) w Try.underlying36 (szB w) (aggB w) HC.out hlt
        rw [this]
        congr 1
        simp [hC.out]
      have HLS : Hid (S ++ [digH (l[k].toNat / 16), digH (l[k].toNat % 16)] = hexB (l.take (k + 1))) := by rw [Hid, HL.out, List.take_succ_eq_append_getElem hkl, hexB_snoc]
      generalize l[k] = x at ix HLS
      have hx := b_lt x
      have j1 := hex_index (bDiv x (bI 16)).toNat (by rw [bDiv_16]; omega)
      have j2 := hex_index (bAnd x (bI 15)).toNat (by rw [bAnd_15]; omega)
      have HY1 : Hid (digH (bDiv x (bI 16)).toNat = digH (x.toNat / 16)) := by rw [Hid, bDiv_16]
      have HY2 : Hid (digH (bAnd x (bI 15)).toNat = digH (x.toNat % 16)) := by rw [Hid, bAnd_15]
      rw [HY1.out] at j1
      rw [HY2.out] at j2
      have h9 : S.length + 2 ≤ 1000000000 := by rw [HSL.out]; omega
      go_wp2_with fail
      go_region_law (refine step_vappm (.ofBytes bt) cb_len cb_one (.tmp 10) (.tmp 17) rfl rfl [digH (x.toNat / 16), digH (x.toNat % 16)] hO rfl rfl (by simp) h9 B.size rfl rfl ?_; intro a2 c2 w2 hO2 hg2 hn2)
      all_goals
        simp only [Act.put, List.setIfInBounds_toArray, List.set_cons_succ]
        have HO2 := Lib.hid hO2
        have HB2 := Lib.hid (B.trans (hO.grown hg2 B.size))
        clear hO2 hg2 hn2
        go_wp2_with fail
        go_roundw
        case rel => exact ⟨k + 1, _, _, _, by omega, by go_num, by simp, HLS, HO2.out, HB2.out⟩
        case measure => simp [intOf]; omega
    · have hk2 : k = 32 := by omega
      have d1 : decide ((k : Int) < 32) = false := by simp; omega
      have HS2 : Hid (S = hexB l) := by rw [Hid, HL.out, hk2, List.take_of_length_le (by rw [HLL.out]; omega)]
      have hc := row_string (hO.own.isRow)
      clear hk2
      go_wp2_with fail
      go_ret
      exact ⟨by rw [← HS2.out]; rfl, B⟩
end Go.Proofs.Ytiemafgnpmoblaa

/- The reference's Hex: walked. -/
namespace Go.Proofs.Ytiemafgnpmoblaa
open Go Go.RowKit Go.Cit

theorem dig_lo (y : UInt8) (h : y.toNat < 10) : IntKind.u8.wrap (48 + (y.toNat : Int)) = ((digH y.toNat).toNat : Int) := by
  unfold digH
  rw [if_pos h, UInt8.toNat_ofNat_of_lt' (by show _ < 256; omega), wrap_u8_eq]; omega
theorem dig_hi1 (y : UInt8) (h : ¬ y.toNat < 10) (h16 : y.toNat < 16) : IntKind.u8.wrap (97 + (y.toNat : Int)) = (((digH y.toNat).toNat + 10 : Nat) : Int) := by
  unfold digH
  rw [if_neg h, UInt8.toNat_ofNat_of_lt' (by show _ < 256; omega), wrap_u8_eq]; omega
theorem dig_hi2 (y : UInt8) (h : ¬ y.toNat < 10) (h16 : y.toNat < 16) : IntKind.u8.wrap ((((digH y.toNat).toNat + 10 : Nat) : Int) - 10) = ((digH y.toNat).toNat : Int) := by
  have := b_lt (digH y.toNat)
  rw [wrap_u8_eq]; omega

theorem str_snoc (R : List UInt8) (z : UInt8) : (⟨R.toArray⟩ : ByteArray) ++ ⟨#[z]⟩ = ⟨(R ++ [z]).toArray⟩ := by
  show ByteArray.append _ _ = _
  apply ByteArray.ext
  simp
theorem one_str (w : World) (z : UInt8) : (convert 25 9 (.slice (some ⟨w.heap.size, 0, none⟩) 1 1)).run Try.prog (w.alloc (.cells #[.int .u8 (z.toNat : Int)] 5)) = .ok (.string ⟨#[z]⟩) (w.alloc (.cells #[.int .u8 (z.toNat : Int)] 5)) := by
  have := row_string (row_new w #[vb z] 5 (0, 0) [z] rfl (by simp))
  exact this
set_option maxRecDepth 100000 in
set_option maxHeartbeats 2000000 in
theorem refhex_calls (w : World) (l : List UInt8) (hl : l.length = 32) :
    Calls Try.prog 26 #[.agg (l.map vb).toArray] w fun e w' => e = .returned (.string ⟨(hexB l).toArray⟩) ∧ Below w.heap.size w w' := by
  have HLL := Lib.hid hl
  clear hl
  have b0 : ArrB 36 (w.alloc (.cells (l.map vb).toArray 36)) w.heap.size l := heap_alloc_new w _
  have B0 : Below w.heap.size w (w.alloc (.cells (l.map vb).toArray 36)) := (Below.refl _ w).alloc (Nat.le_refl _) _
  have HB := Lib.hid (And.intro b0 B0)
  obtain ⟨C, hC⟩ : ∃ C, Hid (C = (l.map vb).toArray) := ⟨_, rfl⟩
  rw [← hC.out] at HB ⊢
  clear b0 B0
  go_enter Try.func26, Try.ntmps26
  go_wp2_with (first
    | ((with_reducible refine wpList_boxB (o := ⟨some 1, .box _ (.tmp 0), _, _, _, _⟩) (.tmp 0) (by with_unfolding_all rfl) (by with_unfolding_all rfl) (by with_unfolding_all rfl) ?_)))
  obtain ⟨b0, B0⟩ := HB.out
  go_loopw [3, 4] (fun v i wr => ∃ (k : Nat) (S : List UInt8), k ≤ 32 ∧ i = .int .i64 k ∧ v = .string ⟨S.toArray⟩ ∧ Hid (S = hexB (l.take k)) ∧ ArrB 36 wr w.heap.size l ∧ Below w.heap.size w wr) (fun _ i _ => 32 - (intOf i).toNat)
  case atStart => exact ⟨0, [], by omega, rfl, rfl, rfl, b0, B0⟩
  case round =>
    clear b0 B0
    obtain ⟨k, S, hk, rfl, rfl, HL, A1, B⟩ := hrel
    by_cases hlt : k < 32
    · have d1 : decide ((k : Int) < 32) = true := by simp; omega
      have hkl : k < l.length := by rw [HLL.out]; exact hlt
      have ik := fun W => arrB_index (T := 36) (n := 32) Try.underlying36 w.heap.size k hlt W
      have HLS : Hid (S ++ [digH (l[k].toNat / 16), digH (l[k].toNat % 16)] = hexB (l.take (k + 1))) := by rw [Hid, HL.out, List.take_succ_eq_append_getElem hkl, hexB_snoc]
      have HEK : Hid (∀ wx, ArrB 36 wx w.heap.size l → wx.cell? ⟨w.heap.size, k, none⟩ = some (vb l[k])) := fun wx h => h.cell k hkl
      generalize l[k] = x at HLS HEK
      have hx := b_lt x
      go_wp2_with fail
      go_loopw [3, 5] (fun v j wq => ∃ (m : Nat) (R : List UInt8), m ≤ 2 ∧ j = .int .i64 m ∧ v = .string ⟨R.toArray⟩ ∧ Hid (R = S ++ [digH (x.toNat / 16), digH (x.toNat % 16)].take m) ∧ ArrB 36 wq w.heap.size l ∧ Below w.heap.size w wq) (fun _ j _ => 2 - (intOf j).toNat)
      case atStart => exact ⟨0, S, by omega, rfl, rfl, by simp [Hid], A1, B⟩
      case round =>
        clear A1 B
        obtain ⟨m, R, hm, rfl, rfl, HR, A1, B⟩ := hrel
        by_cases hm2 : m < 2
        · have d2 : decide ((m : Int) < 2) = true := by simp; omega
          have ek := HEK.out _ A1
          have hR9 : R.length ≤ 1000 := by
            rw [HR.out, HL.out, List.length_append, List.length_take, hexB_len, List.length_take]; simp; omega
          have hm3 : m = 0 ∨ m = 1 := by omega
          rcases hm3 with rfl | rfl
          · by_cases h10 : (bDiv x (bI 16)).toNat < 10
            · have HZ : Hid (R ++ [digH (bDiv x (bI 16)).toNat] = S ++ [digH (x.toNat / 16), digH (x.toNat % 16)].take 1) := by rw [Hid, HR.out, bDiv_16]; simp
              have f1 := dig_lo _ h10
              have d3 : decide (((bDiv x (bI 16)).toNat : Int) < 10) = true := by simp; omega
              have cv := one_str wr (digH (bDiv x (bI 16)).toNat)
              have HA1 := Lib.hid (A1.stay ((Below.refl _ wr).alloc (Nat.le_refl _) (.cells #[.int .u8 ((digH (bDiv x (bI 16)).toNat).toNat : Int)] 5)))
              have HB1 := Lib.hid (B.trans ((Below.refl _ wr).alloc B.size (.cells #[.int .u8 ((digH (bDiv x (bI 16)).toNat).toNat : Int)] 5)))
              go_wp2_with fail
              go_roundw
              case rel => exact ⟨1, _, by omega, rfl, by rw [str_snoc], HZ, HA1.out, HB1.out⟩
              case measure => simp [intOf]
            · have HZ : Hid (R ++ [digH (bDiv x (bI 16)).toNat] = S ++ [digH (x.toNat / 16), digH (x.toNat % 16)].take 1) := by rw [Hid, HR.out, bDiv_16]; simp
              have h16 : (bDiv x (bI 16)).toNat < 16 := by rw [bDiv_16]; omega
              have f1 := dig_hi1 _ h10 h16
              have f2 := dig_hi2 _ h10 h16
              have d3 : decide (((bDiv x (bI 16)).toNat : Int) < 10) = false := by simp; omega
              clear h16
              have cv := one_str wr (digH (bDiv x (bI 16)).toNat)
              have HA1 := Lib.hid (A1.stay ((Below.refl _ wr).alloc (Nat.le_refl _) (.cells #[.int .u8 ((digH (bDiv x (bI 16)).toNat).toNat : Int)] 5)))
              have HB1 := Lib.hid (B.trans ((Below.refl _ wr).alloc B.size (.cells #[.int .u8 ((digH (bDiv x (bI 16)).toNat).toNat : Int)] 5)))
              go_wp2_with fail
              go_roundw
              case rel => exact ⟨1, _, by omega, rfl, by rw [str_snoc], HZ, HA1.out, HB1.out⟩
              case measure => simp [intOf]
          · by_cases h10 : (bMod x (bI 16)).toNat < 10
            · have HZ : Hid (R ++ [digH (bMod x (bI 16)).toNat] = S ++ [digH (x.toNat / 16), digH (x.toNat % 16)].take 2) := by rw [Hid, HR.out, bMod_16]; simp
              have f1 := dig_lo _ h10
              have d3 : decide (((bMod x (bI 16)).toNat : Int) < 10) = true := by simp; omega
              have cv := one_str wr (digH (bMod x (bI 16)).toNat)
              have HA1 := Lib.hid (A1.stay ((Below.refl _ wr).alloc (Nat.le_refl _) (.cells #[.int .u8 ((digH (bMod x (bI 16)).toNat).toNat : Int)] 5)))
              have HB1 := Lib.hid (B.trans ((Below.refl _ wr).alloc B.size (.cells #[.int .u8 ((digH (bMod x (bI 16)).toNat).toNat : Int)] 5)))
              go_wp2_with fail
              go_roundw
              case rel => exact ⟨2, _, by omega, rfl, by rw [str_snoc], HZ, HA1.out, HB1.out⟩
              case measure => simp [intOf]
            · have HZ : Hid (R ++ [digH (bMod x (bI 16)).toNat] = S ++ [digH (x.toNat / 16), digH (x.toNat % 16)].take 2) := by rw [Hid, HR.out, bMod_16]; simp
              have h16 : (bMod x (bI 16)).toNat < 16 := by rw [bMod_16]; omega
              have f1 := dig_hi1 _ h10 h16
              have f2 := dig_hi2 _ h10 h16
              have d3 : decide (((bMod x (bI 16)).toNat : Int) < 10) = false := by simp; omega
              clear h16
              have cv := one_str wr (digH (bMod x (bI 16)).toNat)
              have HA1 := Lib.hid (A1.stay ((Below.refl _ wr).alloc (Nat.le_refl _) (.cells #[.int .u8 ((digH (bMod x (bI 16)).toNat).toNat : Int)] 5)))
              have HB1 := Lib.hid (B.trans ((Below.refl _ wr).alloc B.size (.cells #[.int .u8 ((digH (bMod x (bI 16)).toNat).toNat : Int)] 5)))
              go_wp2_with fail
              go_roundw
              case rel => exact ⟨2, _, by omega, rfl, by rw [str_snoc], HZ, HA1.out, HB1.out⟩
              case measure => simp [intOf]
        · obtain rfl : m = 2 := by omega
          have d2 : decide (((2 : Nat) : Int) < 2) = false := by decide
          have HRT : Hid (R = hexB (l.take (k + 1))) := by rw [Hid, HR.out, ← HLS.out]; rfl
          go_wp2_with fail
          go_roundw
          case rel => exact ⟨k + 1, R, by omega, by go_num, rfl, HRT, A1, B⟩
          case measure => simp [intOf]; omega
    · have hk2 : k = 32 := by omega
      have d1 : decide ((k : Int) < 32) = false := by simp; omega
      have HS2 : Hid (S = hexB l) := by rw [Hid, HL.out, hk2, List.take_of_length_le (by rw [HLL.out]; omega)]
      clear hk2
      go_wp2_with fail
      go_ret
      exact ⟨by rw [← HS2.out]; rfl, B⟩
end Go.Proofs.Ytiemafgnpmoblaa

/- sha.Chain: walked. -/
namespace Go.Proofs.Ytiemafgnpmoblaa
open Go Go.RowKit Go.Cit

theorem sumB_len (b : List UInt8) : (sumB b).length = 32 := by unfold sumB; exact printB_len _
/-- The fingerprint of the first k rows. -/
def chN (ls : List (List UInt8)) : Nat → List UInt8
  | 0 => sumB []
  | k + 1 => sumB ((if k = 0 then [] else chN ls k) ++ ls.getD k [])
theorem chN_len (ls : List (List UInt8)) (k : Nat) : (chN ls k).length = 32 := by
  cases k <;> exact sumB_len _
theorem tag_all (g : Nat) (w : World) : (Instr.sliceAt 36 (.pointer (some ⟨g, 0, none⟩)) none none none).run Try.prog w = .ok (.slice (some ⟨g, 0, none⟩) 32 32) w := by
  have hT : Try.prog.underlying 36 = some (.array 32 5) := Try.underlying36
  have he : Try.prog.elem 36 = 5 := by simp [Program.elem, hT]
  have hl : Try.prog.arrayLen 36 = 32 := by simp [Program.arrayLen, hT]
  rw [run_sliceAt_array_all _ _ _ (by rw [he, hl]; exact hT), he, szB, hl]
  simp [Result.andThen, slicedAt, Addr.add]

set_option maxRecDepth 100000 in
set_option maxHeartbeats 4000000 in
theorem chain_calls (w : World) (a : Option Addr) (ds : List (Sl UInt8)) (c : Nat) (hr : Rows w a ds c) (hb : ∀ d ∈ ds, d.l.length ≤ 1000000) :
    Calls Try.prog 28 #[.slice a ds.length c] w fun e w' => e = .returned (.agg ((chN (ds.map (·.l)) ds.length).map vb).toArray) ∧ Below w.heap.size w w' := by
  obtain ⟨ls, hls⟩ : ∃ ls, Hid (ls = ds.map (·.l)) := ⟨_, rfl⟩
  rw [← hls.out]
  have HA := Lib.hid (fun ρ d ty ps af w => alloc_tag ρ d ty ps (af := af) w)
  obtain ⟨X, hX⟩ : ∃ Y, Hid (Y = ((List.replicate 32 (0 : UInt8)).map vb).toArray) := ⟨_, rfl⟩
  rw [← hX.out] at HA
  have HX : Hid (X.size = 32) := by rw [Hid, hX.out]; simp
  have B0 : Below w.heap.size w (w.alloc (.cells X 36)) := (Below.refl _ _).alloc (Nat.le_refl _) _
  have x0 : (w.alloc (.cells X 36)).heap[w.heap.size]? = some (.cells X 36 (0, 0)) := heap_alloc_new w _
  have HB0 := Lib.hid (And.intro x0 B0)
  have HBL := Lib.hid hb
  have HL9 := hr.len_le
  have HRW := Lib.hid hr
  have hS : Calls Try.prog 22 #[.slice none 0 0] (w.alloc (.cells X 36)) fun e w' => e = .returned (.agg ((sumB []).map vb).toArray) ∧ Below (w.alloc (.cells X 36)).heap.size (w.alloc (.cells X 36)) w' := sum_calls _ none [] 0 (Row.nil_ _) (by simp)
  have HS := Lib.hid hS
  clear B0 x0 hb hr hS
  go_enter Try.func28, Try.ntmps28
  go_wp2_with (first
    | ((with_reducible refine wpList_value (o := ⟨some 2, .alloc _, _, _, _, _⟩) (by with_unfolding_all rfl) (HA.out _ _ _ _ _ _) ?_)))
  refine HS.out.mono ?_
  rintro e w1 ⟨rfl, hb1⟩
  have hsz1 : w.heap.size < w1.heap.size := by have := hb1.size; simp at this; omega
  have x1 := (hb1.block _ (by simp)).trans HB0.out.1
  have B1 := HB0.out.2.trans (hb1.mono (by simp))
  have hn1 : (w1.alloc (.cells X 36)).heap[w1.heap.size]? = some (.cells X 36 (0, 0)) := heap_alloc_new _ _
  have HN1 := Lib.hid hn1
  obtain ⟨D, hD⟩ : ∃ D, Hid (D = ((sumB []).map vb).toArray) := ⟨_, rfl⟩
  rw [← hD.out]
  have HD : Hid (D.size = 32) := by rw [Hid, hD.out]; simpa using sumB_len []
  have HDo : Hid (D.all (·.oneCell') = true) := by rw [Hid, hD.out]; exact arrB_ok _
  have HX1 := Lib.hid x1
  clear hb1 hn1 x1
  go_wp2_with (first
    | ((with_reducible refine wpList_value (o := ⟨some 3, .alloc _, _, _, _, _⟩) (by with_unfolding_all rfl) (HA.out _ _ _ _ _ _) ?_))
    | ((with_reducible refine wpList_storeB (o := ⟨none, .store _ (.tmp 3) (.tmp 7), _, _, _, _⟩) row_tag (.tmp 3) (.tmp 7) (by with_unfolding_all rfl) (by with_unfolding_all rfl) (by with_unfolding_all rfl) (by with_unfolding_all rfl) (by with_unfolding_all rfl) HN1.out HX.out HD.out HDo.out ?_); intro w2 hb2 hS2; have HB2 := Lib.hid hb2; have HS2 := Lib.hid hS2; clear hb2 hS2))
  have hs2 := HS2.out.size
  rw [World.size_alloc] at hs2
  have hA2 : Below w1.heap.size w1 w2 := (((Below.refl _ w1).alloc (Nat.le_refl _) (.cells X 36))).trans (HS2.out.below (by simp) (fun j hj => by omega))
  have B2 := B1.trans (hA2.mono B1.size)
  have x2 := (hA2.block _ hsz1).trans HX1.out
  have A2 : ArrB 36 w2 w1.heap.size (chN (ds.map (·.l)) 0) := by have := HB2.out; rw [hD.out] at this; exact this
  clear HB2 HS2 hA2
  obtain ⟨t3, ht3⟩ : ∃ t, t = w1.heap.size := ⟨_, rfl⟩
  rw [← ht3] at A2 hs2 hsz1 ⊢
  clear ht3
  rw [← hls.out] at A2
  go_loopw [10] (fun i wr => ∃ (k : Nat), k ≤ ds.length ∧ i = .int .i64 k ∧ ArrB 36 wr t3 (chN ls k) ∧ wr.heap[w.heap.size]? = some (.cells X 36 (0, 0)) ∧ Below w.heap.size w wr) (fun i _ => ds.length - (intOf i).toNat)
  case atStart => exact ⟨0, Nat.zero_le _, rfl, A2, x2, B2⟩
  case round =>
    clear A2 x2 B2
    obtain ⟨k, hk, rfl, A, xr, B⟩ := hrel
    have hlt3 := A.lt
    by_cases hlt : k < ds.length
    · have d1 : decide (k < ds.length) = true := by simpa using hlt
      have hRr := HRW.out.stay B
      have i0 := hRr.index k hlt
      have e0 := hRr.cell k hlt
      have hrow := hRr.row ds[k] (List.getElem_mem hlt)
      have hdl := HBL.out ds[k] (List.getElem_mem hlt)
      have hget : ls.getD k [] = ds[k].l := by rw [hls.out]; simp [hlt]
      generalize ds[k] = d at e0 hrow hdl hget
      have HG := Lib.hid hget
      have tA := tag_all t3
      have hAr := A.row (by rw [chN_len]; decide)
      rw [chN_len] at hAr
      have hcl := chN_len ls k
      have HSZ : Hid (((chN ls k).map vb).toArray.size = 32) := by rw [Hid]; simp [chN_len]
      have HSZ' : Hid (((chN ls (k + 1)).map vb).toArray.size = 32) := by rw [Hid]; simp [chN_len]
      have HO' := Lib.hid (arrB_ok (chN ls (k + 1)))
      have HAX := Lib.hid A
      have HXR := Lib.hid xr
      clear hget hRr A xr
      by_cases hk0 : k = 0
      · subst hk0
        have i0' : ∀ w, (Instr.indexAt 46 (.slice a ds.length c) (.int .i64 0)).run Try.prog w = .ok (.pointer (some (ad a 0))) w := i0
        have d1' : decide ((0 : Int) < (ds.length : Int)) = true := by simp; omega
        have hc := cat2_calls wr 25 (Row.nil_ wr) hrow (by simp) (by omega)
        simp only [List.length_nil, List.nil_append] at hc
        have HC := Lib.hid hc
        have HCH : Hid (sumB d.l = chN ls (0 + 1)) := by rw [Hid, chN, if_pos rfl, HG.out, List.nil_append]
        clear hc hAr hcl
        go_wp2_with fail
        refine HC.out.mono ?_
        rintro e w3 ⟨a3, c3, rfl, hm3, hb3⟩
        have HS3 := Lib.hid (sum_calls w3 a3 d.l c3 hm3.row (by omega))
        have HA3 := Lib.hid (HAX.out.stay hb3)
        have HX3 : Hid (w3.heap[w.heap.size]? = some (.cells X 36 (0, 0))) := (hb3.block _ (by omega)).trans HXR.out
        have B3 := B.trans (hb3.mono B.size)
        clear hm3 hb3
        go_wp2_with fail
        refine HS3.out.mono ?_
        rintro e w4 ⟨rfl, hb4⟩
        rw [HCH.out]
        have HA4 : Hid (w4.heap[t3]? = some (.cells ((chN ls 0).map vb).toArray 36 (0, 0))) := HA3.out.stay hb4
        have HX4 : Hid (w4.heap[w.heap.size]? = some (.cells X 36 (0, 0))) := (hb4.block _ (Array.getElem?_eq_some_iff.1 HX3.out).1).trans HX3.out
        have B4 := B3.trans (hb4.mono B3.size)
        clear hb4 B3
        go_wp2_with (first
          | ((with_reducible refine wpList_storeB (o := ⟨none, .store _ (.tmp 3) (.tmp 22), _, _, _, _⟩) row_tag (.tmp 3) (.tmp 22) (by with_unfolding_all rfl) (by with_unfolding_all rfl) (by with_unfolding_all rfl) (by with_unfolding_all rfl) (by with_unfolding_all rfl) HA4.out HSZ.out HSZ'.out HO'.out ?_); intro w5 hb5 hS5; have HB5 := Lib.hid hb5; have HS5 := Lib.hid hS5; clear hb5 hS5))
        go_roundw
        case rel => exact ⟨0 + 1, by omega, by go_num, HB5.out, (HS5.out.block _ (Array.getElem?_eq_some_iff.1 HX4.out).1 (by omega)).trans HX4.out, B4.trans (HS5.out.below B4.size (fun j hj => by omega))⟩
        case measure => simp [intOf]; omega
      · have d2 : ((k : Int) == 0) = false := by rw [beq_eq_false_iff_ne]; omega
        have d2' : (k == 0) = false := by rw [beq_eq_false_iff_ne]; exact hk0
        have hc := cat2_calls wr 25 hAr hrow (by omega) (by omega)
        rw [hcl] at hc
        have HC := Lib.hid hc
        have HCH : Hid (sumB (chN ls k ++ d.l) = chN ls (k + 1)) := by rw [Hid, chN, if_neg hk0, HG.out]
        clear hc hAr hk0
        have HCL := Lib.hid hcl
        clear hcl
        go_wp2_with fail
        refine HC.out.mono ?_
        rintro e w3 ⟨a3, c3, rfl, hm3, hb3⟩
        obtain ⟨M, hM⟩ : ∃ M, Hid (M = chN ls k ++ d.l) := ⟨_, rfl⟩
        rw [← hM.out] at hm3 HCH ⊢
        have HML : M.length ≤ 10000000 := by rw [hM.out, List.length_append, HCL.out]; omega
        have HS3 := Lib.hid (sum_calls w3 a3 M c3 hm3.row HML)
        have HA3 := Lib.hid (HAX.out.stay hb3)
        have HX3 : Hid (w3.heap[w.heap.size]? = some (.cells X 36 (0, 0))) := (hb3.block _ (by omega)).trans HXR.out
        have B3 := B.trans (hb3.mono B.size)
        clear hm3 hb3
        go_wp2_with fail
        refine HS3.out.mono ?_
        rintro e w4 ⟨rfl, hb4⟩
        rw [HCH.out]
        have HA4 : Hid (w4.heap[t3]? = some (.cells ((chN ls k).map vb).toArray 36 (0, 0))) := HA3.out.stay hb4
        have HX4 : Hid (w4.heap[w.heap.size]? = some (.cells X 36 (0, 0))) := (hb4.block _ (Array.getElem?_eq_some_iff.1 HX3.out).1).trans HX3.out
        have B4 := B3.trans (hb4.mono B3.size)
        clear hb4 B3
        go_wp2_with (first
          | ((with_reducible refine wpList_storeB (o := ⟨none, .store _ (.tmp 3) (.tmp 22), _, _, _, _⟩) row_tag (.tmp 3) (.tmp 22) (by with_unfolding_all rfl) (by with_unfolding_all rfl) (by with_unfolding_all rfl) (by with_unfolding_all rfl) (by with_unfolding_all rfl) HA4.out HSZ.out HSZ'.out HO'.out ?_); intro w5 hb5 hS5; have HB5 := Lib.hid hb5; have HS5 := Lib.hid hS5; clear hb5 hS5))
        go_roundw
        case rel => exact ⟨k + 1, by omega, by go_num, HB5.out, (HS5.out.block _ (Array.getElem?_eq_some_iff.1 HX4.out).1 (by omega)).trans HX4.out, B4.trans (HS5.out.below B4.size (fun j hj => by omega))⟩
        case measure => simp [intOf]; omega
    · obtain rfl : k = ds.length := by omega
      have d1 : decide (ds.length < ds.length) = false := by simp
      obtain ⟨R, hR0⟩ : ∃ R, Hid (R = ((chN ls ds.length).map vb).toArray) := ⟨_, rfl⟩
      have HRs : Hid (R.size = 32) := by rw [Hid, hR0.out]; simp [chN_len]
      have HRo : Hid (R.all (·.oneCell') = true) := by rw [Hid, hR0.out]; exact arrB_ok _
      have HAX : Hid (wr.heap[t3]? = some (.cells R 36 (0, 0))) := by rw [hR0.out]; exact A
      have HXR := Lib.hid xr
      clear A xr
      go_wp2_with (first
        | ((with_reducible refine wpList_loadB (o := ⟨some 24, .load _ _, _, _, _, _⟩) row_tag (.tmp 3) (by with_unfolding_all rfl) (by with_unfolding_all rfl) (by with_unfolding_all rfl) HAX.out HRs.out ?_))
        | ((with_reducible refine wpList_storeB (o := ⟨none, .store _ (.tmp 2) (.tmp 24), _, _, _, _⟩) row_tag (.tmp 2) (.tmp 24) (by with_unfolding_all rfl) (by with_unfolding_all rfl) (by with_unfolding_all rfl) (by with_unfolding_all rfl) (by with_unfolding_all rfl) HXR.out HX.out HRs.out HRo.out ?_); intro w5 hb5 hS5; have HB5 := Lib.hid hb5; have HS5 := Lib.hid hS5; clear hb5 hS5))
      refine bodyPost_ret (resB1 row_tag rfl rfl HB5.out HRs.out) rfl ⟨?_, ?_⟩
      · rw [hR0.out]
      · exact B.trans (HS5.out.below B.size (fun j hj => by omega))
end Go.Proofs.Ytiemafgnpmoblaa

/- The reference's Chain: walked. -/
namespace Go.Proofs.Ytiemafgnpmoblaa
open Go Go.RowKit Go.Cit

theorem Rows.take_run {w : World} {a : Option Addr} {ds : List (Sl UInt8)} {cap : Nat} (h : Rows w a ds cap) (n : Nat) (hn : n ≤ ds.length) :
    (∀ w, (Instr.sliceAt 46 (.slice a ds.length cap) none (some (.int .i64 (n : Int))) none).run Try.prog w = .ok (.slice a n cap) w) ∧ Rows w a (ds.take n) cap := by
  have hT : Try.prog.underlying 46 = some (.slice 25) := Try.underlying46
  have he : Try.prog.elem 46 = 25 := by simp [Program.elem, hT]
  have hle := h.le
  refine ⟨fun w => ?_, by rw [List.length_take]; omega, h.top, h.nil, fun hne => h.spot (by intro h0; rw [h0] at hne; simp at hne), fun i hi => ?_, fun d hd => h.row d (List.mem_of_mem_take hd)⟩
  · rw [run_sliceAt_slice _ _ _ _ _ _ (by rw [he]; exact hT), run_slice_h w _ a _ _ (by rw [he]; exact hT) .i64 n (by omega) (by omega), he, szRow]
    cases a with
    | none => simp [Result.andThen, sliced]
    | some x => simp [Result.andThen, sliced, Addr.add]
  · have hi' : i < ds.length := by rw [List.length_take] at hi; omega
    rw [h.cell i hi']
    simp
theorem chN_take (ls : List (List UInt8)) (m : Nat) : ∀ k, k ≤ m → m ≤ ls.length → chN (ls.take m) k = chN ls k
  | 0, _, _ => rfl
  | k + 1, hk, hm => by
    have ih := chN_take ls m k (by omega) hm
    have hg : (ls.take m).getD k [] = ls.getD k [] := by
      have h1 : k < (ls.take m).length := by rw [List.length_take]; omega
      have h2 : k < ls.length := by omega
      simp [h2, show k < m by omega]
    rw [chN, chN, ih, hg]

set_option maxRecDepth 100000 in
set_option maxHeartbeats 4000000 in
theorem refchain_calls : ∀ (n : Nat) (w : World) (a : Option Addr) (ds : List (Sl UInt8)) (c : Nat), ds.length = n → n ≤ 1000000 → Rows w a ds c → (∀ d ∈ ds, d.l.length ≤ 1000000) →
    Calls Try.prog 29 #[.slice a ds.length c] w fun e w' => e = .returned (.agg ((chN (ds.map (·.l)) ds.length).map vb).toArray) ∧ Below w.heap.size w w' := by
  intro n
  induction n with
  | zero =>
    intro w a ds c hn _ hr hb
    obtain rfl : ds = [] := List.eq_nil_of_length_eq_zero hn
    have HA := Lib.hid (fun ρ d ty ps af w => alloc_tag ρ d ty ps (af := af) w)
    obtain ⟨X, hX⟩ : ∃ Y, Hid (Y = ((List.replicate 32 (0 : UInt8)).map vb).toArray) := ⟨_, rfl⟩
    rw [← hX.out] at HA
    have HX : Hid (X.size = 32) := by rw [Hid, hX.out]; simp
    have B0 : Below w.heap.size w (w.alloc (.cells X 36)) := (Below.refl _ _).alloc (Nat.le_refl _) _
    have x0 : (w.alloc (.cells X 36)).heap[w.heap.size]? = some (.cells X 36 (0, 0)) := heap_alloc_new w _
    have hS : Calls Try.prog 24 #[.slice none 0 0] (w.alloc (.cells X 36)) fun e w' => e = .returned (.agg ((sumB []).map vb).toArray) ∧ Below (w.alloc (.cells X 36)).heap.size (w.alloc (.cells X 36)) w' := refsum_calls _ none [] 0 (Row.nil_ _) (by simp)
    have HB0 := Lib.hid (And.intro x0 B0)
    have HS := Lib.hid hS
    clear x0 B0 hS hr hb
    show Calls Try.prog 29 #[.slice a 0 c] w _
    go_enter Try.func29, Try.ntmps29
    go_wp2_with (first
      | ((with_reducible refine wpList_value (o := ⟨some 2, .alloc _, _, _, _, _⟩) (by with_unfolding_all rfl) (HA.out _ _ _ _ _ _) ?_)))
    refine HS.out.mono ?_
    rintro e w1 ⟨rfl, hb1⟩
    have HX1 : Hid (w1.heap[w.heap.size]? = some (.cells X 36 (0, 0))) := (hb1.block _ (by simp)).trans HB0.out.1
    have B1 := HB0.out.2.trans (hb1.mono (by simp))
    obtain ⟨D, hD⟩ : ∃ D, Hid (D = ((sumB []).map vb).toArray) := ⟨_, rfl⟩
    rw [← hD.out]
    have HD : Hid (D.size = 32) := by rw [Hid, hD.out]; simpa using sumB_len []
    have HDo : Hid (D.all (·.oneCell') = true) := by rw [Hid, hD.out]; exact arrB_ok _
    clear hb1
    go_wp2_with (first
      | ((with_reducible refine wpList_storeB (o := ⟨none, .store _ (.tmp 2) (.tmp 8), _, _, _, _⟩) row_tag (.tmp 2) (.tmp 8) (by with_unfolding_all rfl) (by with_unfolding_all rfl) (by with_unfolding_all rfl) (by with_unfolding_all rfl) (by with_unfolding_all rfl) HX1.out HX.out HD.out HDo.out ?_); intro w5 hb5 hS5; have HB5 := Lib.hid hb5; have HS5 := Lib.hid hS5; clear hb5 hS5))
    refine bodyPost_ret (resB1 row_tag rfl rfl HB5.out HD.out) rfl ⟨?_, ?_⟩
    · rw [hD.out]; rfl
    · exact B1.trans (HS5.out.below B1.size (fun j hj => by omega))
  | succ n ih =>
    intro w a ds c hn hn9 hr hb
    have HIH := Lib.hid ih
    clear ih
    obtain ⟨ls, hls⟩ : ∃ ls, Hid (ls = ds.map (·.l)) := ⟨_, rfl⟩
    rw [← hls.out]
    have HLS : Hid (ls.length = n + 1) := by rw [Hid, hls.out, List.length_map, hn]
    have HA := Lib.hid (fun ρ d ty ps af w => alloc_tag ρ d ty ps (af := af) w)
    obtain ⟨X, hX⟩ : ∃ Y, Hid (Y = ((List.replicate 32 (0 : UInt8)).map vb).toArray) := ⟨_, rfl⟩
    rw [← hX.out] at HA
    have HX : Hid (X.size = 32) := by rw [Hid, hX.out]; simp
    have B0 : Below w.heap.size w (w.alloc (.cells X 36)) := (Below.refl _ _).alloc (Nat.le_refl _) _
    have x0 : (w.alloc (.cells X 36)).heap[w.heap.size]? = some (.cells X 36 (0, 0)) := heap_alloc_new w _
    have HR0 := Lib.hid (hr.stay B0)
    have HB0 := Lib.hid (And.intro x0 B0)
    have HBL := Lib.hid hb
    have HN := Lib.hid hn
    have hget : ls.getD n [] = (ds[n]'(by omega)).l := by rw [hls.out]; simp [hn]
    have hrow := HR0.out.row ds[n] (List.getElem_mem _)
    have hdl := hb ds[n] (List.getElem_mem _)
    have i0 := HR0.out.index n (by omega)
    have e0 := HR0.out.cell n (by omega)
    rw [hn] at i0 ⊢
    generalize ds[n]'(by omega) = d at e0 hrow hdl hget
    have HG := Lib.hid hget
    have nz : (((n + 1 : Nat) : Int) == 0) = false := by rw [beq_eq_false_iff_ne]; omega
    have nz2 : (((n : Int) + 1) == 0) = false := by rw [beq_eq_false_iff_ne]; omega
    have lw : IntKind.i64.wrap (((n + 1 : Nat) : Int) - 1) = (n : Int) := by rw [show ((n + 1 : Nat) : Int) - 1 = (n : Int) by omega]; exact IntWalk.i64_in _ (by omega)
    have HI0 := Lib.hid i0
    have HE0 := Lib.hid e0
    clear x0 B0 hr hb hget hn e0
    by_cases hn0 : n = 0
    · subst hn0
      have i0' : ∀ w, (Instr.indexAt 46 (.slice a 1 c) (.int .i64 0)).run Try.prog w = .ok (.pointer (some (ad a 0))) w := HI0.out
      have e0 := HE0.out
      have HS := Lib.hid (refsum_calls _ d.a d.l d.c hrow (by omega))
      have HCH : Hid (sumB d.l = chN ls 1) := by rw [Hid, chN, if_pos rfl, HG.out, List.nil_append]
      clear nz nz2 lw i0 hrow
      show Calls Try.prog 29 #[.slice a 1 c] w _
      go_enter Try.func29, Try.ntmps29
      go_wp2_with (first
        | ((with_reducible refine wpList_value (o := ⟨some 2, .alloc _, _, _, _, _⟩) (by with_unfolding_all rfl) (HA.out _ _ _ _ _ _) ?_)))
      refine HS.out.mono ?_
      rintro e w1 ⟨rfl, hb1⟩
      have HX1 : Hid (w1.heap[w.heap.size]? = some (.cells X 36 (0, 0))) := (hb1.block _ (by simp)).trans HB0.out.1
      have B1 := HB0.out.2.trans (hb1.mono (by simp))
      obtain ⟨D, hD⟩ : ∃ D, Hid (D = ((sumB d.l).map vb).toArray) := ⟨_, rfl⟩
      rw [← hD.out]
      have HD : Hid (D.size = 32) := by rw [Hid, hD.out]; simpa using sumB_len d.l
      have HDo : Hid (D.all (·.oneCell') = true) := by rw [Hid, hD.out]; exact arrB_ok _
      clear hb1
      go_wp2_with (first
        | ((with_reducible refine wpList_storeB (o := ⟨none, .store _ (.tmp 2) (.tmp 17), _, _, _, _⟩) row_tag (.tmp 2) (.tmp 17) (by with_unfolding_all rfl) (by with_unfolding_all rfl) (by with_unfolding_all rfl) (by with_unfolding_all rfl) (by with_unfolding_all rfl) HX1.out HX.out HD.out HDo.out ?_); intro w5 hb5 hS5; have HB5 := Lib.hid hb5; have HS5 := Lib.hid hS5; clear hb5 hS5))
      refine bodyPost_ret (resB1 row_tag rfl rfl HB5.out HD.out) rfl ⟨?_, ?_⟩
      · rw [hD.out, HCH.out]
      · exact B1.trans (HS5.out.below B1.size (fun j hj => by omega))
    · have z1 : ((n : Int) == 0) = false := by rw [beq_eq_false_iff_ne]; omega
      obtain ⟨hrun, hRt⟩ := HR0.out.take_run n (by have := HN.out; omega)
      rw [HN.out] at hrun
      have htl : (ds.take n).length = n := by rw [List.length_take]; have := HN.out; omega
      have hch := HIH.out _ a (ds.take n) c htl (by omega) hRt (fun d hd => HBL.out d (List.mem_of_mem_take hd))
      rw [htl] at hch
      have hmt : (ds.take n).map (·.l) = ls.take n := by rw [hls.out, List.map_take]
      rw [hmt, chN_take ls n n (Nat.le_refl _) (by have := HLS.out; omega)] at hch
      have HCH0 := Lib.hid hch
      clear hmt htl hch hRt
      show Calls Try.prog 29 #[.slice a (n + 1) c] w _
      go_enter Try.func29, Try.ntmps29
      go_wp2_with (first
        | ((with_reducible refine wpList_value (o := ⟨some 2, .alloc _, _, _, _, _⟩) (by with_unfolding_all rfl) (HA.out _ _ _ _ _ _) ?_)))
      refine HCH0.out.mono ?_
      rintro e w1 ⟨rfl, hb1⟩
      have hsz1 : w.heap.size < w1.heap.size := by have := hb1.size; simp at this; omega
      have HX1 : Hid (w1.heap[w.heap.size]? = some (.cells X 36 (0, 0))) := (hb1.block _ (by simp)).trans HB0.out.1
      have B1 := HB0.out.2.trans (hb1.mono (by simp))
      have e1 := (hb1.cell (World.block_lt_of_cell? _ _ HE0.out)).trans HE0.out
      have hrow1 := hrow.stay hb1
      obtain ⟨D, hD⟩ : ∃ D, Hid (D = ((chN ls n).map vb).toArray) := ⟨_, rfl⟩
      rw [← hD.out]
      have HD : Hid (D.size = 32) := by rw [Hid, hD.out]; simpa using chN_len ls n
      have HDo : Hid (D.all (·.oneCell') = true) := by rw [Hid, hD.out]; exact arrB_ok _
      have hn1 : (w1.alloc (.cells X 36)).heap[w1.heap.size]? = some (.cells X 36 (0, 0)) := heap_alloc_new _ _
      have HN1 := Lib.hid hn1
      have HE1 := Lib.hid e1
      clear hb1 hn1 e1 hrow
      go_wp2_with (first
        | ((with_reducible refine wpList_value (o := ⟨some 4, .alloc _, _, _, _, _⟩) (by with_unfolding_all rfl) (HA.out _ _ _ _ _ _) ?_))
        | ((with_reducible refine wpList_storeB (o := ⟨none, .store _ (.tmp 4) (.tmp 21), _, _, _, _⟩) row_tag (.tmp 4) (.tmp 21) (by with_unfolding_all rfl) (by with_unfolding_all rfl) (by with_unfolding_all rfl) (by with_unfolding_all rfl) (by with_unfolding_all rfl) HN1.out HX.out HD.out HDo.out ?_); intro w2 hb2 hS2; have HB2 := Lib.hid hb2; have HS2 := Lib.hid hS2; clear hb2 hS2))
      have hs2 := HS2.out.size
      rw [World.size_alloc] at hs2
      have hA2 : Below w1.heap.size w1 w2 := (((Below.refl _ w1).alloc (Nat.le_refl _) (.cells X 36))).trans (HS2.out.below (by simp) (fun j hj => by omega))
      have B2 := B1.trans (hA2.mono B1.size)
      have HX2 : Hid (w2.heap[w.heap.size]? = some (.cells X 36 (0, 0))) := (hA2.block _ hsz1).trans HX1.out
      have A2 : ArrB 36 w2 w1.heap.size (chN ls n) := by have := HB2.out; rw [hD.out] at this; exact this
      have hrow2 := hrow1.stay hA2
      have e2 : ∀ k, ({ w2 with drawn := k } : World).cell? (ad a n) = some (.slice d.a d.l.length d.c) := fun _ => (hA2.cell (World.block_lt_of_cell? _ _ HE1.out)).trans HE1.out
      clear HB2 HS2 hA2 hrow1
      obtain ⟨t4, ht4⟩ : ∃ t, t = w1.heap.size := ⟨_, rfl⟩
      rw [← ht4] at A2 hs2 hsz1 ⊢
      clear ht4
      have tA := tag_all t4
      have i0' : ∀ w, (Instr.indexAt 46 (.slice a (n + 1) c) (.int .i64 (n : Int))).run Try.prog w = .ok (.pointer (some (ad a n))) w := HI0.out
      clear i0
      go_still_tail 5, (by kernel_rfl)
      change wpList _ _ _ _ _ w2.drew
      have Bd : Below w.heap.size w w2.drew := B2.trans (below_drewN _ _ 1)
      have HXd : Hid (w2.drew.heap[w.heap.size]? = some (.cells X 36 (0, 0))) := HX2.out
      have hAr : Row w2.drew (some ⟨t4, 0, none⟩) (chN ls n) 32 := by
        have := (A2.row (by rw [chN_len]; decide)).drewN 1
        rwa [chN_len] at this
      have hrd : Row w2.drew d.a d.l d.c := hrow2.drewN 1
      have hsd : w.heap.size < w2.drew.heap.size := by show w.heap.size < w2.heap.size; omega
      generalize w2.drew = W at Bd HXd hAr hrd hsd ⊢
      have hc := refcat_calls W _ _ (chN ls n) d.l _ _ hAr hrd (by rw [chN_len]; decide) (by omega)
      rw [chN_len] at hc
      have HC := Lib.hid hc
      have HCH : Hid (sumB (chN ls n ++ d.l) = chN ls (n + 1)) := by rw [Hid, chN, if_neg hn0, HG.out]
      clear hc A2 e2 hrow2 B2 HX2
      go_wp2_with fail
      refine HC.out.mono ?_
      rintro e w3 ⟨a3, c3, rfl, hO3, hb3⟩
      obtain ⟨M, hM⟩ : ∃ M, Hid (M = chN ls n ++ d.l) := ⟨_, rfl⟩
      rw [← hM.out] at hO3 HCH ⊢
      have HML : M.length ≤ 10000000 := by rw [hM.out, List.length_append, chN_len]; omega
      have HS3 := Lib.hid (refsum_calls w3 a3 M c3 hO3.isRow HML)
      have HX3 : Hid (w3.heap[w.heap.size]? = some (.cells X 36 (0, 0))) := (hb3.block _ hsd).trans HXd.out
      have B3 := Bd.trans (hb3.mono Bd.size)
      clear hO3 hb3
      go_wp2_with fail
      refine HS3.out.mono ?_
      rintro e w4 ⟨rfl, hb4⟩
      obtain ⟨F, hF⟩ : ∃ F, Hid (F = ((sumB M).map vb).toArray) := ⟨_, rfl⟩
      rw [← hF.out]
      have HF : Hid (F.size = 32) := by rw [Hid, hF.out]; simpa using sumB_len M
      have HFo : Hid (F.all (·.oneCell') = true) := by rw [Hid, hF.out]; exact arrB_ok _
      have HX4 : Hid (w4.heap[w.heap.size]? = some (.cells X 36 (0, 0))) := (hb4.block _ (Array.getElem?_eq_some_iff.1 HX3.out).1).trans HX3.out
      have B4 := B3.trans (hb4.mono B3.size)
      clear hb4 B3
      go_wp2_with (first
        | ((with_reducible refine wpList_storeB (o := ⟨none, .store _ (.tmp 2) (.tmp 28), _, _, _, _⟩) row_tag (.tmp 2) (.tmp 28) (by with_unfolding_all rfl) (by with_unfolding_all rfl) (by with_unfolding_all rfl) (by with_unfolding_all rfl) (by with_unfolding_all rfl) HX4.out HX.out HF.out HFo.out ?_); intro w5 hb5 hS5; have HB5 := Lib.hid hb5; have HS5 := Lib.hid hS5; clear hb5 hS5))
      refine bodyPost_ret (resB1 row_tag rfl rfl HB5.out HF.out) rfl ⟨?_, ?_⟩
      · rw [hF.out, HCH.out]
      · exact B4.trans (HS5.out.below B4.size (fun j hj => by omega))
end Go.Proofs.Ytiemafgnpmoblaa

/- Slices of rows of one's own; such an argument opened. -/
namespace Go.Proofs.Ytiemafgnpmoblaa
open Go Go.RowKit Go.Cit

@[reducible] def sf (d : Sl UInt8) : List Value := [sv d]
theorem sf_len : ∀ d, (sf d).length = 1 := fun _ => rfl
theorem sf_one : ∀ d, ∀ u ∈ sf d, u.oneCell' = true := by intro d u hu; obtain rfl : u = sv d := by simpa using hu
                                                          rfl
@[reducible] def nilD : Sl UInt8 := ⟨none, 0, []⟩
theorem rowsT : ElemType Try.prog 46 25 1 24 (sv nilD) := ⟨Try.underlying46, infoRow, szRow, rfl, by decide, by decide⟩
theorem rows_vec {w : World} {a : Option Addr} {ds : List (Sl UInt8)} {c : Nat} (h : Vec sf 1 w a ds c) (hr : ∀ d ∈ ds, Row w d.a d.l d.c) : Rows w a ds c :=
  ⟨h.le, h.top, h.nil, h.spot, fun i hi => h.cell1 (v := sv) i hi, hr⟩
theorem Rows.vec {w : World} {a : Option Addr} {ds : List (Sl UInt8)} {c : Nat} (h : Rows w a ds c) : Vec sf 1 w a ds c := Vec.of1 (v := sv) h.le h.top h.nil h.spot h.cell
theorem rows_of {w : World} {d : Sl (Sl UInt8)} (h : (Sh.slice .bytes).ok w d) : Rows w d.a d.l d.c := by
  obtain ⟨h1, h2, h3, h4, h5⟩ := h
  refine ⟨h1, by unfold maxLen; omega, h3, h4, fun i hi => ?_, fun x hx => ?_⟩
  · have := (h5 i hi).1 0 (by decide)
    simpa [Sh.size, Sh.enc] using this
  · obtain ⟨i, hi, rfl⟩ := List.mem_iff_getElem.1 hx
    exact (h5 i hi).2.1
theorem rows_caps {w : World} {d : Sl (Sl UInt8)} (h : (Sh.slice .bytes).ok w d) : ∀ x ∈ d.l, x.l.length ≤ 140737488351232 := by
  intro x hx
  obtain ⟨i, hi, rfl⟩ := List.mem_iff_getElem.1 hx
  have := (h.2.2.2.2 i hi).2
  exact Nat.le_trans this.1.le this.2
/-- The bytes of all rows. -/
def totB (ds : List (Sl UInt8)) : Nat := (ds.map fun d => d.l.length).sum
theorem totB_take (ds : List (Sl UInt8)) (k : Nat) (h : k < ds.length) : totB (ds.take (k + 1)) = totB (ds.take k) + ds[k].l.length := by
  rw [totB, totB, List.take_succ_eq_append_getElem h, List.map_append, List.sum_append]; simp
theorem totB_one : ∀ (ds : List (Sl UInt8)), ∀ d ∈ ds, d.l.length ≤ totB ds
  | [], d, h => by simp at h
  | x :: ds, d, h => by
    have e : totB (x :: ds) = x.l.length + totB ds := by simp [totB]
    rcases List.mem_cons.1 h with rfl | h
    · omega
    · have := totB_one ds d h; omega
theorem totB_le : ∀ (ds : List (Sl UInt8)) (m : Nat), (∀ d ∈ ds, d.l.length ≤ m) → totB ds ≤ ds.length * m
  | [], m, _ => by simp [totB]
  | x :: ds, m, h => by
    have e : totB (x :: ds) = x.l.length + totB ds := by simp [totB]
    have h1 := h x (by simp)
    have h2 := totB_le ds m (fun d hd => h d (by simp [hd]))
    rw [e, List.length_cons, Nat.succ_mul]; omega
end Go.Proofs.Ytiemafgnpmoblaa

