/- The reference's Tail, Sum: walked. -/
import Derived.Test.YtiemafgnpmoblaaRefShaE
import Derived.Test.YtiemafgnpmoblaaRefShaP
import Derived.Test.YtiemafgnpmoblaaRefCat
import Derived.Test.YtiemafgnpmoblaaShaSum
namespace Go.Proofs.Ytiemafgnpmoblaa
open Go Go.RowKit Go.Cit

theorem tail_num (n : Nat) : qOfI (8 * (n : Int)) = qMul (qI 8) (qOfI n) := by
  apply UInt64.toNat_inj.1
  have h1 : ((qOfI (8 * (n : Int))).toNat : Int) = (8 * (n : Int)) % 18446744073709551616 := qOfI_nat _
  have h2 : ((qOfI (n : Int)).toNat : Int) = (n : Int) % 18446744073709551616 := qOfI_nat _
  have h3 : ((qI 8).toNat : Int) = 8 := qI_nat 8 (by decide) (by decide)
  have h4 : (qMul (qI 8) (qOfI (n : Int))).toNat = (qI 8).toNat * (qOfI (n : Int)).toNat % 18446744073709551616 := by unfold qMul; rw [UInt64.toNat_mul]
  have h5 : (qI 8).toNat = 8 := by omega
  rw [h4, h5]
  omega
section
variable {P : Program} {T E : TypeId}
theorem wp_append_boxc (hBT : ByteTypes P T E) {w0 : World} {ops : Array Oper} {rest : List Oper} {o : Oper} {act : Act} {Q : Exit → Act → World → Prop} (s x : Operand) (hgd : o.guard = none)
    (ho : o.op = .call { callee := .builtin .append, args := #[s, x], argTypes := #[T, T] }) {base : Nat} {cs : Array Value}
    {a : Option Addr} {l : List UInt8} {cap : Nat} {b : UInt8} (hcs : cs = #[vb b]) (hown : Cit.Own E base w0 a l cap) (hlen : l.length ≤ 1000000000) (hbase : base ≤ w0.heap.size)
    (hs : act.eval s = .slice a l.length cap) (hx : act.eval x = .slice (some ⟨w0.heap.size, 0, none⟩) 1 1)
    (h : ∀ a' cap' w', Cit.Own E base w' a' (l ++ [b]) cap' → w0.grownBy w' (Cit.blk a) → wpList P ops Q rest (act.put o.dst (.slice a' (l ++ [b]).length cap')) w') : wpList P ops Q (o :: rest) act (w0.alloc (.cells cs E)) := by
  subst hcs; exact wp_append_box hBT s x hgd ho hown hlen hbase hs hx h
end
theorem seven_zero (z : Nat) : (List.replicate z (0 : UInt8)) ++ [0] = List.replicate (z + 1) 0 := by rw [List.replicate_succ']

set_option maxRecDepth 100000 in
set_option maxHeartbeats 2000000 in
theorem reftail_calls (w : World) (n : Nat) (hn : n ≤ 100000000) :
    Calls Try.prog 27 #[.int .i64 n] w fun e w' => ∃ a c, e = .returned (.slice a (tailB n).length c) ∧ Cit.Own 5 w.heap.size w' a (tailB n) c ∧ Below w.heap.size w w' := by
  obtain ⟨z, hz⟩ : ∃ z, Hid (z = (119 - n % 64) % 64) := ⟨_, rfl⟩
  have hz1 : z ≤ 63 := by rw [hz.out]; omega
  have hz2 : (n + z + 9) % 64 = 0 := by rw [hz.out]; omega
  have hz3 : ∀ j, j < z → (n + j + 9) % 64 ≠ 0 := fun j hj => by rw [hz.out] at hj; omega
  have HZ := Lib.hid (And.intro hz2 hz3)
  clear hz2 hz3
  have B0 : Below w.heap.size w (w.alloc (.cells #[vb 128] 5)) := (Below.refl _ _).alloc (Nat.le_refl _) _
  have O0 := own_lit w #[vb 128] 5 [128] rfl (by decide)
  have HB := Lib.hid (And.intro B0 O0)
  clear B0 O0
  go_enter Try.func27, Try.ntmps27
  go_wp2_with fail
  obtain ⟨B0, O0⟩ := HB.out
  go_loopw [3] (fun v wr => ∃ (j : Nat) (a : Option Addr) (c : Nat) (L : List UInt8), j ≤ z ∧ v = .slice a L.length c ∧ Hid (L = 128 :: List.replicate j 0) ∧ Cit.Own 5 w.heap.size wr a L c ∧ Below w.heap.size w wr) (fun v _ => 200 - (match v with | .slice _ n _ => n | _ => 0))
  case atStart => exact ⟨0, _, _, [128], Nat.zero_le _, rfl, rfl, O0, B0⟩
  case round =>
    clear O0 B0
    obtain ⟨j, a, c, L, hj, rfl, HL, hO, B⟩ := hrel
    have HLL : Hid (L.length = j + 1) := by rw [Hid, HL.out]; simp
    have hL9 : L.length ≤ 64 := by rw [HLL.out]; omega
    by_cases hlt : j < z
    · have d1 : (((n : Int) + (L.length : Int) + 8) % 64 != 0) = true := by
        rw [bne_iff_ne]; have := HZ.out.2 j hlt; rw [HLL.out]; omega
      have h9 : L.length ≤ 1000000000 := by omega
      have HLS : Hid (L ++ [0] = 128 :: List.replicate (j + 1) 0) := by rw [Hid, HL.out, List.cons_append, seven_zero]
      go_wp2_with (first
        | ((with_reducible refine wp_append_boxc (o := ⟨some 14, .call _, _, _, _, _⟩) bt (.tmp 12) (.tmp 13) (by with_unfolding_all rfl) (by with_unfolding_all rfl) (b := 0) (by with_unfolding_all rfl) hO h9 B.size (by with_unfolding_all rfl) (by with_unfolding_all rfl) ?_); intro a2 c2 w2 hO2 hg2; have HO2 := Lib.hid hO2; have HB2 := Lib.hid (B.trans (grown_below hg2 B.size (fun k hk => (hO.blk_ge hk).1))); clear hO2 hg2))
      go_roundw
      case rel => exact ⟨j + 1, _, _, _, by omega, by simp, HLS, HO2.out, HB2.out⟩
      case measure => simp; omega
    · have hjz : j = z := by omega
      have d1 : (((n : Int) + (L.length : Int) + 8) % 64 != 0) = false := by
        rw [bne_eq_false_iff_eq]; have := HZ.out.1; rw [HLL.out]; omega
      have HT : Hid (L ++ rowB (qMul (qI 8) (qOfI n)) 8 = tailB n) := by rw [Hid, HL.out, hjz, hz.out]; rfl
      have HNU := Lib.hid (tail_num n)
      clear hjz
      go_wp2_with fail
      have hq : (8 * (n : Int)) = ((qMul (qI 8) (qOfI n)).toNat : Int) := by
        have := qOfI_nat (8 * (n : Int)); rw [HNU.out] at this; omega
      have hp : Calls Try.prog 54 #[.int .u64 ((qMul (qI 8) (qOfI n)).toNat : Int), .int .i64 8] wr _ := refput_calls wr (qMul (qI 8) (qOfI n)) 8 (by decide)
      rw [← hq] at hp
      refine hp.mono ?_
      rintro e w2 ⟨a2, c2, rfl, hO2, hb2⟩
      have hO1 := hO.isRow.stay hb2
      have hr2 := hO2.isRow
      have hlr : (rowB (qMul (qI 8) (qOfI n)) 8).length = 8 := rowB_length _ _
      have B2 := B.trans (hb2.mono B.size)
      have hc := refcat_calls w2 a a2 L (rowB (qMul (qI 8) (qOfI n)) 8) c c2 hO1 hr2 (by omega) (by omega)
      rw [hlr, HT.out] at hc
      have HC := Lib.hid hc
      clear hq hp hc hlr hr2 hO1 hO2 hb2 hO
      go_wp2_with fail
      refine HC.out.mono ?_
      rintro e w3 ⟨a3, c3, rfl, hO3, hb3⟩
      have HO3 := Lib.hid hO3
      have HB3 := Lib.hid (B2.trans (hb3.mono B2.size))
      clear hO3 hb3
      go_wp2_with fail
      go_ret
      exact ⟨a3, c3, rfl, ⟨(HO3.out.low B2.size).row⟩, HB3.out⟩
end Go.Proofs.Ytiemafgnpmoblaa
