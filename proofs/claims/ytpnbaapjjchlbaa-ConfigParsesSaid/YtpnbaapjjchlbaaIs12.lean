/- Chapter 12's law: is, shown: walked. -/
import Derived.Test.YtpnbaapjjchlbaaCopied
namespace Go.Proofs.Ytpnbaapjjchlbaa
open Go Go.RowKit Go.Cit

set_option maxRecDepth 100000 in
set_option maxHeartbeats 2000000 in
theorem is_calls (w : World) (V : CfgV) (h : V.At w) (hs : SmallV V) (a : Option Addr) (M : List Int) (c : Nat) (hm : Vec cZ 1 w a M c) : Calls Try.prog 27 #[.agg #[.slice V.wa V.ws.length V.wc, .slice V.pa V.ps.length V.pc, .slice V.ca V.cs.length V.cc], .slice a M.length c] w fun e w' => e = .returned (.bool (decide (errs V = M))) ∧ Below w.heap.size w w' := by
  have B0 : Below w.heap.size w (w.alloc (.cells #[.slice V.wa V.ws.length V.wc, .slice V.pa V.ps.length V.pc, .slice V.ca V.cs.length V.cc] 26)) := (Below.refl _ w).alloc (Nat.le_refl _) _
  have HC := Lib.hid (vall_calls _ V (h.stay B0) hs)
  have HM := Lib.hid (hm.stay cZ_len B0)
  have HB0 := Lib.hid B0
  have hml := hm.len_le
  have HE := Lib.hid (errs_len V)
  obtain ⟨L, hL⟩ : ∃ L, Hid (L = errs V) := ⟨_, rfl⟩
  rw [← hL.out] at HC HE ⊢
  obtain ⟨R, HR⟩ : ∃ R, Hid (R = decide (L = M)) := ⟨_, rfl⟩
  rw [← HR.out]
  clear h hm B0
  by_cases hl : L.length = M.length
  · have t1 : ((L.length : Int) != (M.length : Int)) = false := by rw [hl]; simp
    have HL := Lib.hid hl
    clear hl
    go_enter Try.func27, Try.ntmps27
    go_wp2_with fail
    refine (HC.out).mono ?_
    rintro e w2 ⟨a1, d1, rfl, hO, hb2⟩
    have hv := Lib.hid (hO.vec cZ_len)
    have hm2 := Lib.hid (HM.out.stay cZ_len hb2)
    have HB2 := Lib.hid (HB0.out.trans (hb2.mono HB0.out.size))
    have hl1 := (hO.vec cZ_len).len_le
    clear hO hb2
    go_wp2_with fail
    go_loopw [6] (fun s wr => ∃ k : Nat, s = .int .i64 k ∧ k ≤ L.length ∧ Hid (L.take k = M.take k) ∧ Below w2.heap.size w2 wr) (fun s _ => L.length - (intOf s).toNat)
    case atStart => exact ⟨0, rfl, Nat.zero_le _, rfl, Below.refl _ _⟩
    case round =>
      obtain ⟨k, rfl, hk, HT, B⟩ := hrel
      by_cases hlt : k < L.length
      · have hlt' : k < M.length := by have := HL.out; omega
        have i0 := hv.out.index etE k hlt
        have i1 := hm2.out.index etE k hlt'
        have q0 : ∀ q : After wr, q.to.cell? (ad a1 (k * 1)) = some (.int .i64 L[k]) := fun q => ((hv.out.stay cZ_len (B.trans (q.bel.mono B.size))).field0 k hlt (by decide) rfl)
        have q1 : ∀ q : After wr, q.to.cell? (ad a (k * 1)) = some (.int .i64 M[k]) := fun q => ((hm2.out.stay cZ_len (B.trans (q.bel.mono B.size))).field0 k hlt' (by decide) rfl)
        rw [Nat.mul_one] at i0 i1
        simp only [Nat.mul_one] at q0 q1
        have HN := Lib.hid (take_next L M k hlt hlt' HT.out)
        have HG : Hid (L = M → L[k] = M[k]) := fun h => List.getElem_of_eq h hlt
        obtain ⟨x, hx⟩ : ∃ x, x = L[k] := ⟨_, rfl⟩
        obtain ⟨y, hy⟩ : ∃ y, y = M[k] := ⟨_, rfl⟩
        rw [← hx] at q0 HN HG
        rw [← hy] at q1 HN HG
        clear hx hy
        by_cases hq : x = y
        · have HN2 := Lib.hid (HN.out hq)
          have t2 : (x != y) = false := by rw [hq]; simp
          clear hq
          go_wp2_with fail
          refine wp_region_after (by kernel_rfl) (by kernel_rfl) ?_
          iterate 9
            refine wq_step (fun K hK => ?_)
            go_simp
            refine hK _ ?_
            clear hK K
          refine wq_nil ?_
          intro _ hw'
          obtain ⟨⟨w3, hb3⟩, hw'⟩ := hw'
          subst hw'
          go_wp2_with fail
          go_roundw
          case rel => exact ⟨k + 1, by go_num, by omega, HN2.out, B.trans (hb3.mono B.size)⟩
          case measure => simp [intOf]; omega
        · have HF : Hid (R = false) := by rw [Hid, HR.out, decide_eq_false_iff_not]; intro h; exact hq (HG.out h)
          go_wp2_with fail
          refine wp_region_after (by kernel_rfl) (by kernel_rfl) ?_
          iterate 9
            refine wq_step (fun K hK => ?_)
            go_simp
            refine hK _ ?_
            clear hK K
          refine wq_nil ?_
          intro _ hw'
          obtain ⟨⟨w3, hb3⟩, hw'⟩ := hw'
          subst hw'
          go_wp2_with fail
          go_ret
          exact ⟨ret_bool HF.out.symm, HB2.out.trans ((B.trans (hb3.mono B.size)).mono HB2.out.size)⟩
      · have hk2 : k = L.length := by omega
        have HF : Hid (R = true) := by
          have := HT.out
          rw [hk2, List.take_length, HL.out, List.take_length] at this
          rw [Hid, HR.out, decide_eq_true this]
        clear hk2
        go_wp2_with fail
        go_ret
        exact ⟨ret_bool HF.out.symm, HB2.out.trans (B.mono HB2.out.size)⟩
  · have HF : Hid (R = false) := by rw [Hid, HR.out, decide_eq_false_iff_not]; intro h; exact hl (by rw [h])
    have t1 : ((L.length : Int) != (M.length : Int)) = true := by rw [bne_iff_ne]; omega
    clear hl
    go_enter Try.func27, Try.ntmps27
    go_wp2_with fail
    refine (HC.out).mono ?_
    rintro e w2 ⟨a1, d1, rfl, hO, hb2⟩
    have HB2 := Lib.hid (HB0.out.trans (hb2.mono HB0.out.size))
    clear hO hb2
    go_wp2_with fail
    go_ret
    exact ⟨ret_bool HF.out.symm, HB2.out⟩

def win21 : Win := ⟨⟨2, by decide⟩, ⟨1, by decide⟩⟩
def ptv1 (id base size : I64) (img : List UInt8) (a : Option Addr) (c : Nat) : PtV := ⟨id, ⟨base, size⟩, false, a, img, c⟩
def i1 : I64 := ⟨1, by decide⟩
def i0 : I64 := ⟨0, by decide⟩
def i16 : I64 := ⟨16, by decide⟩
set_option maxRecDepth 100000 in
set_option maxHeartbeats 1000000 in
theorem shown12_calls (w : World) : Calls Try.prog 64 #[] w fun e w' => ∃ g h, e = .returned (.agg #[.slice (some ⟨g, 0, none⟩) 1 1, .slice (some ⟨h, 0, none⟩) 1 1, .slice none 0 0]) ∧
    OwnedV w.heap.size w' ⟨some ⟨g, 0, none⟩, [win21], 1, some ⟨h, 0, none⟩, [ptv1 i1 i0 i16 [] none 0], 1, none, [], 0⟩ ∧ Below w.heap.size w w' := by
  go_enter Try.func64, Try.ntmps64
  go_wp2_with (first
    | ((with_reducible refine wpList_value (o := ⟨some 2, .buildSlice _ _ _, _, _, _, _⟩) (by with_unfolding_all rfl) (build1c etW (.tmp 1) (.agg #[.int .i64 2, .int .i64 1]) #[.int .i64 2, .int .i64 1] rfl (by with_unfolding_all rfl) (by with_unfolding_all rfl) (by with_unfolding_all rfl) (by decide) _) ?_))
    | ((with_reducible refine wpList_value (o := ⟨some 5, .buildSlice _ _ _, _, _, _, _⟩) (by with_unfolding_all rfl) (build1c etP (.tmp 4) (.agg #[.int .i64 1, .int .i64 0, .int .i64 16, .bool false, .slice none 0 0]) #[.int .i64 1, .int .i64 0, .int .i64 16, .bool false, .slice none 0 0] rfl (by with_unfolding_all rfl) (by with_unfolding_all rfl) (by with_unfolding_all rfl) (by decide) _) ?_)))
  have hres : (((w.alloc (.cells #[.slice (some ⟨w.heap.size + 1, 0, none⟩) 1 1, .slice (some ⟨w.heap.size + 1 + 1, 0, none⟩) 1 1, .slice none 0 0] 26)).alloc (.cells #[.int .i64 2, .int .i64 1] 52)).alloc (.cells #[.int .i64 1, .int .i64 0, .int .i64 16, .bool false, .slice none 0 0] 43)).heap[w.heap.size]? = _ :=
    (Below.heap_alloc _ _ _ (by simp; omega)).trans ((Below.heap_alloc _ _ _ (by simp)).trans (heap_alloc_new w _))
  have hw := vown_lit (w.alloc (.cells #[.slice (some ⟨w.heap.size + 1, 0, none⟩) 1 1, .slice (some ⟨w.heap.size + 1 + 1, 0, none⟩) 1 1, .slice none 0 0] 26)) #[.int .i64 2, .int .i64 1] 52 2 [win21] cWin_len rfl (by simp)
  have hp := vown_lit ((w.alloc (.cells #[.slice (some ⟨w.heap.size + 1, 0, none⟩) 1 1, .slice (some ⟨w.heap.size + 1 + 1, 0, none⟩) 1 1, .slice none 0 0] 26)).alloc (.cells #[.int .i64 2, .int .i64 1] 52)) #[.int .i64 1, .int .i64 0, .int .i64 16, .bool false, .slice none 0 0] 43 5 [ptv1 i1 i0 i16 [] none 0] cPt_len rfl (by simp)
  simp only [World.size_alloc] at hw hp
  refine bodyPost_ret (resB1 rowCfg rfl (by rfl) hres rfl) rfl ⟨w.heap.size + 1, w.heap.size + 1 + 1, rfl, ⟨(hw.low (by omega)).stay ((Below.refl _ _).alloc (Nat.le_refl _) _), hp.low (by omega), VOwn.nil_ _ _ _ _ _, fun x hx => ?_⟩, (((Below.refl _ w).alloc (Nat.le_refl _) _).alloc (by simp) _).alloc (by simp; omega) _⟩
  rw [List.mem_singleton] at hx
  subst hx
  exact Cit.Own.nil _ _ _
end Go.Proofs.Ytpnbaapjjchlbaa
