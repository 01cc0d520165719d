/- sha.schedule: walked. -/
import Derived.Test.YtiemafgnpmoblaaShaDef
import Derived.Test.YtiemafgnpmoblaaShaRot
import Derived.Test.YtiemafgnpmoblaaArr
import Derived.Test.YtiemafgnpmoblaaCut
import Derived.Test.YtiemafgnpmoblaaWordsLoad
import Derived.StillTailTactics
namespace Go.Proofs.Ytiemafgnpmoblaa
open Go Go.RowKit Go.Cit

theorem arr_cellD {T : TypeId} {w : World} {b : Nat} {S R : List UInt32} (h : Arr T w b (S ++ R)) (i : Nat) (hi : i < S.length) : w.cell? ⟨b, i, none⟩ = some (vw (S.getD i 0)) := by
  have := h.cell i (by rw [List.length_append]; omega)
  rw [this, List.getElem_append_left hi]; simp [hi]
theorem arr_next {T : TypeId} {w : World} {b n k : Nat} {S : List UInt32} (h : Arr T w b (S ++ List.replicate (n - k) 0)) (hS : S.length = k) (hk : k < n) (x : UInt32) :
    Arr T (w.setCell ⟨b, k, none⟩ (vw x)) b ((S ++ [x]) ++ List.replicate (n - (k + 1)) 0) := by
  have h1 := h.set k x
  obtain ⟨m, hm⟩ : ∃ m, n - k = m + 1 := ⟨n - k - 1, by omega⟩
  rw [hm, List.set_append_right _ _ (by omega), hS, Nat.sub_self, List.replicate_succ, List.set_cons_zero] at h1
  rw [show n - (k + 1) = m by omega, List.append_assoc]
  exact h1
theorem arr_there {T : TypeId} {w : World} {b n k : Nat} {S : List UInt32} (h : Arr T w b (S ++ List.replicate (n - k) 0)) (hS : S.length = k) (hk : k < n) : ∃ v, w.cell? ⟨b, k, none⟩ = some v :=
  ⟨_, h.cell k (by rw [List.length_append, List.length_replicate]; omega)⟩
theorem cutN_4 (b : List UInt8) (hb : b.length = 64) : cutN 4 b = 16 := by unfold cutN; rw [hb]
theorem load0_piece (b : List UInt8) (hb : b.length = 64) (k : Nat) (hk : k < 16) : loadB (pieceL 4 b k) 0 4 = (numB ((b.drop (4 * k)).take 4), true) := by
  have h1 : (pieceL 4 b k).length = 4 := by unfold pieceL; rw [List.length_take, List.length_drop, hb]; omega
  unfold loadB
  rw [if_pos (by rw [h1]; omega), Int.toNat_zero, List.drop_zero, List.take_of_length_le (by omega)]
  unfold pieceL
  rw [Nat.mul_comm]

theorem alloc_sched (ρ : Operand → Value) (d : Option Tmp) (ty : TypeId) (ps : String) {af} (w : World) :
    (execOp ρ { dst := d, op := Op.alloc 69, type := ty, pos := ps, after := af, guard := none }).run Try.prog w = .ok (.value (.pointer (some ⟨w.heap.size, 0, none⟩))) (w.alloc (.cells ((List.replicate 64 (0 : UInt32)).map vw).toArray 69)) := by
  kernel_rfl
theorem row_sched : RowType Try.prog 69 64 := ⟨⟨_, Try.underlying69, rfl⟩, by kernel_rfl⟩

set_option maxRecDepth 100000 in
set_option maxHeartbeats 2000000 in
theorem schedule_calls (w : World) (a : Option Addr) (b : List UInt8) (c : Nat) (hr : Row w a b c) (hb : b.length = 64) :
    Calls Try.prog 69 #[.slice a 64 c] w fun e w' => e = .returned (.agg ((sched b 64).map vw).toArray) ∧ Below w.heap.size w w' := by
  have HA := Lib.hid (fun ρ d ty ps af w => alloc_sched ρ d ty ps (af := af) w)
  obtain ⟨Z, hZ⟩ : ∃ Z, Hid (Z = ((List.replicate 64 (0 : UInt32)).map vw).toArray) := ⟨_, rfl⟩
  rw [← hZ.out] at HA
  have HZ : Hid (Z.size = 64) := by rw [Hid, hZ.out]; simp
  have b0 := heap_alloc_new w (.cells Z 69)
  have b1 := heap_alloc_new (w.alloc (.cells Z 69)) (.cells Z 69)
  rw [World.size_alloc] at b1
  have b0 := (Below.heap_alloc (w.alloc (.cells Z 69)) (.cells Z 69) w.heap.size (by simp)).trans b0
  have gB : Below w.heap.size w ((w.alloc (.cells Z 69)).alloc (.cells Z 69)) := ((Below.refl _ _).alloc (Nat.le_refl _) _).alloc (by simp) _
  have hsz : ((w.alloc (.cells Z 69)).alloc (.cells Z 69)).heap.size = w.heap.size + 2 := by simp
  have hp := cut_own ((w.alloc (.cells Z 69)).alloc (.cells Z 69)) a b c 4 (hr.stay gB) (by decide) (by decide) (by omega)
  rw [hb] at hp
  have HB := Lib.hid (And.intro b0 (And.intro b1 (And.intro gB hsz)))
  have HPP := Lib.hid hp
  have HBL := Lib.hid hb
  clear b0 b1 gB hsz hp hr hb
  go_enter Try.func69, Try.ntmps69
  go_wp2_with (first
    | ((with_reducible refine wpList_value (o := ⟨some 2, .alloc _, _, _, _, _⟩) (by with_unfolding_all rfl) (HA.out _ _ _ _ _ _) ?_))
    | ((with_reducible refine wpList_value (o := ⟨some 3, .alloc _, _, _, _, _⟩) (by with_unfolding_all rfl) (HA.out _ _ _ _ _ _) ?_)))
  refine Calls.mono HPP.out ?_
  rintro e w2 ⟨a2, ds, c2, rfl, hds, hR, hN, hb2⟩
  obtain ⟨b0, b1, gB, hsz⟩ := HB.out
  rw [hsz] at hb2 hN
  have hs2 := hb2.size
  rw [hsz] at hs2
  have A0 : w2.heap[w.heap.size]? = some (.cells Z 69) := (hb2.block _ (by omega)).trans b0
  have A1 : Arr 69 w2 (w.heap.size + 1) (sched b 0 ++ List.replicate (64 - 0) 0) := by
    have := (hb2.block (w.heap.size + 1) (by omega)).trans b1
    rw [hZ.out] at this; exact this
  have B2 : Below w.heap.size w w2 := gB.trans (hb2.mono (by omega))
  have hdl : ds.length = 16 := by
    have := congrArg List.length hds
    rw [List.length_map] at this
    rw [this, cutL, List.length_map, List.length_range, cutN_4 b HBL.out]
  have HD : Hid (∀ k (h : k < ds.length), ds[k].l = pieceL 4 b k) := by
    intro k h
    have h1 : (ds.map (·.l))[k]? = some (pieceL 4 b k) := by
      rw [hds, cutL, cutN_4 b HBL.out, List.getElem?_map, List.getElem?_range (by omega)]; rfl
    rw [List.getElem?_map, List.getElem?_eq_getElem h] at h1
    exact Option.some.inj h1
  have HDL := Lib.hid hdl
  have HNW := Lib.hid hN
  clear b0 b1 gB hsz HB hb2 hds hN hdl
  go_wp2_with fail
  go_loopw [12] (fun i wr => ∃ (k : Nat) (S : List UInt32), k ≤ 16 ∧ i = .int .i64 k ∧ Hid (S = sched b k) ∧ Arr 69 wr (w.heap.size + 1) (S ++ List.replicate (64 - k) 0) ∧ wr.heap[w.heap.size]? = some (.cells Z 69) ∧ Rows wr a2 ds c2 ∧ Below w.heap.size w wr) (fun i _ => 16 - (intOf i).toNat)
  case atStart => exact ⟨0, _, Nat.zero_le _, rfl, rfl, A1, A0, hR, B2⟩
  case round =>
    clear A0 A1 hR B2
    obtain ⟨k, S, hk, rfl, HL, A1, A0, hR, B⟩ := hrel
    have HSL : Hid (S.length = k) := by rw [Hid, HL.out, sched_length]
    by_cases hlt : k < 16
    · have hkd : k < ds.length := by rw [HDL.out]; exact hlt
      have d1 : decide ((k : Int) < (ds.length : Int)) = true := by simp; omega
      have d1' : decide (k < ds.length) = true := by simpa using hkd
      have i0 := hR.index k hkd
      have e0 := hR.cell k hkd
      have hrow := hR.row ds[k] (List.getElem_mem hkd)
      have hpl := HD.out k hkd
      have hnb : ∀ g, Go.Cit.blk ds[k].a = some g → w.heap.size + 2 ≤ g := HNW.out.2 _ (List.getElem_mem hkd)
      generalize ds[k] = d at e0 hrow hpl hnb
      have hld := load32_calls wr d.a d.l d.c 0 hrow
      rw [hpl, load0_piece b HBL.out k hlt] at hld
      rw [hpl] at e0
      obtain ⟨x, hx⟩ : ∃ x, wOfQ (numB ((b.drop (4 * k)).take 4)) = x := ⟨_, rfl⟩
      dsimp only at hld
      rw [hx] at hld
      have i1 := fun W => arr_index (T := 69) (n := 64) Try.underlying69 (w.heap.size + 1) k (by omega) W
      obtain ⟨v1, c1⟩ := arr_there A1 HSL.out (by omega)
      have f1 := A1.free k
      have HS := Lib.hid (arr_next A1 HSL.out (by omega) x)
      have HLS : Hid (S ++ [x] = sched b (k + 1)) := by rw [Hid, sched, if_pos hlt, hx, ← HL.out]
      have hsv : Save (· ≠ w.heap.size + 1) wr (wr.setCell ⟨w.heap.size + 1, k, none⟩ (vw x)) := Save.set
      have HN : Hid (wr.setCell ⟨w.heap.size + 1, k, none⟩ (vw x) |>.heap[w.heap.size]? |> (· = some (.cells Z 69))) := (hsv.block _ (Array.getElem?_eq_some_iff.1 A0).1 (by omega)).trans A0
      have HR2 := Lib.hid (hR.save hsv (fun g hg => by have := HNW.out.1 g hg; omega) (fun d hd g hg => by have := HNW.out.2 d hd g hg; omega))
      have HB2 := Lib.hid (B.setCell (p := ⟨w.heap.size + 1, k, none⟩) (by show w.heap.size ≤ w.heap.size + 1; omega) (vw x))
      clear hpl hrow hnb hsv hx
      go_wp2_with fail
      refine hld.mono ?_
      rintro e w' ⟨rfl, rfl⟩
      go_wp2_with fail
      go_roundw
      case rel => exact ⟨k + 1, _, by omega, by go_num, HLS, HS.out, HN.out, HR2.out, HB2.out⟩
      case measure => simp [intOf]; omega
    · have hk2 : k = 16 := by omega
      have d1 : decide ((k : Int) < (ds.length : Int)) = false := by rw [HDL.out, hk2]; rfl
      have d1' : decide (k < ds.length) = false := by rw [HDL.out, hk2]; rfl
      have HS2 : Hid (S = sched b 16) := by rw [Hid, HL.out, hk2]
      have A1' : Arr 69 wr (w.heap.size + 1) (S ++ List.replicate (64 - 16) 0) := by rw [← hk2]; exact A1
      clear hk2 HL HSL A1 hR HD HDL HNW
      go_wp2_with fail
      go_loopw [8] (fun i wr => ∃ (k : Nat) (S : List UInt32), 16 ≤ k ∧ k ≤ 64 ∧ i = .int .i64 k ∧ Hid (S = sched b k) ∧ Arr 69 wr (w.heap.size + 1) (S ++ List.replicate (64 - k) 0) ∧ wr.heap[w.heap.size]? = some (.cells Z 69) ∧ Below w.heap.size w wr) (fun i _ => 64 - (intOf i).toNat)
      case atStart => exact ⟨16, _, by omega, by omega, rfl, HS2, A1', A0, B⟩
      case round =>
        clear HS2 A1' A0 B
        obtain ⟨k, S, hk1, hk, rfl, HL, A1, A0, B⟩ := hrel
        have HSL : Hid (S.length = k) := by rw [Hid, HL.out, sched_length]
        by_cases hlt : k < 64
        · have d2 : decide ((k : Int) < 64) = true := by simp; omega
          obtain ⟨m16, hm16⟩ : ∃ m, k = m + 16 := ⟨k - 16, by omega⟩
          have w16 : IntKind.i64.wrap ((k : Int) - 16) = ((m16 : Nat) : Int) := by rw [show (k : Int) - 16 = ((m16 : Nat) : Int) by omega]; exact IntWalk.i64_in _ (by omega)
          obtain ⟨m7, hm7⟩ : ∃ m, m = m16 + 9 := ⟨_, rfl⟩
          obtain ⟨m15, hm15⟩ : ∃ m, m = m16 + 1 := ⟨_, rfl⟩
          obtain ⟨m2, hm2⟩ : ∃ m, m = m16 + 14 := ⟨_, rfl⟩
          have w7 : IntKind.i64.wrap ((k : Int) - 7) = (m7 : Int) := by rw [show (k : Int) - 7 = (m7 : Int) by omega]; exact IntWalk.i64_in _ (by omega)
          have w15 : IntKind.i64.wrap ((k : Int) - 15) = (m15 : Int) := by rw [show (k : Int) - 15 = (m15 : Int) by omega]; exact IntWalk.i64_in _ (by omega)
          have w2' : IntKind.i64.wrap ((k : Int) - 2) = (m2 : Int) := by rw [show (k : Int) - 2 = (m2 : Int) by omega]; exact IntWalk.i64_in _ (by omega)
          have HKS := HSL.out
          have ix := fun (i : Nat) (hi : i < 64) (W : World) => arr_index (T := 69) (n := 64) Try.underlying69 (w.heap.size + 1) i hi W
          have i16 := ix m16 (by omega)
          have i7 := ix m7 (by omega)
          have i15 := ix m15 (by omega)
          have i2 := ix m2 (by omega)
          have ik := ix k (by omega)
          have c16 : ∀ n, ({ wr with drawn := n } : World).cell? ⟨w.heap.size + 1, m16, none⟩ = some (vw (S.getD m16 0)) := fun _ => arr_cellD A1 m16 (by omega)
          have c7 : ∀ n, ({ wr with drawn := n } : World).cell? ⟨w.heap.size + 1, m7, none⟩ = some (vw (S.getD m7 0)) := fun _ => arr_cellD A1 m7 (by omega)
          have c15 : ∀ n, ({ wr with drawn := n } : World).cell? ⟨w.heap.size + 1, m15, none⟩ = some (vw (S.getD m15 0)) := fun _ => arr_cellD A1 m15 (by omega)
          have c2 : ∀ n, ({ wr with drawn := n } : World).cell? ⟨w.heap.size + 1, m2, none⟩ = some (vw (S.getD m2 0)) := fun _ => arr_cellD A1 m2 (by omega)
          obtain ⟨x, hx⟩ : ∃ x, x = wAdd (wAdd (wAdd (S.getD m16 0) (S.getD m7 0)) (movedW 7 18 3 (S.getD m15 0))) (movedW 17 19 10 (S.getD m2 0)) := ⟨_, rfl⟩
          have HLS : Hid (S ++ [x] = sched b (k + 1)) := by
            rw [Hid, sched, if_neg (by omega), ← HL.out, hx, show k - 16 = m16 by omega, show k - 7 = m7 by omega, show k - 15 = m15 by omega, show k - 2 = m2 by omega]
          obtain ⟨y16, hy16⟩ : ∃ y, S.getD m16 0 = y := ⟨_, rfl⟩
          obtain ⟨y7, hy7⟩ : ∃ y, S.getD m7 0 = y := ⟨_, rfl⟩
          obtain ⟨y15, hy15⟩ : ∃ y, S.getD m15 0 = y := ⟨_, rfl⟩
          obtain ⟨y2, hy2⟩ : ∃ y, S.getD m2 0 = y := ⟨_, rfl⟩
          rw [hy16, hy7, hy15, hy2] at hx
          rw [hy16] at c16
          rw [hy7] at c7
          rw [hy15] at c15
          rw [hy2] at c2
          have A1d : Arr 69 wr.drew (w.heap.size + 1) (S ++ List.replicate (64 - k) 0) := A1
          have A0d : wr.drew.heap[w.heap.size]? = some (.cells Z 69) := A0
          have Bd : Below w.heap.size w wr.drew := B.trans (below_drewN _ _ 1)
          have HX := Lib.hid hx
          have wa : ∀ x y : UInt32, IntKind.u32.wrap ((x.toNat : Int) + y.toNat) = ((wAdd x y).toNat : Int) := wrap_w_add
          clear hm16 hm7 hm15 hm2 hy16 hy7 hy15 hy2 hx HKS ix
          go_wp2_with fail
          go_still_tail 23, (by kernel_rfl)
          still_call (moved_calls _ y15 7 18 3 (by decide) (by decide) (by decide) (by decide) (by decide))
          repeat still_step
          still_call (moved_calls _ y2 17 19 10 (by decide) (by decide) (by decide) (by decide) (by decide))
          repeat still_step
          refine wpStill_nil ?_
          change wpList _ _ _ _ _ wr.drew
          generalize wr.drew = wr at A1d A0d Bd ⊢
          obtain ⟨v1, c1⟩ := arr_there A1d HSL.out (by omega)
          have f1 := A1d.free k
          have HS := Lib.hid (arr_next A1d HSL.out (by omega) x)
          have hsv : Save (· ≠ w.heap.size + 1) wr (wr.setCell ⟨w.heap.size + 1, k, none⟩ (vw x)) := Save.set
          have HN : Hid (wr.setCell ⟨w.heap.size + 1, k, none⟩ (vw x) |>.heap[w.heap.size]? |> (· = some (.cells Z 69))) := (hsv.block _ (Array.getElem?_eq_some_iff.1 A0d).1 (by omega)).trans A0d
          have HB2 := Lib.hid (Bd.setCell (p := ⟨w.heap.size + 1, k, none⟩) (by show w.heap.size ≤ w.heap.size + 1; omega) (vw x))
          rw [HX.out] at HS HN HB2 HLS
          clear hsv
          go_wp2_with fail
          go_roundw
          case rel => exact ⟨k + 1, _, by omega, by omega, by go_num, HLS, HS.out, HN.out, HB2.out⟩
          case measure => simp [intOf]; omega
        · have d2 : decide ((k : Int) < 64) = false := by simp; omega
          have hk2 : k = 64 := by omega
          have HL1 : Hid (((sched b 64).map vw).toArray.size = 64) := by rw [Hid]; simp [sched_length]
          have HO := Lib.hid (arr_ok (sched b 64))
          have HA1 : Hid (wr.heap[w.heap.size + 1]? = some (.cells ((sched b 64).map vw).toArray 69 (0, 0))) := by
            rw [HL.out, hk2, Nat.sub_self, List.replicate_zero, List.append_nil] at A1; exact A1
          have HA0 := Lib.hid A0
          obtain ⟨F, hF⟩ : ∃ F, Hid (F = ((sched b 64).map vw).toArray) := ⟨_, rfl⟩
          rw [← hF.out] at HL1 HO HA1
          clear hk2 HL A1 A0
          go_wp2_with (first
            | ((with_reducible refine wpList_loadB (o := ⟨some 53, .load _ _, _, _, _, _⟩) row_sched (.tmp 3) (by with_unfolding_all rfl) (by with_unfolding_all rfl) (by with_unfolding_all rfl) HA1.out HL1.out ?_))
            | ((with_reducible refine wpList_storeB (o := ⟨none, .store _ (.tmp 2) (.tmp 53), _, _, _, _⟩) row_sched (.tmp 2) (.tmp 53) (by with_unfolding_all rfl) (by with_unfolding_all rfl) (by with_unfolding_all rfl) (by with_unfolding_all rfl) (by with_unfolding_all rfl) HA0.out HZ.out HL1.out HO.out ?_); intro w4 hb4 hS4))
          refine bodyPost_ret (resB1 row_sched rfl rfl hb4 HL1.out) rfl ⟨by rw [hF.out], ?_⟩
          exact B.trans (hS4.below B.size (fun j hj => by omega))
end Go.Proofs.Ytiemafgnpmoblaa
