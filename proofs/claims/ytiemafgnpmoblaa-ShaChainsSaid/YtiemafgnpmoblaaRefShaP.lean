/- The reference's Print; a state as a row, compared with a row (the statements' own): walked. -/
import Derived.Test.YtiemafgnpmoblaaRefSha
import Derived.Test.YtiemafgnpmoblaaShaPrint
namespace Go.Proofs.Ytiemafgnpmoblaa
open Go Go.RowKit Go.Cit

theorem ArrB.stay {T w w' b l} (h : ArrB T w b l) (hs : Below w.heap.size w w') : ArrB T w' b l := (hs.block b h.lt).trans h
theorem row4_len : ∀ x : UInt32, (rowB (qOfW x) 4).length = 4 := fun x => rowB_length _ _
theorem printB_len (s : S8) : (printB s).length = 32 := by unfold printB; rw [flatLen row4_len]; rfl
theorem printB_get (s : S8) (k j : Nat) (hk : k < 8) (hj : j < 4) : (printB s)[4 * k + j]? = (rowB (qOfW (s.l[k]'(by simpa [S8.l] using hk))) 4)[j]? := by
  unfold printB
  rw [Nat.mul_comm]
  exact flatGet row4_len s.l k j (by simpa [S8.l] using hk) hj
theorem arrB_index {T : TypeId} {n : Nat} (hT : Try.prog.underlying T = some (.array n 5)) (b i : Nat) (hi : i < n) (w : World) :
    (Instr.indexAt T (.pointer (some ⟨b, 0, none⟩)) (.int .i64 (i : Int))).run Try.prog w = .ok (.pointer (some ⟨b, i, none⟩)) w := by
  have he : Try.prog.elem T = 5 := by simp [Program.elem, hT]
  have hl : Try.prog.arrayLen T = n := by simp [Program.arrayLen, hT]
  rw [run_indexAt_array _ _ _ _ _ (by rw [he, hl]; exact hT), hl, he, szB]
  rw [if_pos (by omega)]
  simp only [Result.andThen, Addr.add]
  by_cases h0 : i = 0
  · subst h0; simp
  · simp [h0]
/-- The first m bytes are those of L. -/
def upto (L : List UInt8) (n m : Nat) : List UInt8 := L.take m ++ List.replicate (n - m) 0
theorem upto_set (L : List UInt8) (n m : Nat) (hL : L.length = n) (hm : m < n) : (upto L n m).set m (L[m]'(by omega)) = upto L n (m + 1) := by
  unfold upto
  have hl : (L.take m).length = m := by rw [List.length_take]; omega
  rw [List.set_append_right _ _ (by omega), hl, Nat.sub_self]
  obtain ⟨d, hd⟩ : ∃ d, n - m = d + 1 := ⟨n - m - 1, by omega⟩
  rw [hd, List.replicate_succ, List.set_cons_zero, List.take_succ_eq_append_getElem (by omega), show n - (m + 1) = d by omega, List.append_assoc]
  rfl
theorem upto_len (L : List UInt8) (n m : Nat) (hL : L.length = n) (hm : m ≤ n) : (upto L n m).length = n := by
  unfold upto; rw [List.length_append, List.length_take, List.length_replicate]; omega
theorem upto_full (L : List UInt8) (n : Nat) (hL : L.length = n) : upto L n n = L := by
  unfold upto; rw [Nat.sub_self, List.replicate_zero, List.append_nil, List.take_of_length_le (by omega)]

set_option maxRecDepth 100000 in
set_option maxHeartbeats 2000000 in
theorem refprint_calls (w : World) (a0 : Option Addr) (s : S8) (c0 : Nat) (hs : Vec cw 1 w a0 s.l c0) :
    Calls Try.prog 19 #[.slice a0 8 c0] w fun e w' => e = .returned (.agg ((printB s).map vb).toArray) ∧ Below w.heap.size w w' := by
  have HA := Lib.hid (fun ρ d ty ps af w => alloc_tag ρ d ty ps (af := af) w)
  obtain ⟨Z, hZ⟩ : ∃ Z, Hid (Z = ((List.replicate 32 (0 : UInt8)).map vb).toArray) := ⟨_, rfl⟩
  rw [← hZ.out] at HA
  have HZ : Hid (Z.size = 32) := by rw [Hid, hZ.out]; simp
  obtain ⟨L, hL⟩ : ∃ L, Hid (L = printB s) := ⟨_, rfl⟩
  have HLL : Hid (L.length = 32) := by rw [Hid, hL.out, printB_len]
  have b0 := heap_alloc_new w (.cells Z 36)
  have b1 := heap_alloc_new (w.alloc (.cells Z 36)) (.cells Z 36)
  rw [World.size_alloc] at b1
  have b0 := (Below.heap_alloc (w.alloc (.cells Z 36)) (.cells Z 36) w.heap.size (by simp)).trans b0
  have gB : Below w.heap.size w ((w.alloc (.cells Z 36)).alloc (.cells Z 36)) := ((Below.refl _ _).alloc (Nat.le_refl _) _).alloc (by simp) _
  have A1 : ArrB 36 ((w.alloc (.cells Z 36)).alloc (.cells Z 36)) (w.heap.size + 1) (upto L 32 0) := by
    rw [hZ.out] at b1; rw [hZ.out]; exact b1
  have HB := Lib.hid (And.intro b0 (And.intro A1 gB))
  clear b0 b1 gB A1
  go_enter Try.func19, Try.ntmps19
  go_wp2_with (first
    | ((with_reducible refine wpList_value (o := ⟨some 2, .alloc _, _, _, _, _⟩) (by with_unfolding_all rfl) (HA.out _ _ _ _ _ _) ?_))
    | ((with_reducible refine wpList_value (o := ⟨some 3, .alloc _, _, _, _, _⟩) (by with_unfolding_all rfl) (HA.out _ _ _ _ _ _) ?_)))
  obtain ⟨b0, A1, gB⟩ := HB.out
  go_loopw [4] (fun i wr => ∃ (k : Nat), k ≤ 8 ∧ i = .int .i64 k ∧ ArrB 36 wr (w.heap.size + 1) (upto L 32 (4 * k)) ∧ wr.heap[w.heap.size]? = some (.cells Z 36 (0, 0)) ∧ Below w.heap.size w wr) (fun i _ => 8 - (intOf i).toNat)
  case atStart => exact ⟨0, by omega, rfl, A1, b0, gB⟩
  case round =>
    clear b0 A1 gB
    obtain ⟨k, hk, rfl, A1, b0, B⟩ := hrel
    by_cases hlt : k < 8
    · have d1 : decide ((k : Int) < 8) = true := by simp; omega
      have hsr := hs.stay cw_len B
      have ik := hsr.index1 wordsT k (by simpa [S8.l] using hlt)
      have ek := hsr.cell1 k (by simpa [S8.l] using hlt)
      have HG : Hid (∀ j (hj : j < 4), (rowB (qOfW (s.l[k]'(by simpa [S8.l] using hlt))) 4)[j]? = L[4 * k + j]?) := fun j hj => by rw [hL.out, printB_get s k j hlt hj]
      obtain ⟨x, hx⟩ : ∃ x, s.l[k]'(by simpa [S8.l] using hlt) = x := ⟨_, rfl⟩
      rw [hx] at ek HG
      change ∀ w, (Instr.indexAt 33 (.slice a0 8 c0) (.int .i64 (k : Int))).run Try.prog w = _ at ik
      have HP := Lib.hid (refput_calls wr (qOfW x) 4 (by decide))
      clear hx hsr
      go_wp2_with fail
      refine HP.out.mono ?_
      rintro e w3 ⟨ar, cr, rfl, hO, hb3⟩
      have A3 := A1.stay hb3
      have b3 := (hb3.block _ (Array.getElem?_eq_some_iff.1 b0).1).trans b0
      have B3 := B.trans (hb3.mono B.size)
      have hz3 : w.heap.size + 2 ≤ w3.heap.size := A3.lt
      have hbz : w.heap.size + 2 ≤ wr.heap.size := A1.lt
      have HR := Lib.hid hO.isRow
      have HRB : Hid (∀ g, Go.Cit.blk ar = some g → w.heap.size + 2 ≤ g) := fun g hg => by have := (hO.blk_ge hg).1; omega
      clear hO hb3 A1 b0 B
      go_wp2_with fail
      go_loopw [6] (fun i wr => ∃ (j : Nat), j ≤ 4 ∧ i = .int .i64 j ∧ ArrB 36 wr (w.heap.size + 1) (upto L 32 (4 * k + j)) ∧ wr.heap[w.heap.size]? = some (.cells Z 36 (0, 0)) ∧ Below w.heap.size w wr ∧ Row wr ar (rowB (qOfW x) 4) cr) (fun i _ => 4 - (intOf i).toNat)
      case atStart => exact ⟨0, by omega, rfl, A3, b3, B3, HR.out⟩
      case round =>
        clear A3 b3 B3
        obtain ⟨j, hj, rfl, A1, b0, B, R⟩ := hrel
        by_cases hj4 : j < 4
        · have d2 : decide ((j : Int) < 4) = true := by simp; omega
          have iA : ∀ W, (Instr.indexAt 36 (.pointer (some ⟨w.heap.size + 1, 0, none⟩)) (.int .i64 (4 * (k : Int) + (j : Int)))).run Try.prog W = .ok (.pointer (some ⟨w.heap.size + 1, 4 * k + j, none⟩)) W := fun W => by
            have := arrB_index (T := 36) (n := 32) Try.underlying36 (w.heap.size + 1) (4 * k + j) (by omega) W
            rwa [show ((4 * k + j : Nat) : Int) = 4 * (k : Int) + (j : Int) by omega] at this
          have ir := R.index bt.slice bt.sz j (by rw [rowB_length]; exact hj4)
          have er := R.cell j (by rw [rowB_length]; exact hj4)
          rw [rowB_length] at ir
          have hgj := HG.out j hj4
          have hm : 4 * k + j < L.length := by rw [HLL.out]; omega
          rw [List.getElem?_eq_getElem (by rw [rowB_length]; exact hj4), List.getElem?_eq_getElem hm] at hgj
          injection hgj with hgj
          rw [hgj] at er
          obtain ⟨y, hy⟩ : ∃ y, L[4 * k + j] = y := ⟨_, rfl⟩
          rw [hy] at er
          have HUL := upto_len L 32 (4 * k + j) HLL.out (by omega)
          have c1 := A1.cell (4 * k + j) (by rw [HUL]; omega)
          obtain ⟨v1, hv1⟩ : ∃ v, (upto L 32 (4 * k + j))[4 * k + j]'(by rw [HUL]; omega) = v := ⟨_, rfl⟩
          rw [hv1] at c1
          have f1 := A1.free (4 * k + j)
          have HS : Hid (ArrB 36 (wr.setCell ⟨w.heap.size + 1, 4 * k + j, none⟩ (vb y)) (w.heap.size + 1) (upto L 32 (4 * k + (j + 1)))) := by
            have := A1.set (4 * k + j) y
            rwa [← hy, upto_set L 32 (4 * k + j) HLL.out (by omega), hy] at this
          have hsv : Save (· ≠ w.heap.size + 1) wr (wr.setCell ⟨w.heap.size + 1, 4 * k + j, none⟩ (vb y)) := Save.set
          have HN : Hid ((wr.setCell ⟨w.heap.size + 1, 4 * k + j, none⟩ (vb y)).heap[w.heap.size]? = some (.cells Z 36 (0, 0))) := (hsv.block _ (Array.getElem?_eq_some_iff.1 b0).1 (by omega)).trans b0
          have HB2 := Lib.hid (B.setCell (p := ⟨w.heap.size + 1, 4 * k + j, none⟩) (by show w.heap.size ≤ w.heap.size + 1; omega) (vb y))
          have HR2 := Lib.hid (R.save hsv (fun g hg => by have := HRB.out g hg; omega))
          clear hgj hy HUL hv1 hsv hm
          go_wp2_with fail
          go_roundw
          case rel => exact ⟨j + 1, by omega, by go_num, HS.out, HN.out, HB2.out, HR2.out⟩
          case measure => simp [intOf]; omega
        · obtain rfl : j = 4 := by omega
          go_wp2_with fail
          go_roundw
          case rel => exact ⟨k + 1, by omega, by go_num, by rw [show 4 * (k + 1) = 4 * k + 4 by omega]; exact A1, b0, B⟩
          case measure => simp [intOf]; omega
    · have hk2 : k = 8 := by omega
      have d1 : decide ((k : Int) < 8) = false := by simp; omega
      have HL1 : Hid ((L.map vb).toArray.size = 32) := by rw [Hid]; simpa using HLL.out
      have HO := Lib.hid (arrB_ok L)
      have HA1 : Hid (wr.heap[w.heap.size + 1]? = some (.cells (L.map vb).toArray 36 (0, 0))) := by
        rw [hk2, show 4 * 8 = 32 by rfl, upto_full L 32 HLL.out] at A1; exact A1
      have HA0 := Lib.hid b0
      obtain ⟨F, hF⟩ : ∃ F, Hid (F = (L.map vb).toArray) := ⟨_, rfl⟩
      rw [← hF.out] at HL1 HO HA1
      clear hk2 A1 b0
      go_wp2_with (first
        | ((with_reducible refine wpList_loadB (o := ⟨some 30, .load _ _, _, _, _, _⟩) row_tag (.tmp 3) (by with_unfolding_all rfl) (by with_unfolding_all rfl) (by with_unfolding_all rfl) HA1.out HL1.out ?_))
        | ((with_reducible refine wpList_storeB (o := ⟨none, .store _ (.tmp 2) (.tmp 30), _, _, _, _⟩) row_tag (.tmp 2) (.tmp 30) (by with_unfolding_all rfl) (by with_unfolding_all rfl) (by with_unfolding_all rfl) (by with_unfolding_all rfl) (by with_unfolding_all rfl) HA0.out HZ.out HL1.out HO.out ?_); intro w4 hb4 hS4))
      refine bodyPost_ret (resB1 row_tag rfl rfl hb4 HL1.out) rfl ⟨by rw [hF.out, hL.out], ?_⟩
      exact B.trans (hS4.below B.size (fun j hj => by omega))

set_option maxHeartbeats 2000000 in
theorem statrow_calls (w : World) (s : S8) :
    Calls Try.prog 20 #[.agg (s.l.map vw).toArray] w fun e w' => ∃ a c, e = .returned (.slice a 8 c) ∧ VOwn cw 1 22 w.heap.size w' a s.l c ∧ Below w.heap.size w w' := by
  have A0 : Arr 24 (w.alloc (.cells (s.l.map vw).toArray 24)) w.heap.size s.l := heap_alloc_new w _
  have B0 : Below w.heap.size w (w.alloc (.cells (s.l.map vw).toArray 24)) := (Below.refl _ _).alloc (Nat.le_refl _) _
  have HA := Lib.hid (And.intro A0 B0)
  clear A0 B0
  go_enter Try.func20, Try.ntmps20
  go_wp2_with fail
  obtain ⟨A0, B0⟩ := HA.out
  go_loopw [3, 4] (fun v i wr => ∃ (k : Nat) (S : List UInt32) (a' : Option Addr) (c' : Nat), k ≤ 8 ∧ i = .int .i64 k ∧ v = .slice a' S.length c' ∧ Hid (S = s.l.take k) ∧ VOwn cw 1 22 (w.heap.size + 1) wr a' S c' ∧ Arr 24 wr w.heap.size s.l ∧ Below w.heap.size w wr) (fun _ i _ => 8 - (intOf i).toNat)
  case atStart => exact ⟨0, [], none, 0, by omega, rfl, rfl, rfl, VOwn.nil_ _ _ _ _ _, A0, B0⟩
  case round =>
    clear A0 B0
    obtain ⟨k, S, a', c', hk, rfl, rfl, HL, hO, A1, B⟩ := hrel
    have HSL : Hid (S.length = k) := by rw [Hid, HL.out, List.length_take]; simp [S8.l]; omega
    by_cases hlt : k < 8
    · have d1 : decide ((k : Int) < 8) = true := by simp; omega
      have hkl : k < s.l.length := by simpa [S8.l] using hlt
      have ik := fun W => arr_index (T := 24) (n := 8) Try.underlying24 w.heap.size k hlt W
      have ek := A1.cell k hkl
      have HLS : Hid (S ++ [s.l[k]] = s.l.take (k + 1)) := by rw [Hid, HL.out, List.take_succ_eq_append_getElem hkl]
      generalize s.l[k] = x at ek HLS
      have h9 : S.length + 1 ≤ 1000000000 := by rw [HSL.out]; omega
      have hbs : w.heap.size + 1 ≤ wr.heap.size := A1.lt
      clear hkl
      go_wp2_with (first
        | ((with_reducible refine wpList_vapp1 (o := ⟨some 14, .call _, _, _, _, _⟩) wordsT cw_len cw_one (y := x) (.tmp 9) (.tmp 13) (by with_unfolding_all rfl) (by with_unfolding_all rfl) hO (by with_unfolding_all rfl) h9 hbs (by with_unfolding_all rfl) (by with_unfolding_all rfl) ?_); intro a2 c2 w2 hO2 hg2 hn2; have HO2 := Lib.hid hO2; have HB2 := Lib.hid (B.trans ((hO.grown hg2 hbs).mono (Nat.le_succ _))); have HA2 : Hid (Arr 24 w2 w.heap.size s.l) := A1.save (Save.grown hg2) (fun h => Nat.not_succ_le_self _ (hO.blk_ge (g := w.heap.size) h.symm).1); clear hO2 hg2 hn2))
      go_roundw
      case rel => exact ⟨k + 1, _, _, _, by omega, by go_num, by simp, HLS, HO2.out, HA2.out, HB2.out⟩
      case measure => simp [intOf]; omega
    · have d1 : decide ((k : Int) < 8) = false := by simp; omega
      have HS2 : Hid (S = s.l) := by rw [Hid, HL.out, List.take_of_length_le]; simp [S8.l]; omega
      have HSL2 : Hid (S.length = 8) := by rw [Hid, HS2.out]; rfl
      go_wp2_with fail
      go_ret
      refine ⟨a', c', ?_, ?_, B⟩
      · show Ending.returned (.slice a' S.length c') = _
        rw [HSL2.out]
      · rw [← HS2.out]; exact hO.low (Nat.le_succ _)

set_option maxHeartbeats 2000000 in
theorem statsame_calls (w : World) (s t : S8) (a0 : Option Addr) (c0 : Nat) (ht : Vec cw 1 w a0 t.l c0) :
    Calls Try.prog 15 #[.agg (s.l.map vw).toArray, .slice a0 8 c0] w fun e w' => e = .returned (.bool (decide (s.l = t.l))) ∧ Below w.heap.size w w' := by
  have A0 : Arr 24 (w.alloc (.cells (s.l.map vw).toArray 24)) w.heap.size s.l := heap_alloc_new w _
  have B0 : Below w.heap.size w (w.alloc (.cells (s.l.map vw).toArray 24)) := (Below.refl _ _).alloc (Nat.le_refl _) _
  have HA := Lib.hid (And.intro A0 B0)
  clear A0 B0
  go_enter Try.func15, Try.ntmps15
  go_wp2_with fail
  obtain ⟨A0, B0⟩ := HA.out
  go_loopw [5] (fun i wr => ∃ (k : Nat), k ≤ 8 ∧ i = .int .i64 k ∧ Hid (s.l.take k = t.l.take k) ∧ Arr 24 wr w.heap.size s.l ∧ Below w.heap.size w wr) (fun i _ => 8 - (intOf i).toNat)
  case atStart => exact ⟨0, by omega, rfl, rfl, A0, B0⟩
  case round =>
    clear A0 B0
    obtain ⟨k, hk, rfl, HL, A1, B⟩ := hrel
    by_cases hlt : k < 8
    · have d1 : decide ((k : Int) < 8) = true := by simp; omega
      have d2 : decide ((8 : Int) ≤ (k : Int)) = false := by simp; omega
      have hkl : k < s.l.length := by simpa [S8.l] using hlt
      have hkt : k < t.l.length := by simpa [S8.l] using hlt
      have ik := fun W => arr_index (T := 24) (n := 8) Try.underlying24 w.heap.size k hlt W
      have htr := ht.stay cw_len B
      have it : ∀ w, (Instr.indexAt 33 (.slice a0 8 c0) (.int .i64 (k : Int))).run Try.prog w = .ok (.pointer (some (ad a0 k))) w := htr.index1 wordsT k hkt
      have ek : ∀ n, ({ wr with drawn := n } : World).cell? ⟨w.heap.size, k, none⟩ = some (vw s.l[k]) := fun _ => A1.cell k hkl
      have et : ∀ n, ({ wr with drawn := n } : World).cell? (ad a0 k) = some (vw t.l[k]) := fun _ => htr.cell1 k hkt
      by_cases he : s.l[k] = t.l[k]
      · have HLS : Hid (s.l.take (k + 1) = t.l.take (k + 1)) := by rw [Hid, List.take_succ_eq_append_getElem hkl, List.take_succ_eq_append_getElem hkt, HL.out]; exact congrArg (fun x => List.take k t.l ++ [x]) he
        rw [he] at ek
        generalize t.l[k] = x at ek et
        have hxx : ((x.toNat : Int) != (x.toNat : Int)) = false := by simp
        clear he htr hkl hkt
        go_wp2_with fail
        go_quiet (fail)
        go_wp2_with fail
        go_roundw
        case rel => exact ⟨k + 1, by omega, by go_num, HLS, A1, B.trans (below_drewN _ _ _)⟩
        case measure => simp [intOf]; omega
      · have HF : Hid (decide (s.l = t.l) = false) := by
          rw [Hid, decide_eq_false_iff_not]; intro h; exact he (by simp [h])
        generalize s.l[k] = x at ek he
        generalize t.l[k] = y at et he
        have hxx : ((x.toNat : Int) != (y.toNat : Int)) = true := by
          unfold bne; rw [eq_w]; simpa using he
        clear he htr hkl hkt
        go_wp2_with fail
        go_quiet (fail)
        go_wp2_with fail
        go_ret
        exact ⟨by rw [HF.out]; rfl, B.trans (below_drewN _ _ _)⟩
    · have d1 : decide ((k : Int) < 8) = false := by simp; omega
      have HT : Hid (decide (s.l = t.l) = true) := by
        rw [Hid, decide_eq_true_eq]
        have := HL.out
        rwa [List.take_of_length_le (by simp [S8.l]; omega), List.take_of_length_le (by simp [S8.l]; omega)] at this
      go_wp2_with fail
      go_ret
      exact ⟨by rw [HT.out]; rfl, B⟩
end Go.Proofs.Ytiemafgnpmoblaa
