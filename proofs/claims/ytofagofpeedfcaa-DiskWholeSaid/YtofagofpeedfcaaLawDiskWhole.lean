/- Chapter 6's law DiskWhole: walked. -/
import Derived.Test.YtofagofpeedfcaaWhole6
import Derived.Deep.CutBlock
import Derived.Deep.DeepCutAuto
namespace Go.Proofs.Ytofagofpeedfcaa
open Go Go.RowKit Go.Cit

def dwA (b k n : Nat) (X : List UInt8) (a2 a3 u2 u3 : Option Addr) (c2 c3 d2 d3 _ : Nat) (y2 y3 : Addr) : Nat → Value → World → Prop
  | 139 => fun v _ => v = (.pointer (some ⟨b, 0, none⟩))
  | 140 => fun v _ => v = (.int .i64 (k : Int))
  | 141 => tR (X)
  | 142 => fun v _ => v = (.slice u2 X.length d2)
  | 143 => fun v _ => v = (.bool true)
  | 144 => fun v _ => v = (.bool false)
  | 145 => fun v _ => v = (.bool false)
  | 146 => fun v _ => v = (.int .i64 (-1))
  | 147 => fun v _ => v = (.bool true)
  | 148 => fun v _ => v = (.bool true)
  | 149 => fun v _ => v = (.slice a2 n c2)
  | 150 => fun v _ => v = (.int .i64 (k : Int))
  | 151 => fun v _ => v = (.pointer (some y2))
  | 152 => fun v _ => v = (.slice u2 X.length d2)
  | 153 => fun v _ => v = (.slice a3 n c3)
  | 154 => fun v _ => v = (.int .i64 (k : Int))
  | 155 => fun v _ => v = (.pointer (some y3))
  | 156 => fun v _ => v = (.slice u3 X.length d3)
  | 157 => fun v _ => v = (.bool true)
  | 158 => fun v _ => v = (.bool false)
  | 159 => fun v _ => v = (.bool false)
  | 160 => fun v _ => v = (.bool false)
  | _ => fun _ _ => True
theorem dwA_stay (b k n : Nat) (X : List UInt8) (a2 a3 u2 u3 : Option Addr) (c2 c3 d2 d3 j : Nat) (y2 y3 : Addr) : ∀ d v w1 w2, Below w1.heap.size w1 w2 → dwA b k n X a2 a3 u2 u3 c2 c3 d2 d3 j y2 y3 d v w1 → dwA b k n X a2 a3 u2 u3 c2 c3 d2 d3 j y2 y3 d v w2 := by
  intro d v w1 w2 hb h
  unfold dwA at h ⊢
  split at h <;> first | exact h | exact tE_stay hb h | exact tR_stay hb h | trivial
def dwB (b k _ : Nat) (X : List UInt8) (_ _ u2 _ : Option Addr) (_ _ d2 _ j : Nat) (_ _ : Addr) : Nat → Value → World → Prop
  | 139 => fun v _ => v = (.pointer (some ⟨b, 0, none⟩))
  | 140 => fun v _ => v = (.int .i64 (k : Int))
  | 141 => tR (X)
  | 142 => fun v _ => v = (.slice u2 X.length d2)
  | 143 => fun v _ => v = (.bool true)
  | 144 => fun v _ => v = (.bool false)
  | 145 => fun v _ => v = (.bool false)
  | 146 => fun v _ => v = (.int .i64 (j : Int))
  | 147 => fun v _ => v = (.bool false)
  | 148 => fun v _ => v = (.bool false)
  | 149 => fun v _ => v = (undef)
  | 150 => fun v _ => v = (undef)
  | 151 => fun v _ => v = (undef)
  | 152 => fun v _ => v = (undef)
  | 153 => fun v _ => v = (undef)
  | 154 => fun v _ => v = (undef)
  | 155 => fun v _ => v = (undef)
  | 156 => fun v _ => v = (undef)
  | 157 => fun v _ => v = (undef)
  | 158 => fun v _ => v = (undef)
  | 159 => fun v _ => v = (.bool false)
  | 160 => fun v _ => v = (.bool false)
  | _ => fun _ _ => True
theorem dwB_stay (b k n : Nat) (X : List UInt8) (a2 a3 u2 u3 : Option Addr) (c2 c3 d2 d3 j : Nat) (y2 y3 : Addr) : ∀ d v w1 w2, Below w1.heap.size w1 w2 → dwB b k n X a2 a3 u2 u3 c2 c3 d2 d3 j y2 y3 d v w1 → dwB b k n X a2 a3 u2 u3 c2 c3 d2 d3 j y2 y3 d v w2 := by
  intro d v w1 w2 hb h
  unfold dwB at h ⊢
  split at h <;> first | exact h | exact tE_stay hb h | exact tR_stay hb h | trivial
def dwC (b k _ : Nat) (X : List UInt8) (_ _ _ u3 : Option Addr) (_ _ _ d3 j : Nat) (_ _ : Addr) : Nat → Value → World → Prop
  | 139 => fun v _ => v = (.pointer (some ⟨b, 0, none⟩))
  | 140 => fun v _ => v = (.int .i64 (k : Int))
  | 141 => tR (X)
  | 142 => fun v _ => v = (.slice u3 X.length d3)
  | 143 => fun v _ => v = (.bool true)
  | 144 => fun v _ => v = (.bool false)
  | 145 => fun v _ => v = (.bool false)
  | 146 => fun v _ => v = (.int .i64 (j : Int))
  | 147 => fun v _ => v = (.bool false)
  | 148 => fun v _ => v = (.bool false)
  | 149 => fun v _ => v = (undef)
  | 150 => fun v _ => v = (undef)
  | 151 => fun v _ => v = (undef)
  | 152 => fun v _ => v = (undef)
  | 153 => fun v _ => v = (undef)
  | 154 => fun v _ => v = (undef)
  | 155 => fun v _ => v = (undef)
  | 156 => fun v _ => v = (undef)
  | 157 => fun v _ => v = (undef)
  | 158 => fun v _ => v = (undef)
  | 159 => fun v _ => v = (.bool false)
  | 160 => fun v _ => v = (.bool false)
  | _ => fun _ _ => True
theorem dwC_stay (b k n : Nat) (X : List UInt8) (a2 a3 u2 u3 : Option Addr) (c2 c3 d2 d3 j : Nat) (y2 y3 : Addr) : ∀ d v w1 w2, Below w1.heap.size w1 w2 → dwC b k n X a2 a3 u2 u3 c2 c3 d2 d3 j y2 y3 d v w1 → dwC b k n X a2 a3 u2 u3 c2 c3 d2 d3 j y2 y3 d v w2 := by
  intro d v w1 w2 hb h
  unfold dwC at h ⊢
  split at h <;> first | exact h | exact tE_stay hb h | exact tR_stay hb h | trivial
theorem lt_neg (w : World) : (binOp .lss 3 (.int .i64 (-1)) (.int .i64 0)).run Try.prog w = .ok (.bool true) w := by go_simp
theorem lt_nat (j : Nat) (w : World) : (binOp .lss 3 (.int .i64 (j : Int)) (.int .i64 0)).run Try.prog w = .ok (.bool false) w := by
  have h : ¬ (j : Int) < 0 := by omega
  go_simp
set_option maxRecDepth 100000 in
set_option maxHeartbeats 4000000 in
theorem diskWhole_good (w : World) (n : Nat) (a : Option Addr) (L : List Ac) (c : Nat) (h : Acts w a L c) (h1 : 1 ≤ n) (h12 : n ≤ 12) (hT : totA L ≤ 6000) (a9 : Option Addr) (st : List UInt8) (c9 : Nat) (hst : Row w a9 st c9) (ll : Nat) (hl0 : st.length = ll) (hs50 : ll ≤ 50) :
    Calls Try.prog 5 #[.int .i64 (n : Int), .slice a L.length c, .slice a9 ll c9] w fun e w' => e = .returned (.bool true) ∧ Below w.heap.size w w' := by
  have hll := h.vec.len_le
  have HH := Lib.hid h
  have HT := Lib.hid hT
  have HST := Lib.hid hst
  have HL0 := Lib.hid hl0
  clear h hT hst hl0
  go_enter Try.func5, Try.ntmps5
  go_wp2_with fail
  refine (awake6_calls w).mono ?_
  rintro e w1 ⟨rfl, hb1⟩
  have HB1 := Lib.hid hb1
  have hmd := made_calls w1 n a L c (HH.out.stay hb1) h1 h12 HT.out
  clear hb1
  go_wp2_with fail
  refine (hmd).mono ?_
  rintro e w2 ⟨p, rfl, hD2, _, hpl, hb2⟩
  have HB2 := Lib.hid (HB1.out.trans (hb2.mono HB1.out.size))
  have HD2 := Lib.hid hD2
  have HPL : Hid (∀ k, k < w1.heap.size → p.Off k) := fun k hk => ⟨by omega, by omega, by omega⟩
  have HPW : Hid (∀ k, k < w.heap.size → p.Off k) := fun k hk => HPL.out k (Nat.lt_of_lt_of_le hk HB1.out.size)
  clear hD2 hpl hb2 hmd
  go_wp2_with fail
  go_loopw [9] (fun j wr => ∃ q : Nat, q ≤ L.length ∧ j = .int .i64 (q : Int) ∧ Hid ((∃ D, DiskAt wr p D ∧ D.S.length = n) ∧ Below w.heap.size w wr)) (fun j _ => L.length - (intOf j).toNat)
  case atStart => exact ⟨0, Nat.zero_le _, rfl, ⟨_, HD2.out, by simp [newD]⟩, HB2.out⟩
  case round =>
    obtain ⟨q, hq, rfl, HI⟩ := hrel
    obtain ⟨⟨D, hD, hSn⟩, hBD⟩ := HI.out
    have HBD := Lib.hid hBD
    have HD := Lib.hid hD
    have HSn := Lib.hid hSn
    clear hD hBD HI hSn
    by_cases hlt : q < L.length
    · have hA := HH.out.stay HBD.out
      have i0 := hA.vec.index etA q hlt
      have hxl : (L[q]).l.length ≤ 6000 := by have h1 := totA_one L q hlt; have h2 := HT.out; omega
      have HLD := Lib.hid (hA.load q hlt)
      have hat := hA.at_ _ (List.getElem_mem hlt)
      have HDO := Lib.hid (do_calls wr p D L[q] HD.out hat hxl (act_off HH.out HPW.out q hlt))
      have HNX : Hid ((actD D L[q]).S.length = n) := by rw [Hid, (actD_ok HD.out.ok L[q] hxl hat.hn.2).2]; exact HSn.out
      generalize L[q] = y at HLD HDO HNX
      clear hA hxl hat
      go_wp2_with ((with_reducible refine wpList_load_rn (o := ⟨some 46, .load _ (.tmp 45), _, _, _, _⟩) (.tmp 45) (by with_unfolding_all rfl) (by with_unfolding_all rfl) (by with_unfolding_all rfl) HLD.out ?_))
      refine (HDO.out).mono ?_
      rintro e w6 ⟨rfl, hD6, hs6⟩
      have HD6 := Lib.hid hD6
      have HB6 := Lib.hid (HBD.out.trans (hs6.below HBD.out.size (fun k hk => HPW.out k hk)))
      clear hD6 hs6
      go_wp2_with fail
      go_roundw
      case rel => exact ⟨q + 1, hlt, by go_num, ⟨_, HD6.out, HNX.out⟩, HB6.out⟩
      case measure => simp [intOf]; omega
    · obtain ⟨w3, hw3⟩ : ∃ w3, w3 = wr := ⟨_, rfl⟩
      subst hw3
      have hup := up_calls w3 p D HD.out
      go_wp2_with fail
      refine (hup).mono ?_
      rintro e wq ⟨rfl, rfl⟩
      go_upto_if 50 with fail
      go_cut [51] (fun _ wx => ∃ D', Hid (DiskAt wx p D') ∧ Hid (D'.S.length = n) ∧ Hid (D'.up = true) ∧ Hid (Below w.heap.size w wx))
      case first =>
        cases hu : D.up with
        | true =>
          go_wp2_with fail
          go_meet
          exact ⟨D, HD.out, HSn.out, hu, HBD.out⟩
        | false =>
          have hst := start_calls wq p D HD.out
          clear hu
          go_wp2_with fail
          refine (hst).mono ?_
          rintro e w4 ⟨rfl, hD4, hs4⟩
          have HD4 := Lib.hid hD4
          have HB4 := Lib.hid (HBD.out.trans (hs4.below HBD.out.size (fun k hk => HPW.out k hk)))
          clear hD4 hs4 hst
          go_wp2_with fail
          go_meet
          exact ⟨startD D, HD4.out, HSn.out, rfl, HB4.out⟩
      case rest =>
        obtain ⟨D', HD, HSn, HU, HBc⟩ := hcut
        go_wp2_with fail
        go_loopw [10, 11, 12] (fun s s2 j wr => ∃ (q : Nat) (a2 : Option Addr) (c2 : Nat) (M : List Rs) (a3 : Option Addr) (c3 : Nat) (M3 : List Rs), q ≤ n ∧ j = .int .i64 (q : Int) ∧ s = .slice a2 M.length c2 ∧ s2 = .slice a3 M3.length c3 ∧ Hid (M.map (·.l) = (List.range q).map (fun k => flushedR D' (k : Nat)) ∧ M3.map (·.l) = (List.range q).map (fun k => getR D' k)) ∧ Hid (Rws2 wc.heap.size wr a2 M c2 a3 M3 c3 ∧ Below wc.heap.size wc wr)) (fun _ _ j _ => n - (intOf j).toNat)
        case atStart => exact ⟨0, none, 0, [], none, 0, [], Nat.zero_le _, rfl, rfl, rfl, ⟨rfl, rfl⟩, Rws2.nil _ _, Below.refl _ _⟩
        case round =>
          obtain ⟨q, a2, c2, M, a3, c3, M3, hq, rfl, rfl, rfl, HM, HW⟩ := hrel
          by_cases hlt : q < n
          · have hk : q < D'.S.length := by rw [HSn.out]; exact hlt
            have hDr := HD.out.stay HW.out.2
            have hrd := read_calls wr p D' hDr q
            have er : readR D' q = getR D' q := by rw [readR, if_pos ⟨HU.out, by omega, by omega⟩, Int.toNat_natCast]
            have ee : readE D' q = 0 := by rw [readE, if_neg (by rw [HU.out]; simp), if_pos ⟨by omega, by omega⟩]
            have hR64 : (getR D' q).length = 64 := HD.out.ok.get hk
            have hF64 : (flushedR D' q).length = 64 := by
              rw [flushedR, if_pos ⟨by omega, by omega⟩, Int.toNat_natCast, List.getElem?_eq_getElem hk]
              exact HD.out.ok.sec _ (List.getElem_mem hk)
            obtain ⟨R, hR⟩ : ∃ R, Hid (R = getR D' q) := ⟨_, rfl⟩
            obtain ⟨F, hF⟩ : ∃ F, Hid (F = flushedR D' q) := ⟨_, rfl⟩
            rw [ee, er, ← hR.out] at hrd
            rw [← hR.out] at hR64
            rw [← hF.out] at hF64
            have HR64 := Lib.hid hR64
            have HF64 := Lib.hid hF64
            have HML : Hid (M.length = q ∧ M3.length = q) := ⟨rows_len HM.out.1, rows_len HM.out.2⟩
            clear er ee hR64 hF64 hDr
            go_wp2_with fail
            refine (hrd).mono ?_
            rintro e w5 ⟨a5, c5, rfl, hM5, hb5⟩
            have HW5 := Lib.hid (HW.out.1.stay hb5)
            have HB5 := Lib.hid (HW.out.2.trans (hb5.mono HW.out.2.size))
            have HR5 := Lib.hid hM5.row
            have HN5 := Lib.hid (HW.out.1.fresh hM5.row (by intro h0; have := HR64.out; rw [h0] at this; simp at this) (fun g hg => hM5.new g hg) HW.out.2.size)
            have hfl := flushed_calls w5 p D' (HD.out.stay HB5.out) q
            rw [← hF.out] at hfl
            clear hM5 hb5 hrd
            go_wp2_with fail
            refine (hfl).mono ?_
            rintro e w6 ⟨a6, c6, rfl, hO6, hb6⟩
            have HW6 := Lib.hid (HW5.out.stay hb6)
            have HB6 := Lib.hid (HB5.out.trans (hb6.mono HB5.out.size))
            have HR6 := Lib.hid (HR5.out.stay hb6)
            have HF6 := Lib.hid hO6.isRow
            have HNF := Lib.hid (HW5.out.fresh hO6.isRow (by intro h0; have := HF64.out; rw [h0] at this; simp at this) (fun g hg => (hO6.blk_ge hg).1) HB5.out.size)
            have HN6 : Hid (∀ g, Go.Cit.blk a5 = some g → g < w5.heap.size ∧ g < w6.heap.size) := fun g hg => ⟨(HN5.out g hg).2.1, Nat.lt_of_lt_of_le (HN5.out g hg).2.1 hb6.size⟩
            have HO6 : Hid (∀ g, Go.Cit.blk a6 = some g → w5.heap.size ≤ g) := fun g hg => (hO6.blk_ge hg).1
            have HM2 : Hid ((M ++ [(⟨a6, F, c6⟩ : Rs)]).map (·.l) = (List.range (q + 1)).map (fun k => flushedR D' (k : Nat))) := rows_add HM.out.1 hF.out
            have HM3 : Hid ((M3 ++ [(⟨a5, R, c5⟩ : Rs)]).map (·.l) = (List.range (q + 1)).map (fun k => getR D' k)) := rows_add HM.out.2 hR.out
            have HZ : Hid (M.length ≤ 12 ∧ M3.length ≤ 12) := by rw [Hid, HML.out.1, HML.out.2]; omega
            clear hO6 hb6 hfl
            go_wp2_with ((first | ((with_reducible refine wpList_vapp1 (o := ⟨some 69, .call _, _, _, _, _⟩) etRs cRs_len cRs_one (.tmp 64) (.tmp 68) (by with_unfolding_all rfl) (by with_unfolding_all rfl) HW6.out.x.own (y := ⟨a6, F, c6⟩) (by with_unfolding_all rfl) (by have := HZ.out.1; omega) HB6.out.size (by with_unfolding_all rfl) (by with_unfolding_all rfl) ?_); intro a7 c7 w7 hO7 hg7 hn7; have HW7 := Lib.hid (And.intro (HW6.out.app HF6.out HNF.out hO7 hg7 hn7) (HB6.out.trans (HW6.out.x.below hg7 HB6.out.size))); have HR7 : Hid (Row w7 a5 R c5 ∧ ∀ g, Go.Cit.blk a5 = some g → wc.heap.size ≤ g ∧ g < w7.heap.size ∧ Go.Cit.blk a3 ≠ some g ∧ Go.Cit.blk a7 ≠ some g) := ⟨HR6.out.save (Save.grown hg7) (fun g h1 h2 => (HN5.out g h1).2.2.1 h2.symm), fun g h1 => ⟨(HN5.out g h1).1, Nat.lt_of_lt_of_le (HN6.out g h1).2 hg7.size, (HN5.out g h1).2.2.2, fun h2 => by rcases hn7 g h2 with h3 | h3; exact (HN5.out g h1).2.2.1 h3; have := (HN6.out g h1).2; omega⟩⟩; clear hO7 hg7 hn7) | ((with_reducible refine wpList_vapp1 (o := ⟨some 73, .call _, _, _, _, _⟩) etRs cRs_len cRs_one (.tmp 70) (.tmp 72) (by with_unfolding_all rfl) (by with_unfolding_all rfl) HW7.out.1.y.own (y := ⟨a5, R, c5⟩) (by with_unfolding_all rfl) (by have := HZ.out.2; omega) HW7.out.2.size (by with_unfolding_all rfl) (by with_unfolding_all rfl) ?_); intro a8 c8 w8 hO8 hg8 hn8; have HW8 := Lib.hid (And.intro (HW7.out.1.swap.app HR7.out.1 HR7.out.2 hO8 hg8 hn8).swap (HW7.out.2.trans (HW7.out.1.y.below hg8 HW7.out.2.size))); clear hO8 hg8 hn8)))
            go_roundw
            case rel => exact ⟨q + 1, a7, c7, _, a8, c8, _, hlt, by go_num, by rw [List.length_append]; rfl, by rw [List.length_append]; rfl, ⟨HM2.out, HM3.out⟩, HW8⟩
            case measure => simp [intOf]; omega
          · obtain ⟨w3, hw3⟩ : ∃ w3, w3 = wr := ⟨_, rfl⟩
            subst hw3
            have HQ : Hid (q = n) := by rw [Hid]; omega
            have HBw := Lib.hid (HBc.out.trans (HW.out.2.mono HBc.out.size))
            have HD3 := Lib.hid (HD.out.stay HW.out.2)
            have HPC : Hid (∀ k, wc.heap.size ≤ k → p.Off k) := fun k hk => by have := HD.out.lt; exact ⟨by omega, by omega, by omega⟩
            have hdi := dirty_calls w3 p D' HD3.out
            go_wp2_with fail
            refine (hdi).mono ?_
            rintro e w5 ⟨a5, c5, rfl, hO5, hb5⟩
            have HD5 := Lib.hid (HD3.out.stay hb5)
            have HB5 := Lib.hid (HBw.out.trans (hb5.mono HBw.out.size))
            have HW5 := Lib.hid (HW.out.1.stay hb5)
            have HV5 := Lib.hid (hO5.low HW.out.2.size)
            have HS5 : Hid (wc.heap.size ≤ w5.heap.size) := Nat.le_trans HW.out.2.size hb5.size
            have hcr := crash_calls w5 p D' HD5.out a9 st c9 (HST.out.stay HB5.out) (row_off HST.out HPW.out)
            rw [show crashE D' = 0 by rw [crashE, HU.out]; rfl, show crashT st D' = fallD st D' by rw [crashT, HU.out]; rfl, HL0.out] at hcr
            have hdl : (dirtyI D'.C).length ≤ 1024 := by
              have h1 := dirtyL_len D'.C
              have h2 := HD.out.ok.len
              have h3 := HD.out.ok.few
              rw [dirtyI, List.length_map]; omega
            obtain ⟨D2, hD2⟩ : ∃ D2, Hid (D2 = fallD st D') := ⟨_, rfl⟩
            rw [← hD2.out] at hcr
            clear hO5 hb5 hdi
            obtain ⟨NN, hNN⟩ : ∃ NN, Hid (NN = dirtyL D'.C) := ⟨_, rfl⟩
            have HNI : Hid (dirtyI D'.C = NN.map Int.ofNat) := by rw [Hid, hNN.out]; rfl
            obtain ⟨M5, hM5⟩ : ∃ M5, Hid (M5 = dirtyI D'.C) := ⟨_, rfl⟩
            rw [← hM5.out] at HV5 hdl ⊢
            go_wp2_with fail
            refine (hcr).mono ?_
            rintro e w6 ⟨rfl, hD6, hs6⟩
            have HD6 := Lib.hid hD6
            have HB6 := Lib.hid (HB5.out.trans (hs6.below HB5.out.size (fun k hk => HPW.out k hk)))
            have HW6 := Lib.hid (HW5.out.save hs6 (fun k hk => HPC.out k hk))
            have HV6 := Lib.hid (HV5.out.save hs6 (fun g hg => HPC.out g (HV5.out.blk_ge hg).1))
            have hup := up_calls w6 p D2 HD6.out
            rw [show D2.up = false by rw [hD2.out]; rfl] at hup
            clear hD6 hs6 hcr
            go_wp2_with fail
            refine (hup).mono ?_
            rintro e w7 ⟨rfl, rfl⟩
            have hdi := dirty_calls w7 p D2 HD6.out
            rw [show dirtyI D2.C = [] by rw [hD2.out]; exact dirty_none _] at hdi
            go_wp2_with fail
            refine (hdi).mono ?_
            rintro e w8 ⟨a8, c8, rfl, _, hb8⟩
            have HD8 := Lib.hid (HD6.out.stay hb8)
            have HB8 := Lib.hid (HB6.out.trans (hb8.mono HB6.out.size))
            have HW8 := Lib.hid (HW6.out.stay hb8)
            have HV8 := Lib.hid ((HV6.out.stay hb8).vec (fun _ => rfl))
            have HST8 := Lib.hid (HST.out.stay HB8.out)
            rw [HQ.out] at HM
            have HML : Hid (M.length = n ∧ M3.length = n) := ⟨rows_len HM.out.1, rows_len HM.out.2⟩
            rw [HML.out.1, HML.out.2]
            clear hb8 hdi hup
            go_wp2_with fail
            go_loopw [16] (fun j wr => ∃ k : Nat, k ≤ n ∧ j = .int .i64 (k : Int) ∧ Hid (Below w8.heap.size w8 wr)) (fun j _ => n - (intOf j).toNat)
            case atStart => exact ⟨0, Nat.zero_le _, rfl, Below.refl _ _⟩
            case round =>
              obtain ⟨k, hk, rfl, HK⟩ := hrel
              by_cases hlk : k < n
              · have hkM : k < M.length := by rw [HML.out.1]; exact hlk
                have hkM3 : k < M3.length := by rw [HML.out.2]; exact hlk
                go_wp2_with fail
                go_loopw [17, 18] (fun s j wq => ∃ (m : Nat) (t : Option Nat), m ≤ M5.length ∧ j = .int .i64 (m : Int) ∧ s = .int .i64 (atI t) ∧ Hid (AtM NN k m t) ∧ Hid (Below wr.heap.size wr wq)) (fun _ j _ => M5.length - (intOf j).toNat)
                case atStart => exact ⟨0, none, Nat.zero_le _, rfl, rfl, AtM.zero _ _, Below.refl _ _⟩
                case round =>
                  obtain ⟨m, t, hm, rfl, rfl, HA, HQ2⟩ := hrel
                  by_cases hlm : m < M5.length
                  · have ix := HV8.out.index1 etZ m hlm
                    have ec := (HV8.out.stay (fun _ => rfl) (HK.out.trans (HQ2.out.mono HK.out.size))).cell1 m hlm
                    have HNM : Hid (∃ z, NN[m]? = some z ∧ M5[m] = (z : Int)) := by
                      have h2 : M5[m]? = (NN.map Int.ofNat)[m]? := by rw [hM5.out, HNI.out]
                      rw [List.getElem?_eq_getElem hlm, List.getElem?_map] at h2
                      cases hz : NN[m]? with
                      | none => rw [hz] at h2; cases h2
                      | some z => rw [hz] at h2; exact ⟨z, rfl, Option.some.inj h2⟩
                    generalize M5[m] = z at ec HNM
                    by_cases hz : z = (k : Int)
                    · have tz : (z == (k : Int)) = true := by simp [hz]
                      have HZ : Hid (NN[m]? = some k) := by
                        obtain ⟨y, h1, h2⟩ := HNM.out
                        have : y = k := by omega
                        rw [Hid, h1, this]
                      clear hz
                      go_wp2_with fail
                      go_roundw
                      case rel => exact ⟨m + 1, some m, hlm, by go_num, rfl, AtM.hit HZ.out, HQ2⟩
                      case measure => simp [intOf]; omega
                    · have tz : (z == (k : Int)) = false := by simp [hz]
                      have HZ : Hid (NN[m]? ≠ some k) := by
                        obtain ⟨y, h1, h2⟩ := HNM.out
                        rw [Hid, h1]
                        intro h3
                        exact hz (by rw [h2, Option.some.inj h3])
                      clear hz
                      go_wp2_with fail
                      go_roundw
                      case rel => exact ⟨m + 1, t, hlm, by go_num, rfl, AtM.miss HA.out HZ.out, HQ2⟩
                      case measure => simp [intOf]; omega
                  · have HKQ := Lib.hid (HK.out.trans (HQ2.out.mono HK.out.size))
                    obtain ⟨hca, hcn⟩ := crash_at HD.out.ok st (i := k) (by rw [HSn.out]; exact hlk) (t := t) (by
                      have h2 : m = (dirtyL D'.C).length := by
                        have h3 : M5.length = (dirtyL D'.C).length := by rw [hM5.out, dirtyI, List.length_map]
                        omega
                      rw [← h2, ← hNN.out]
                      exact HA.out)
                    rw [← hD2.out] at hca
                    obtain ⟨X, hX⟩ : ∃ X, Hid (X = flushedR D2 k) := ⟨_, rfl⟩
                    have hWr := HW8.out.stay HKQ.out
                    have ix2 := (hWr.x.own.vec cRs_len).index1 etRs k hkM
                    have ec2 := (hWr.x.own.vec cRs_len).cell1 k hkM
                    have ix3 := (hWr.y.own.vec cRs_len).index1 etRs k hkM3
                    have ec3 := (hWr.y.own.vec cRs_len).cell1 k hkM3
                    have hr2 := (hWr.x.rows _ (List.getElem_mem hkM)).1
                    have hr3 := (hWr.y.rows _ (List.getElem_mem hkM3)).1
                    rw [rows_at HM.out.1 hlk hkM] at hr2 ec2
                    rw [rows_at HM.out.2 hlk hkM3] at hr3 ec3
                    rw [HML.out.1] at ix2
                    rw [HML.out.2] at ix3
                    generalize (M[k]).a = u2 at *
                    generalize (M[k]).c = d2 at *
                    generalize (M3[k]).a = u3 at *
                    generalize (M3[k]).c = d3 at *
                    obtain ⟨Y, hY⟩ : ∃ Y, Hid (Y = flushedR D' (k : Nat)) := ⟨_, rfl⟩
                    obtain ⟨Z, hZ⟩ : ∃ Z, Hid (Z = getR D' k) := ⟨_, rfl⟩
                    rw [← hX.out, ← hY.out, ← hZ.out] at hca
                    rw [← hY.out, ← hZ.out] at hcn
                    rw [← hY.out] at hr2 ec2
                    rw [← hZ.out] at hr3 ec3
                    have HCA := Lib.hid hca
                    have HCN := Lib.hid hcn
                    have HR2 := Lib.hid hr2
                    have HR3 := Lib.hid hr3
                    have HX2 := Lib.hid ix2
                    have HX3 := Lib.hid ix3
                    have HE2 := Lib.hid ec2
                    have HE3 := Lib.hid ec3
                    have HFL : Hid (∀ q : After wr, Calls Try.prog 22 #[.pointer (some ⟨p.b, 0, none⟩), .int .i64 (k : Int)] q.to fun e w' => ∃ a c, e = .returned (.slice a X.length c) ∧ Row w' a X c ∧ Below q.to.heap.size q.to w') := fun q => flushed_row q.to p D2 (HD8.out.stay (HKQ.out.trans (q.bel.mono HKQ.out.size))) k hX.out.symm
                    generalize ad a2 k = y2 at *
                    generalize ad a3 k = y3 at *
                    clear hca hcn hr2 hr3 hWr
                    cases t with
                    | none =>
                      rw [show atI none = -1 from rfl]
                      have e2 : Y = Z := HCN.out rfl
                      have e1 : X = Y := HCA.out.trans (by rw [stayQ, if_neg (by decide)])
                      subst e2
                      subst e1
                      go_upto_region 35 with fail
                      clear ix2 ec2 ix3 ec3
                      refine wp_region_tyg (dwA p.b k n X a2 a3 u2 u3 c2 c3 d2 d3 0 y2 y3) (by kernel_rfl) (by kernel_rfl) (dwA_stay p.b k n X a2 a3 u2 u3 c2 c3 d2 d3 0 y2 y3) ?_ ?_
                      · refine opsAll_cons ?_ (opsAll_cons ?_ (opsAll_cons ?_ (opsAll_cons ?_ (opsAll_cons ?_ (opsAll_cons ?_ (opsAll_cons ?_ (opsAll_cons ?_ (opsAll_cons ?_ (opsAll_cons ?_ (opsAll_cons ?_ (opsAll_cons ?_ (opsAll_cons ?_ (opsAll_cons ?_ (opsAll_cons ?_ (opsAll_cons ?_ (opsAll_cons ?_ (opsAll_cons ?_ (opsAll_cons ?_ (opsAll_cons ?_ (opsAll_cons ?_ (opsAll_cons ?_ opsAll_nil)))))))))))))))))))))
                        all_goals intro a wx hk
                        · exact .inl ⟨wanted_free rfl, gp_move (.tmp 7) rfl ⟨Below.refl _ _, (hk.old 7 (by kernel_rfl)).trans rfl⟩⟩
                        · exact .inl ⟨wanted_free rfl, gp_move (.tmp 16) rfl ⟨Below.refl _ _, (hk.old 16 (by kernel_rfl)).trans rfl⟩⟩
                        · exact .inl ⟨wanted_free rfl, gp_call rfl (hk.fn _) #[.pointer (some ⟨p.b, 0, none⟩), .int .i64 (k : Int)] (fun w => by kernel_rfl) (by simp only [List.map_toArray, List.map_cons, List.map_nil, (show a.eval (.tmp 139) = (.pointer (some ⟨p.b, 0, none⟩)) from hk.slot 139 (by kernel_rfl)), (show a.eval (.tmp 140) = (.int .i64 (k : Int)) from hk.slot 140 (by kernel_rfl))]) (((fun (q : After _) => HFL.out q) ⟨wx, hk.below⟩).mono fun e w' ⟨b, c, he, hv, hb⟩ => ⟨_, he, hb, b, c, rfl, hv⟩)⟩
                        · exact .inl ⟨wanted_free rfl, gp_move (.tmp 20) rfl ⟨Below.refl _ _, (hk.old 20 (by kernel_rfl)).trans rfl⟩⟩
                        · obtain ⟨b1, k1, e1, q1⟩ := hk.slot 141 (by kernel_rfl)
                          exact .inl ⟨wanted_free rfl, gp_call rfl (hk.fn _) #[.slice b1 X.length k1, .slice u2 X.length d2] (fun w => by kernel_rfl) (by simp only [List.map_toArray, List.map_cons, List.map_nil, show a.eval (.tmp 141) = _ from e1, show a.eval (.tmp 142) = (.slice u2 X.length d2) from hk.slot 142 (by kernel_rfl)]) ((wsame_self wx b1 u2 X k1 d2 q1 (HR2.out.stay hk.below)).mono fun e w' ⟨he, hb⟩ => ⟨_, he, hb, rfl⟩)⟩
                        · exact .inl ⟨wanted_free rfl, gp_not rfl true (show a.eval (.tmp 143) = (.bool true) from hk.slot 143 (by kernel_rfl)) ⟨Below.refl _ _, rfl⟩⟩
                        · exact .inl ⟨wanted_free rfl, gp_move (.tmp 144) rfl ⟨Below.refl _ _, hk.slot 144 (by kernel_rfl)⟩⟩
                        · exact .inl ⟨wanted_by 145 false (by kernel_rfl) (show a.eval (.tmp 145) = .bool false from hk.slot 145 (by kernel_rfl)), gp_move (.tmp 17) rfl ⟨Below.refl _ _, (hk.old 17 (by kernel_rfl)).trans rfl⟩⟩
                        · exact .inl ⟨wanted_by 145 false (by kernel_rfl) (show a.eval (.tmp 145) = .bool false from hk.slot 145 (by kernel_rfl)), gp_bin rfl (show a.eval (.tmp 146) = (.int .i64 (-1)) from hk.slot 146 (by kernel_rfl)) rfl (v := .bool true) (fun w => lt_neg w) ⟨Below.refl _ _, rfl⟩⟩
                        · exact .inl ⟨wanted_by 145 false (by kernel_rfl) (show a.eval (.tmp 145) = .bool false from hk.slot 145 (by kernel_rfl)), gp_move (.tmp 147) rfl ⟨Below.refl _ _, hk.slot 147 (by kernel_rfl)⟩⟩
                        · exact .inl ⟨wanted_by 148 true (by kernel_rfl) (show a.eval (.tmp 148) = .bool true from hk.slot 148 (by kernel_rfl)), gp_move (.tmp 10) rfl ⟨Below.refl _ _, (hk.old 10 (by kernel_rfl)).trans rfl⟩⟩
                        · exact .inl ⟨wanted_by 148 true (by kernel_rfl) (show a.eval (.tmp 148) = .bool true from hk.slot 148 (by kernel_rfl)), gp_move (.tmp 16) rfl ⟨Below.refl _ _, (hk.old 16 (by kernel_rfl)).trans rfl⟩⟩
                        · exact .inl ⟨wanted_by 148 true (by kernel_rfl) (show a.eval (.tmp 148) = .bool true from hk.slot 148 (by kernel_rfl)), gp_index (.tmp 149) (.tmp 150) rfl (hk.slot 149 (by kernel_rfl)) (hk.slot 150 (by kernel_rfl)) (v := .pointer (some y2)) (HX2.out wx) ⟨Below.refl _ _, rfl⟩⟩
                        · exact .inl ⟨wanted_by 148 true (by kernel_rfl) (show a.eval (.tmp 148) = .bool true from hk.slot 148 (by kernel_rfl)), gp_load (.tmp 151) rfl (show a.eval (.tmp 151) = (.pointer (some y2)) from hk.slot 151 (by kernel_rfl)) ((fun (q : After _) => load_at (fun w => by kernel_rfl) (keep q.bel HE2.out)) ⟨wx, hk.below⟩) ⟨Below.refl _ _, rfl⟩⟩
                        · exact .inl ⟨wanted_by 148 true (by kernel_rfl) (show a.eval (.tmp 148) = .bool true from hk.slot 148 (by kernel_rfl)), gp_move (.tmp 11) rfl ⟨Below.refl _ _, (hk.old 11 (by kernel_rfl)).trans rfl⟩⟩
                        · exact .inl ⟨wanted_by 148 true (by kernel_rfl) (show a.eval (.tmp 148) = .bool true from hk.slot 148 (by kernel_rfl)), gp_move (.tmp 16) rfl ⟨Below.refl _ _, (hk.old 16 (by kernel_rfl)).trans rfl⟩⟩
                        · exact .inl ⟨wanted_by 148 true (by kernel_rfl) (show a.eval (.tmp 148) = .bool true from hk.slot 148 (by kernel_rfl)), gp_index (.tmp 153) (.tmp 154) rfl (hk.slot 153 (by kernel_rfl)) (hk.slot 154 (by kernel_rfl)) (v := .pointer (some y3)) (HX3.out wx) ⟨Below.refl _ _, rfl⟩⟩
                        · exact .inl ⟨wanted_by 148 true (by kernel_rfl) (show a.eval (.tmp 148) = .bool true from hk.slot 148 (by kernel_rfl)), gp_load (.tmp 155) rfl (show a.eval (.tmp 155) = (.pointer (some y3)) from hk.slot 155 (by kernel_rfl)) ((fun (q : After _) => load_at (fun w => by kernel_rfl) (keep q.bel HE3.out)) ⟨wx, hk.below⟩) ⟨Below.refl _ _, rfl⟩⟩
                        · exact .inl ⟨wanted_by 148 true (by kernel_rfl) (show a.eval (.tmp 148) = .bool true from hk.slot 148 (by kernel_rfl)), gp_call rfl (hk.fn _) #[.slice u2 X.length d2, .slice u3 X.length d3] (fun w => by kernel_rfl) (by simp only [List.map_toArray, List.map_cons, List.map_nil, (show a.eval (.tmp 152) = (.slice u2 X.length d2) from hk.slot 152 (by kernel_rfl)), (show a.eval (.tmp 156) = (.slice u3 X.length d3) from hk.slot 156 (by kernel_rfl))]) (((fun (q : After _) => wsame_self q.to u2 u3 X d2 d3 (HR2.out.stay q.bel) (HR3.out.stay q.bel)) ⟨wx, hk.below⟩).mono fun e w' ⟨he, hb⟩ => ⟨_, he, hb, rfl⟩)⟩
                        · exact .inl ⟨wanted_by 148 true (by kernel_rfl) (show a.eval (.tmp 148) = .bool true from hk.slot 148 (by kernel_rfl)), gp_not rfl true (show a.eval (.tmp 157) = (.bool true) from hk.slot 157 (by kernel_rfl)) ⟨Below.refl _ _, rfl⟩⟩
                        · exact .inl ⟨wanted_by 145 false (by kernel_rfl) (show a.eval (.tmp 145) = .bool false from hk.slot 145 (by kernel_rfl)), gp_pick rfl true (show a.eval (.tmp 148) = (.bool true) from hk.slot 148 (by kernel_rfl)) ⟨Below.refl _ _, (show a.eval (.tmp 158) = (.bool false) from hk.slot 158 (by kernel_rfl))⟩⟩
                        · exact .inl ⟨wanted_free rfl, gp_pick rfl false (show a.eval (.tmp 145) = (.bool false) from hk.slot 145 (by kernel_rfl)) ⟨Below.refl _ _, (show a.eval (.tmp 159) = (.bool false) from hk.slot 159 (by kernel_rfl))⟩⟩
                      intro a wz hbz hsame hall
                      have he := act_same hsame [139, 140, 141, 142, 143, 144, 145, 146, 147, 148, 149, 150, 151, 152, 153, 154, 155, 156, 157, 158, 159, 160] (by kernel_rfl)
                      simp only [List.foldl_cons, List.foldl_nil] at he
                      rw [show a.eval (.tmp 160) = (.bool false) from hall 160 (by kernel_rfl)] at he
                      generalize a.eval (.tmp 139) = y139 at he
                      generalize a.eval (.tmp 140) = y140 at he
                      generalize a.eval (.tmp 141) = y141 at he
                      generalize a.eval (.tmp 142) = y142 at he
                      generalize a.eval (.tmp 143) = y143 at he
                      generalize a.eval (.tmp 144) = y144 at he
                      generalize a.eval (.tmp 145) = y145 at he
                      generalize a.eval (.tmp 146) = y146 at he
                      generalize a.eval (.tmp 147) = y147 at he
                      generalize a.eval (.tmp 148) = y148 at he
                      generalize a.eval (.tmp 149) = y149 at he
                      generalize a.eval (.tmp 150) = y150 at he
                      generalize a.eval (.tmp 151) = y151 at he
                      generalize a.eval (.tmp 152) = y152 at he
                      generalize a.eval (.tmp 153) = y153 at he
                      generalize a.eval (.tmp 154) = y154 at he
                      generalize a.eval (.tmp 155) = y155 at he
                      generalize a.eval (.tmp 156) = y156 at he
                      generalize a.eval (.tmp 157) = y157 at he
                      generalize a.eval (.tmp 158) = y158 at he
                      generalize a.eval (.tmp 159) = y159 at he
                      simp only [put_lit] at he
                      dsimp only [List.set_cons_zero, List.set_cons_succ] at he
                      subst he
                      clear hsame hall
                      have HKZ := Lib.hid (HKQ.out.trans (hbz.mono HKQ.out.size))
                      go_wp2_with fail
                      go_roundw
                      case rel => exact ⟨k + 1, hlk, by go_num, HKZ⟩
                      case measure => simp [intOf]; omega
                    | some j =>
                      rw [show atI (some j) = (j : Int) from rfl]
                      have hjl : j ≤ 1024 := by have h9 : j < m := HA.out.1; omega
                      obtain ⟨b, hb⟩ : ∃ b, Hid (b = bitQ st j) := ⟨_, rfl⟩
                      have HXB : Hid (X = if b = true then Z else Y) := by rw [Hid, hb.out]; exact HCA.out
                      have HRr := Lib.hid (HST8.out.stay HKQ.out)
                      have hll2 := HRr.out.le
                      have hlm2 := HRr.out.top
                      unfold maxLen at hlm2
                      have LTJ := Lib.hid (lt_nat j)
                      rw [HL0.out] at hll2
                      by_cases hb8 : j / 8 < ll
                      · have hb7 : j / 8 < st.length := by rw [HL0.out]; exact hb8
                        have i0 := HRr.out.index bt.slice bt.sz (j / 8) hb7
                        rw [HL0.out] at i0
                        have e2 := HRr.out.cell (j / 8) hb7
                        rw [show ((j / 8 : Nat) : Int) = (j : Int) / 8 by omega] at i0
                        have HB : Hid (b = decide ((st[j / 8]).toNat / 2 ^ (j % 8) % 2 = 1)) := by rw [Hid, hb.out, bitQ]; simp [List.getD, hb7]
                        generalize st[j / 8] = u at e2 HB
                        clear hb7
                        have HTB : Hid (((wrap64 (u.toNat : Int) / 2 ^ (j % 8)).tmod 2 == 1) = b) := by rw [Hid, HB.out]; exact bit_modW u (j % 8)
                        have tB := HTB.out
                        clear HB HTB
                        cases b with
                        | true =>
                          have e1 : X = Z := HXB.out.trans (if_pos rfl)
                          subst e1
                          go_upto_region 35 with fail
                          clear ix2 ec2 ix3 ec3 i0 e2 tB
                          refine wp_region_tyg (dwC p.b k n X a2 a3 u2 u3 c2 c3 d2 d3 j y2 y3) (by kernel_rfl) (by kernel_rfl) (dwC_stay p.b k n X a2 a3 u2 u3 c2 c3 d2 d3 j y2 y3) ?_ ?_
                          · refine opsAll_cons ?_ (opsAll_cons ?_ (opsAll_cons ?_ (opsAll_cons ?_ (opsAll_cons ?_ (opsAll_cons ?_ (opsAll_cons ?_ (opsAll_cons ?_ (opsAll_cons ?_ (opsAll_cons ?_ (opsAll_cons ?_ (opsAll_cons ?_ (opsAll_cons ?_ (opsAll_cons ?_ (opsAll_cons ?_ (opsAll_cons ?_ (opsAll_cons ?_ (opsAll_cons ?_ (opsAll_cons ?_ (opsAll_cons ?_ (opsAll_cons ?_ (opsAll_cons ?_ opsAll_nil)))))))))))))))))))))
                            all_goals intro a wx hk
                            · exact .inl ⟨wanted_free rfl, gp_move (.tmp 7) rfl ⟨Below.refl _ _, (hk.old 7 (by kernel_rfl)).trans rfl⟩⟩
                            · exact .inl ⟨wanted_free rfl, gp_move (.tmp 16) rfl ⟨Below.refl _ _, (hk.old 16 (by kernel_rfl)).trans rfl⟩⟩
                            · exact .inl ⟨wanted_free rfl, gp_call rfl (hk.fn _) #[.pointer (some ⟨p.b, 0, none⟩), .int .i64 (k : Int)] (fun w => by kernel_rfl) (by simp only [List.map_toArray, List.map_cons, List.map_nil, (show a.eval (.tmp 139) = (.pointer (some ⟨p.b, 0, none⟩)) from hk.slot 139 (by kernel_rfl)), (show a.eval (.tmp 140) = (.int .i64 (k : Int)) from hk.slot 140 (by kernel_rfl))]) (((fun (q : After _) => HFL.out q) ⟨wx, hk.below⟩).mono fun e w' ⟨b, c, he, hv, hb⟩ => ⟨_, he, hb, b, c, rfl, hv⟩)⟩
                            · exact .inl ⟨wanted_free rfl, gp_move (.tmp 20) rfl ⟨Below.refl _ _, (hk.old 20 (by kernel_rfl)).trans rfl⟩⟩
                            · obtain ⟨b1, k1, e1, q1⟩ := hk.slot 141 (by kernel_rfl)
                              exact .inl ⟨wanted_free rfl, gp_call rfl (hk.fn _) #[.slice b1 X.length k1, .slice u3 X.length d3] (fun w => by kernel_rfl) (by simp only [List.map_toArray, List.map_cons, List.map_nil, show a.eval (.tmp 141) = _ from e1, show a.eval (.tmp 142) = (.slice u3 X.length d3) from hk.slot 142 (by kernel_rfl)]) ((wsame_self wx b1 u3 X k1 d3 q1 (HR3.out.stay hk.below)).mono fun e w' ⟨he, hb⟩ => ⟨_, he, hb, rfl⟩)⟩
                            · exact .inl ⟨wanted_free rfl, gp_not rfl true (show a.eval (.tmp 143) = (.bool true) from hk.slot 143 (by kernel_rfl)) ⟨Below.refl _ _, rfl⟩⟩
                            · exact .inl ⟨wanted_free rfl, gp_move (.tmp 144) rfl ⟨Below.refl _ _, hk.slot 144 (by kernel_rfl)⟩⟩
                            · exact .inl ⟨wanted_by 145 false (by kernel_rfl) (show a.eval (.tmp 145) = .bool false from hk.slot 145 (by kernel_rfl)), gp_move (.tmp 17) rfl ⟨Below.refl _ _, (hk.old 17 (by kernel_rfl)).trans rfl⟩⟩
                            · exact .inl ⟨wanted_by 145 false (by kernel_rfl) (show a.eval (.tmp 145) = .bool false from hk.slot 145 (by kernel_rfl)), gp_bin rfl (show a.eval (.tmp 146) = (.int .i64 (j : Int)) from hk.slot 146 (by kernel_rfl)) rfl (v := .bool false) (fun w => LTJ.out w) ⟨Below.refl _ _, rfl⟩⟩
                            · exact .inl ⟨wanted_by 145 false (by kernel_rfl) (show a.eval (.tmp 145) = .bool false from hk.slot 145 (by kernel_rfl)), gp_move (.tmp 147) rfl ⟨Below.refl _ _, hk.slot 147 (by kernel_rfl)⟩⟩
                            · exact .inr ⟨unwanted_by 148 true (by kernel_rfl) (show a.eval (.tmp 148) = .bool false from hk.slot 148 (by kernel_rfl)), rfl⟩
                            · exact .inr ⟨unwanted_by 148 true (by kernel_rfl) (show a.eval (.tmp 148) = .bool false from hk.slot 148 (by kernel_rfl)), rfl⟩
                            · exact .inr ⟨unwanted_by 148 true (by kernel_rfl) (show a.eval (.tmp 148) = .bool false from hk.slot 148 (by kernel_rfl)), rfl⟩
                            · exact .inr ⟨unwanted_by 148 true (by kernel_rfl) (show a.eval (.tmp 148) = .bool false from hk.slot 148 (by kernel_rfl)), rfl⟩
                            · exact .inr ⟨unwanted_by 148 true (by kernel_rfl) (show a.eval (.tmp 148) = .bool false from hk.slot 148 (by kernel_rfl)), rfl⟩
                            · exact .inr ⟨unwanted_by 148 true (by kernel_rfl) (show a.eval (.tmp 148) = .bool false from hk.slot 148 (by kernel_rfl)), rfl⟩
                            · exact .inr ⟨unwanted_by 148 true (by kernel_rfl) (show a.eval (.tmp 148) = .bool false from hk.slot 148 (by kernel_rfl)), rfl⟩
                            · exact .inr ⟨unwanted_by 148 true (by kernel_rfl) (show a.eval (.tmp 148) = .bool false from hk.slot 148 (by kernel_rfl)), rfl⟩
                            · exact .inr ⟨unwanted_by 148 true (by kernel_rfl) (show a.eval (.tmp 148) = .bool false from hk.slot 148 (by kernel_rfl)), rfl⟩
                            · exact .inr ⟨unwanted_by 148 true (by kernel_rfl) (show a.eval (.tmp 148) = .bool false from hk.slot 148 (by kernel_rfl)), rfl⟩
                            · exact .inl ⟨wanted_by 145 false (by kernel_rfl) (show a.eval (.tmp 145) = .bool false from hk.slot 145 (by kernel_rfl)), gp_pick rfl false (show a.eval (.tmp 148) = (.bool false) from hk.slot 148 (by kernel_rfl)) ⟨Below.refl _ _, rfl⟩⟩
                            · exact .inl ⟨wanted_free rfl, gp_pick rfl false (show a.eval (.tmp 145) = (.bool false) from hk.slot 145 (by kernel_rfl)) ⟨Below.refl _ _, (show a.eval (.tmp 159) = (.bool false) from hk.slot 159 (by kernel_rfl))⟩⟩
                          intro a wz hbz hsame hall
                          have he := act_same hsame [139, 140, 141, 142, 143, 144, 145, 146, 147, 148, 149, 150, 151, 152, 153, 154, 155, 156, 157, 158, 159, 160] (by kernel_rfl)
                          simp only [List.foldl_cons, List.foldl_nil] at he
                          rw [show a.eval (.tmp 160) = (.bool false) from hall 160 (by kernel_rfl)] at he
                          generalize a.eval (.tmp 139) = y139 at he
                          generalize a.eval (.tmp 140) = y140 at he
                          generalize a.eval (.tmp 141) = y141 at he
                          generalize a.eval (.tmp 142) = y142 at he
                          generalize a.eval (.tmp 143) = y143 at he
                          generalize a.eval (.tmp 144) = y144 at he
                          generalize a.eval (.tmp 145) = y145 at he
                          generalize a.eval (.tmp 146) = y146 at he
                          generalize a.eval (.tmp 147) = y147 at he
                          generalize a.eval (.tmp 148) = y148 at he
                          generalize a.eval (.tmp 149) = y149 at he
                          generalize a.eval (.tmp 150) = y150 at he
                          generalize a.eval (.tmp 151) = y151 at he
                          generalize a.eval (.tmp 152) = y152 at he
                          generalize a.eval (.tmp 153) = y153 at he
                          generalize a.eval (.tmp 154) = y154 at he
                          generalize a.eval (.tmp 155) = y155 at he
                          generalize a.eval (.tmp 156) = y156 at he
                          generalize a.eval (.tmp 157) = y157 at he
                          generalize a.eval (.tmp 158) = y158 at he
                          generalize a.eval (.tmp 159) = y159 at he
                          simp only [put_lit] at he
                          dsimp only [List.set_cons_zero, List.set_cons_succ] at he
                          subst he
                          clear hsame hall
                          have HKZ := Lib.hid (HKQ.out.trans (hbz.mono HKQ.out.size))
                          go_wp2_with fail
                          go_roundw
                          case rel => exact ⟨k + 1, hlk, by go_num, HKZ⟩
                          case measure => simp [intOf]; omega
                        | false =>
                          have e1 : X = Y := HXB.out.trans (if_neg (by decide))
                          subst e1
                          go_upto_region 35 with fail
                          clear ix2 ec2 ix3 ec3 i0 e2 tB
                          refine wp_region_tyg (dwB p.b k n X a2 a3 u2 u3 c2 c3 d2 d3 j y2 y3) (by kernel_rfl) (by kernel_rfl) (dwB_stay p.b k n X a2 a3 u2 u3 c2 c3 d2 d3 j y2 y3) ?_ ?_
                          · refine opsAll_cons ?_ (opsAll_cons ?_ (opsAll_cons ?_ (opsAll_cons ?_ (opsAll_cons ?_ (opsAll_cons ?_ (opsAll_cons ?_ (opsAll_cons ?_ (opsAll_cons ?_ (opsAll_cons ?_ (opsAll_cons ?_ (opsAll_cons ?_ (opsAll_cons ?_ (opsAll_cons ?_ (opsAll_cons ?_ (opsAll_cons ?_ (opsAll_cons ?_ (opsAll_cons ?_ (opsAll_cons ?_ (opsAll_cons ?_ (opsAll_cons ?_ (opsAll_cons ?_ opsAll_nil)))))))))))))))))))))
                            all_goals intro a wx hk
                            · exact .inl ⟨wanted_free rfl, gp_move (.tmp 7) rfl ⟨Below.refl _ _, (hk.old 7 (by kernel_rfl)).trans rfl⟩⟩
                            · exact .inl ⟨wanted_free rfl, gp_move (.tmp 16) rfl ⟨Below.refl _ _, (hk.old 16 (by kernel_rfl)).trans rfl⟩⟩
                            · exact .inl ⟨wanted_free rfl, gp_call rfl (hk.fn _) #[.pointer (some ⟨p.b, 0, none⟩), .int .i64 (k : Int)] (fun w => by kernel_rfl) (by simp only [List.map_toArray, List.map_cons, List.map_nil, (show a.eval (.tmp 139) = (.pointer (some ⟨p.b, 0, none⟩)) from hk.slot 139 (by kernel_rfl)), (show a.eval (.tmp 140) = (.int .i64 (k : Int)) from hk.slot 140 (by kernel_rfl))]) (((fun (q : After _) => HFL.out q) ⟨wx, hk.below⟩).mono fun e w' ⟨b, c, he, hv, hb⟩ => ⟨_, he, hb, b, c, rfl, hv⟩)⟩
                            · exact .inl ⟨wanted_free rfl, gp_move (.tmp 20) rfl ⟨Below.refl _ _, (hk.old 20 (by kernel_rfl)).trans rfl⟩⟩
                            · obtain ⟨b1, k1, e1, q1⟩ := hk.slot 141 (by kernel_rfl)
                              exact .inl ⟨wanted_free rfl, gp_call rfl (hk.fn _) #[.slice b1 X.length k1, .slice u2 X.length d2] (fun w => by kernel_rfl) (by simp only [List.map_toArray, List.map_cons, List.map_nil, show a.eval (.tmp 141) = _ from e1, show a.eval (.tmp 142) = (.slice u2 X.length d2) from hk.slot 142 (by kernel_rfl)]) ((wsame_self wx b1 u2 X k1 d2 q1 (HR2.out.stay hk.below)).mono fun e w' ⟨he, hb⟩ => ⟨_, he, hb, rfl⟩)⟩
                            · exact .inl ⟨wanted_free rfl, gp_not rfl true (show a.eval (.tmp 143) = (.bool true) from hk.slot 143 (by kernel_rfl)) ⟨Below.refl _ _, rfl⟩⟩
                            · exact .inl ⟨wanted_free rfl, gp_move (.tmp 144) rfl ⟨Below.refl _ _, hk.slot 144 (by kernel_rfl)⟩⟩
                            · exact .inl ⟨wanted_by 145 false (by kernel_rfl) (show a.eval (.tmp 145) = .bool false from hk.slot 145 (by kernel_rfl)), gp_move (.tmp 17) rfl ⟨Below.refl _ _, (hk.old 17 (by kernel_rfl)).trans rfl⟩⟩
                            · exact .inl ⟨wanted_by 145 false (by kernel_rfl) (show a.eval (.tmp 145) = .bool false from hk.slot 145 (by kernel_rfl)), gp_bin rfl (show a.eval (.tmp 146) = (.int .i64 (j : Int)) from hk.slot 146 (by kernel_rfl)) rfl (v := .bool false) (fun w => LTJ.out w) ⟨Below.refl _ _, rfl⟩⟩
                            · exact .inl ⟨wanted_by 145 false (by kernel_rfl) (show a.eval (.tmp 145) = .bool false from hk.slot 145 (by kernel_rfl)), gp_move (.tmp 147) rfl ⟨Below.refl _ _, hk.slot 147 (by kernel_rfl)⟩⟩
                            · exact .inr ⟨unwanted_by 148 true (by kernel_rfl) (show a.eval (.tmp 148) = .bool false from hk.slot 148 (by kernel_rfl)), rfl⟩
                            · exact .inr ⟨unwanted_by 148 true (by kernel_rfl) (show a.eval (.tmp 148) = .bool false from hk.slot 148 (by kernel_rfl)), rfl⟩
                            · exact .inr ⟨unwanted_by 148 true (by kernel_rfl) (show a.eval (.tmp 148) = .bool false from hk.slot 148 (by kernel_rfl)), rfl⟩
                            · exact .inr ⟨unwanted_by 148 true (by kernel_rfl) (show a.eval (.tmp 148) = .bool false from hk.slot 148 (by kernel_rfl)), rfl⟩
                            · exact .inr ⟨unwanted_by 148 true (by kernel_rfl) (show a.eval (.tmp 148) = .bool false from hk.slot 148 (by kernel_rfl)), rfl⟩
                            · exact .inr ⟨unwanted_by 148 true (by kernel_rfl) (show a.eval (.tmp 148) = .bool false from hk.slot 148 (by kernel_rfl)), rfl⟩
                            · exact .inr ⟨unwanted_by 148 true (by kernel_rfl) (show a.eval (.tmp 148) = .bool false from hk.slot 148 (by kernel_rfl)), rfl⟩
                            · exact .inr ⟨unwanted_by 148 true (by kernel_rfl) (show a.eval (.tmp 148) = .bool false from hk.slot 148 (by kernel_rfl)), rfl⟩
                            · exact .inr ⟨unwanted_by 148 true (by kernel_rfl) (show a.eval (.tmp 148) = .bool false from hk.slot 148 (by kernel_rfl)), rfl⟩
                            · exact .inr ⟨unwanted_by 148 true (by kernel_rfl) (show a.eval (.tmp 148) = .bool false from hk.slot 148 (by kernel_rfl)), rfl⟩
                            · exact .inl ⟨wanted_by 145 false (by kernel_rfl) (show a.eval (.tmp 145) = .bool false from hk.slot 145 (by kernel_rfl)), gp_pick rfl false (show a.eval (.tmp 148) = (.bool false) from hk.slot 148 (by kernel_rfl)) ⟨Below.refl _ _, rfl⟩⟩
                            · exact .inl ⟨wanted_free rfl, gp_pick rfl false (show a.eval (.tmp 145) = (.bool false) from hk.slot 145 (by kernel_rfl)) ⟨Below.refl _ _, (show a.eval (.tmp 159) = (.bool false) from hk.slot 159 (by kernel_rfl))⟩⟩
                          intro a wz hbz hsame hall
                          have he := act_same hsame [139, 140, 141, 142, 143, 144, 145, 146, 147, 148, 149, 150, 151, 152, 153, 154, 155, 156, 157, 158, 159, 160] (by kernel_rfl)
                          simp only [List.foldl_cons, List.foldl_nil] at he
                          rw [show a.eval (.tmp 160) = (.bool false) from hall 160 (by kernel_rfl)] at he
                          generalize a.eval (.tmp 139) = y139 at he
                          generalize a.eval (.tmp 140) = y140 at he
                          generalize a.eval (.tmp 141) = y141 at he
                          generalize a.eval (.tmp 142) = y142 at he
                          generalize a.eval (.tmp 143) = y143 at he
                          generalize a.eval (.tmp 144) = y144 at he
                          generalize a.eval (.tmp 145) = y145 at he
                          generalize a.eval (.tmp 146) = y146 at he
                          generalize a.eval (.tmp 147) = y147 at he
                          generalize a.eval (.tmp 148) = y148 at he
                          generalize a.eval (.tmp 149) = y149 at he
                          generalize a.eval (.tmp 150) = y150 at he
                          generalize a.eval (.tmp 151) = y151 at he
                          generalize a.eval (.tmp 152) = y152 at he
                          generalize a.eval (.tmp 153) = y153 at he
                          generalize a.eval (.tmp 154) = y154 at he
                          generalize a.eval (.tmp 155) = y155 at he
                          generalize a.eval (.tmp 156) = y156 at he
                          generalize a.eval (.tmp 157) = y157 at he
                          generalize a.eval (.tmp 158) = y158 at he
                          generalize a.eval (.tmp 159) = y159 at he
                          simp only [put_lit] at he
                          dsimp only [List.set_cons_zero, List.set_cons_succ] at he
                          subst he
                          clear hsame hall
                          have HKZ := Lib.hid (HKQ.out.trans (hbz.mono HKQ.out.size))
                          go_wp2_with fail
                          go_roundw
                          case rel => exact ⟨k + 1, hlk, by go_num, HKZ⟩
                          case measure => simp [intOf]; omega
                      · have HB : Hid (b = false) := by rw [Hid, hb.out, bitQ]; simp [List.getD, show ¬ j / 8 < st.length by rw [HL0.out]; exact hb8]
                        have hb0 := HB.out
                        subst hb0
                        have e1 : X = Y := HXB.out.trans (if_neg (by decide))
                        subst e1
                        go_upto_region 35 with fail
                        clear ix2 ec2 ix3 ec3
                        refine wp_region_tyg (dwB p.b k n X a2 a3 u2 u3 c2 c3 d2 d3 j y2 y3) (by kernel_rfl) (by kernel_rfl) (dwB_stay p.b k n X a2 a3 u2 u3 c2 c3 d2 d3 j y2 y3) ?_ ?_
                        · refine opsAll_cons ?_ (opsAll_cons ?_ (opsAll_cons ?_ (opsAll_cons ?_ (opsAll_cons ?_ (opsAll_cons ?_ (opsAll_cons ?_ (opsAll_cons ?_ (opsAll_cons ?_ (opsAll_cons ?_ (opsAll_cons ?_ (opsAll_cons ?_ (opsAll_cons ?_ (opsAll_cons ?_ (opsAll_cons ?_ (opsAll_cons ?_ (opsAll_cons ?_ (opsAll_cons ?_ (opsAll_cons ?_ (opsAll_cons ?_ (opsAll_cons ?_ (opsAll_cons ?_ opsAll_nil)))))))))))))))))))))
                          all_goals intro a wx hk
                          · exact .inl ⟨wanted_free rfl, gp_move (.tmp 7) rfl ⟨Below.refl _ _, (hk.old 7 (by kernel_rfl)).trans rfl⟩⟩
                          · exact .inl ⟨wanted_free rfl, gp_move (.tmp 16) rfl ⟨Below.refl _ _, (hk.old 16 (by kernel_rfl)).trans rfl⟩⟩
                          · exact .inl ⟨wanted_free rfl, gp_call rfl (hk.fn _) #[.pointer (some ⟨p.b, 0, none⟩), .int .i64 (k : Int)] (fun w => by kernel_rfl) (by simp only [List.map_toArray, List.map_cons, List.map_nil, (show a.eval (.tmp 139) = (.pointer (some ⟨p.b, 0, none⟩)) from hk.slot 139 (by kernel_rfl)), (show a.eval (.tmp 140) = (.int .i64 (k : Int)) from hk.slot 140 (by kernel_rfl))]) (((fun (q : After _) => HFL.out q) ⟨wx, hk.below⟩).mono fun e w' ⟨b, c, he, hv, hb⟩ => ⟨_, he, hb, b, c, rfl, hv⟩)⟩
                          · exact .inl ⟨wanted_free rfl, gp_move (.tmp 20) rfl ⟨Below.refl _ _, (hk.old 20 (by kernel_rfl)).trans rfl⟩⟩
                          · obtain ⟨b1, k1, e1, q1⟩ := hk.slot 141 (by kernel_rfl)
                            exact .inl ⟨wanted_free rfl, gp_call rfl (hk.fn _) #[.slice b1 X.length k1, .slice u2 X.length d2] (fun w => by kernel_rfl) (by simp only [List.map_toArray, List.map_cons, List.map_nil, show a.eval (.tmp 141) = _ from e1, show a.eval (.tmp 142) = (.slice u2 X.length d2) from hk.slot 142 (by kernel_rfl)]) ((wsame_self wx b1 u2 X k1 d2 q1 (HR2.out.stay hk.below)).mono fun e w' ⟨he, hb⟩ => ⟨_, he, hb, rfl⟩)⟩
                          · exact .inl ⟨wanted_free rfl, gp_not rfl true (show a.eval (.tmp 143) = (.bool true) from hk.slot 143 (by kernel_rfl)) ⟨Below.refl _ _, rfl⟩⟩
                          · exact .inl ⟨wanted_free rfl, gp_move (.tmp 144) rfl ⟨Below.refl _ _, hk.slot 144 (by kernel_rfl)⟩⟩
                          · exact .inl ⟨wanted_by 145 false (by kernel_rfl) (show a.eval (.tmp 145) = .bool false from hk.slot 145 (by kernel_rfl)), gp_move (.tmp 17) rfl ⟨Below.refl _ _, (hk.old 17 (by kernel_rfl)).trans rfl⟩⟩
                          · exact .inl ⟨wanted_by 145 false (by kernel_rfl) (show a.eval (.tmp 145) = .bool false from hk.slot 145 (by kernel_rfl)), gp_bin rfl (show a.eval (.tmp 146) = (.int .i64 (j : Int)) from hk.slot 146 (by kernel_rfl)) rfl (v := .bool false) (fun w => LTJ.out w) ⟨Below.refl _ _, rfl⟩⟩
                          · exact .inl ⟨wanted_by 145 false (by kernel_rfl) (show a.eval (.tmp 145) = .bool false from hk.slot 145 (by kernel_rfl)), gp_move (.tmp 147) rfl ⟨Below.refl _ _, hk.slot 147 (by kernel_rfl)⟩⟩
                          · exact .inr ⟨unwanted_by 148 true (by kernel_rfl) (show a.eval (.tmp 148) = .bool false from hk.slot 148 (by kernel_rfl)), rfl⟩
                          · exact .inr ⟨unwanted_by 148 true (by kernel_rfl) (show a.eval (.tmp 148) = .bool false from hk.slot 148 (by kernel_rfl)), rfl⟩
                          · exact .inr ⟨unwanted_by 148 true (by kernel_rfl) (show a.eval (.tmp 148) = .bool false from hk.slot 148 (by kernel_rfl)), rfl⟩
                          · exact .inr ⟨unwanted_by 148 true (by kernel_rfl) (show a.eval (.tmp 148) = .bool false from hk.slot 148 (by kernel_rfl)), rfl⟩
                          · exact .inr ⟨unwanted_by 148 true (by kernel_rfl) (show a.eval (.tmp 148) = .bool false from hk.slot 148 (by kernel_rfl)), rfl⟩
                          · exact .inr ⟨unwanted_by 148 true (by kernel_rfl) (show a.eval (.tmp 148) = .bool false from hk.slot 148 (by kernel_rfl)), rfl⟩
                          · exact .inr ⟨unwanted_by 148 true (by kernel_rfl) (show a.eval (.tmp 148) = .bool false from hk.slot 148 (by kernel_rfl)), rfl⟩
                          · exact .inr ⟨unwanted_by 148 true (by kernel_rfl) (show a.eval (.tmp 148) = .bool false from hk.slot 148 (by kernel_rfl)), rfl⟩
                          · exact .inr ⟨unwanted_by 148 true (by kernel_rfl) (show a.eval (.tmp 148) = .bool false from hk.slot 148 (by kernel_rfl)), rfl⟩
                          · exact .inr ⟨unwanted_by 148 true (by kernel_rfl) (show a.eval (.tmp 148) = .bool false from hk.slot 148 (by kernel_rfl)), rfl⟩
                          · exact .inl ⟨wanted_by 145 false (by kernel_rfl) (show a.eval (.tmp 145) = .bool false from hk.slot 145 (by kernel_rfl)), gp_pick rfl false (show a.eval (.tmp 148) = (.bool false) from hk.slot 148 (by kernel_rfl)) ⟨Below.refl _ _, rfl⟩⟩
                          · exact .inl ⟨wanted_free rfl, gp_pick rfl false (show a.eval (.tmp 145) = (.bool false) from hk.slot 145 (by kernel_rfl)) ⟨Below.refl _ _, (show a.eval (.tmp 159) = (.bool false) from hk.slot 159 (by kernel_rfl))⟩⟩
                        intro a wz hbz hsame hall
                        have he := act_same hsame [139, 140, 141, 142, 143, 144, 145, 146, 147, 148, 149, 150, 151, 152, 153, 154, 155, 156, 157, 158, 159, 160] (by kernel_rfl)
                        simp only [List.foldl_cons, List.foldl_nil] at he
                        rw [show a.eval (.tmp 160) = (.bool false) from hall 160 (by kernel_rfl)] at he
                        generalize a.eval (.tmp 139) = y139 at he
                        generalize a.eval (.tmp 140) = y140 at he
                        generalize a.eval (.tmp 141) = y141 at he
                        generalize a.eval (.tmp 142) = y142 at he
                        generalize a.eval (.tmp 143) = y143 at he
                        generalize a.eval (.tmp 144) = y144 at he
                        generalize a.eval (.tmp 145) = y145 at he
                        generalize a.eval (.tmp 146) = y146 at he
                        generalize a.eval (.tmp 147) = y147 at he
                        generalize a.eval (.tmp 148) = y148 at he
                        generalize a.eval (.tmp 149) = y149 at he
                        generalize a.eval (.tmp 150) = y150 at he
                        generalize a.eval (.tmp 151) = y151 at he
                        generalize a.eval (.tmp 152) = y152 at he
                        generalize a.eval (.tmp 153) = y153 at he
                        generalize a.eval (.tmp 154) = y154 at he
                        generalize a.eval (.tmp 155) = y155 at he
                        generalize a.eval (.tmp 156) = y156 at he
                        generalize a.eval (.tmp 157) = y157 at he
                        generalize a.eval (.tmp 158) = y158 at he
                        generalize a.eval (.tmp 159) = y159 at he
                        simp only [put_lit] at he
                        dsimp only [List.set_cons_zero, List.set_cons_succ] at he
                        subst he
                        clear hsame hall
                        have HKZ := Lib.hid (HKQ.out.trans (hbz.mono HKQ.out.size))
                        go_wp2_with fail
                        go_roundw
                        case rel => exact ⟨k + 1, hlk, by go_num, HKZ⟩
                        case measure => simp [intOf]; omega
              · go_wp2_with fail
                go_ret
                exact ⟨rfl, HB8.out.trans (HK.out.mono HB8.out.size)⟩
set_option maxRecDepth 100000 in
set_option maxHeartbeats 4000000 in
theorem diskWhole_all (w : World) (n : Int) (a : Option Addr) (L : List Ac) (c : Nat) (a9 : Option Addr) (st : List UInt8) (c9 : Nat) (_hn : -9223372036854775808 ≤ n ∧ n ≤ 9223372036854775807) (h : Acts w a L c) (hst : Row w a9 st c9) :
    Calls Try.prog 5 #[.int .i64 n, .slice a L.length c, .slice a9 st.length c9] w fun e w' => e = .returned (.bool true) ∧ Below w.heap.size w w' := by
  by_cases hb : n < 1 ∨ 12 < n ∨ 6000 < totA L
  · have HH := Lib.hid h
    clear h _hn hst
    generalize st.length = ll
    go_enter Try.func5, Try.ntmps5
    go_wp2_with fail
    refine (awake6_calls w).mono ?_
    rintro e w1 ⟨rfl, hb1⟩
    have hmd := made_bad w1 n a L c (HH.out.stay hb1) hb
    have HB1 := Lib.hid hb1
    clear hb1 hb
    go_wp2_with fail
    refine (hmd).mono ?_
    rintro e w2 ⟨rfl, rfl⟩
    go_wp2_with fail
    go_ret
    exact ⟨rfl, HB1.out⟩
  · obtain ⟨m, rfl⟩ : ∃ m : Nat, n = (m : Int) := ⟨n.toNat, by omega⟩
    by_cases h50 : st.length ≤ 50
    · obtain ⟨ll, hl⟩ : ∃ ll, st.length = ll := ⟨_, rfl⟩
      rw [hl]
      exact diskWhole_good w m a L c h (by omega) (by omega) (by omega) a9 st c9 hst ll hl (by omega)
    · have HH := Lib.hid h
      have hT : totA L ≤ 6000 := by omega
      have h1 : 1 ≤ m := by omega
      have h12 : m ≤ 12 := by omega
      have HT := Lib.hid (And.intro hT (And.intro h1 h12))
      have hm := hst.le
      have ht := hst.top
      unfold maxLen at ht
      clear h _hn hb hT h1 h12 hst
      generalize st.length = ll at *
      go_enter Try.func5, Try.ntmps5
      go_wp2_with fail
      refine (awake6_calls w).mono ?_
      rintro e w1 ⟨rfl, hb1⟩
      have hmd := made_calls w1 m a L c (HH.out.stay hb1) HT.out.2.1 HT.out.2.2 HT.out.1
      have HB1 := Lib.hid hb1
      clear hb1
      go_wp2_with fail
      refine (hmd).mono ?_
      rintro e w2 ⟨p, rfl, _, _, _, hb2⟩
      have HB2 := Lib.hid (HB1.out.trans (hb2.mono HB1.out.size))
      clear hb2
      go_wp2_with fail
      go_ret
      exact ⟨rfl, HB2.out⟩
end Go.Proofs.Ytofagofpeedfcaa
