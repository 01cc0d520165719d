/- Chapter 6's law DiskArmed: walked. -/
import Derived.Test.YtofagofpeedfcaaArm6
import Derived.Deep.CutBlock
import Derived.Deep.DeepCutAuto
namespace Go.Proofs.Ytofagofpeedfcaa
open Go Go.RowKit Go.Cit

set_option maxRecDepth 100000 in
set_option maxHeartbeats 4000000 in
theorem diskArmed_good (w : World) (n : Nat) (a : Option Addr) (L : List Ac) (c : Nat) (h : Acts w a L c) (h1 : 1 ≤ n) (h12 : n ≤ 12) (hT : totA L ≤ 6000) (hL : L.length ≤ 40) (A : Nat) (hA1 : 1 ≤ A) (hA9 : A ≤ 9223372036854775807) (a9 : Option Addr) (st : List UInt8) (c9 : Nat) (hst : Row w a9 st c9) (ll : Nat) (hl0 : st.length = ll) (hs50 : ll ≤ 50) :
    Calls Try.prog 7 #[.int .i64 (n : Int), .slice a L.length c, .int .i64 (A : Int), .slice a9 ll c9] w fun e w' => e = .returned (.bool true) ∧ Below w.heap.size w w' := by
  have hll := h.vec.len_le
  have HH := Lib.hid h
  have HT := Lib.hid hT
  have HST := Lib.hid hst
  have HL0 := Lib.hid hl0
  clear h hT hst hl0
  go_enter Try.func7, Try.ntmps7
  go_wp2_with fail
  refine (awake6_calls w).mono ?_
  rintro e w1 ⟨rfl, hb1⟩
  have HB1 := Lib.hid hb1
  have hmd := made_calls w1 n a L c (HH.out.stay hb1) h1 h12 HT.out
  clear hb1
  go_wp2_with fail
  refine (hmd).mono ?_
  rintro e w2 ⟨p1, rfl, hD2, hc2, hpl, hb2⟩
  have HB2 := Lib.hid (HB1.out.trans (hb2.mono HB1.out.size))
  have HD2 := Lib.hid hD2
  have HC2 := Lib.hid hc2
  have HPL := Lib.hid hpl
  have hmd := made_calls w2 n a L c (HH.out.stay HB2.out) h1 h12 HT.out
  clear hD2 hc2 hpl hb2
  go_wp2_with fail
  refine (hmd).mono ?_
  rintro e w3 ⟨p2, rfl, hD3, hc3, hpl, hb3⟩
  have HB3 := Lib.hid (HB2.out.trans (hb3.mono HB2.out.size))
  have HBO := Lib.hid (both_made HD2.out HC2.out hb3 hD3 hc3 hpl)
  have HPW : Hid (∀ k, k < w.heap.size → p1.Off k ∧ p2.Off k) := fun k hk => by
    have h1 := HPL.out
    have h2 := HB1.out.size
    have h3 := HB2.out.size
    exact ⟨⟨by omega, by omega, by omega⟩, ⟨by omega, by omega, by omega⟩⟩
  have har := HBO.out.armA (A : Int) (by omega) a9 st c9 (HST.out.stay HB3.out) (by have := HL0.out; omega)
  obtain ⟨eA, hAm⟩ := armd_new n A st hA1
  rw [eA, HL0.out] at har
  have HAM := Lib.hid hAm
  clear hD3 hc3 hpl hb3 eA hAm HC2 HD2 hmd
  have tA : ¬ (A : Int) < 1 := by omega
  go_wp2_with fail
  refine (har).mono ?_
  rintro e w4 ⟨rfl, hB4, hs4⟩
  have HBO := Lib.hid hB4
  have HB4 := Lib.hid (HB3.out.trans (hs4.below HB3.out.size (fun k hk => (HPW.out k hk).1)))
  clear hB4 hs4 har
  have HAL : Hid (L.length ≤ 40) := hL
  go_upto_block 0 with fail
  go_cut [14] (fun _ wx => ∃ D1 D2, Hid (Both wx p1 p2 D1 D2) ∧ Hid (D1.up = D2.up ∧ D1.S = D2.S) ∧ Hid (Below w.heap.size w wx))
  case first =>
    go_wp2_with fail
    go_loopw [13, 14] (fun s j wr => ∃ (q d : Nat) (D1 D2 : Dk), q ≤ L.length ∧ j = .int .i64 (q : Int) ∧ s = .int .i64 (d : Int) ∧ Hid (Both wr p1 p2 D1 D2 ∧ Armd A st d D1 D2 ∧ D2.S.length = n) ∧ Hid (Below w.heap.size w wr)) (fun _ j _ => L.length - (intOf j).toNat)
    case atStart => exact ⟨0, 0, _, _, Nat.zero_le _, rfl, rfl, ⟨HBO.out, HAM.out, by simp [newD]⟩, HB4.out⟩
    case round =>
      obtain ⟨q, d, D1, D2, hq, rfl, rfl, HI, HBD⟩ := hrel
      have hdA : d < A := HI.out.2.1.lt
      by_cases hlt : q < L.length
      · have hA := HH.out.stay HBD.out
        have i0 := hA.vec.index etA q hlt
        have hxl : (L[q]).l.length ≤ 6000 := by have h1 := totA_one L q hlt; have h2 := HT.out; omega
        have HLD := Lib.hid (hA.load q hlt)
        have HAT := Lib.hid ((HH.out.at_ _ (List.getElem_mem hlt)))
        have HXL := Lib.hid hxl
        obtain ⟨c0, c1, c2⟩ := hA.cells q hlt
        have HAC : Hid (∀ w', Below w.heap.size w w' → w'.cell? (ad a (q * 3)) = some (.int .i64 (L[q]).kind) ∧ w'.cell? ⟨(ad a (q * 3)).block, (ad a (q * 3)).off + 1, none⟩ = some (.int .i64 (L[q]).n) ∧ w'.cell? ⟨(ad a (q * 3)).block, (ad a (q * 3)).off + 2, none⟩ = some (.slice (L[q]).a (L[q]).l.length (L[q]).c)) := fun w' hb => (HH.out.stay hb).cells q hlt
        have HLD2 : Hid (∀ w', Below w.heap.size w w' → (loadVar 24 (ad a (q * 3))).run Try.prog w' = .ok (.agg (L[q]).cs.toArray) w') := fun w' hb => (HH.out.stay hb).load q hlt
        have HO1 := Lib.hid (act_off HH.out (p := p1) (fun k hk => (HPW.out k hk).1) q hlt)
        have HO2 := Lib.hid (act_off HH.out (p := p2) (fun k hk => (HPW.out k hk).2) q hlt)
        have HDA := Lib.hid (HI.out.1.doA L[q] (HAT.out.stay HBD.out) hxl HO1.out)
        generalize L[q] = y at HLD HAT HXL c0 c1 c2 HAC HLD2 HO1 HO2 HDA
        clear hA hxl
        by_cases hkn : y.kind < 0
        · go_wp2_with fail
          go_roundw
          case rel => exact ⟨q + 1, d, _, _, hlt, by go_num, rfl, HI, HBD⟩
          case measure => simp [intOf]; omega
        by_cases hk4 : 4 < y.kind
        · go_wp2_with fail
          go_roundw
          case rel => exact ⟨q + 1, d, _, _, hlt, by go_num, rfl, HI, HBD⟩
          case measure => simp [intOf]; omega
        have HK : Hid (0 ≤ y.kind ∧ y.kind ≤ 4) := ⟨by omega, by omega⟩
        by_cases hd : d + 1 < A
        · have t1 : (d : Int) < (A : Int) - 1 := by omega
          obtain ⟨eE, hNX⟩ := armd_do HI.out.2.1 hd y HK.out
          have HNS : Hid ((actD D2 y).S.length = n) := by rw [Hid, (actD_ok HI.out.1.b.ok y HXL.out HAT.out.hn.2).2]; exact HI.out.2.2
          obtain ⟨E, hE⟩ : ∃ E, Hid (E = actE D2 y) := ⟨_, rfl⟩
          rw [← hE.out] at eE hNX
          rw [eE] at HDA
          have HNX := Lib.hid hNX
          clear eE hNX
          go_wp2_with ((with_reducible refine wpList_load_rn (o := ⟨some 82, .load _ (.tmp 81), _, _, _, _⟩) (.tmp 81) (by with_unfolding_all rfl) (by with_unfolding_all rfl) (by with_unfolding_all rfl) HLD.out ?_))
          refine (HDA.out).mono ?_
          rintro e w6 ⟨rfl, hB6, hs6⟩
          have HB6 := Lib.hid (HBD.out.trans (hs6.below HBD.out.size (fun k hk => (HPW.out k hk).1)))
          have HBO6 := Lib.hid hB6
          have HDB := Lib.hid (hB6.doB y (HAT.out.stay HB6.out) HXL.out HO2.out)
          rw [← hE.out] at HDB
          have HLE := Lib.hid (HLD2.out w6 HB6.out)
          clear hB6 hs6 c0 c1 c2
          go_wp2_with ((with_reducible refine wpList_load_rn (o := ⟨some 92, .load _ (.tmp 91), _, _, _, _⟩) (.tmp 91) (by with_unfolding_all rfl) (by with_unfolding_all rfl) (by with_unfolding_all rfl) HLE.out ?_))
          refine (HDB.out).mono ?_
          rintro e w7 ⟨rfl, hB7, hs7⟩
          have HB7 := Lib.hid (HB6.out.trans (hs7.below HB6.out.size (fun k hk => (HPW.out k hk).2)))
          have HBO7 := Lib.hid hB7
          clear hB7 hs7
          by_cases hE0 : E = 0
          · subst hE0
            rw [if_pos rfl] at HNX
            have t2 : ((d : Int) + 1) ≤ 9223372036854775807 := by omega
            go_wp2_with fail
            go_roundw
            case rel => exact ⟨q + 1, d + 1, _, _, hlt, by go_num, by go_num, ⟨HBO7.out, HNX.out, HNS.out⟩, HB7⟩
            case measure => simp [intOf]; omega
          · have t0 : (E == 0) = false := by simp [hE0]
            rw [if_neg hE0] at HNX
            go_wp2_with fail
            go_roundw
            case rel => exact ⟨q + 1, d, _, _, hlt, by go_num, rfl, ⟨HBO7.out, HNX.out, HNS.out⟩, HB7⟩
            case measure => simp [intOf]; omega
        · have t1 : ¬ (d : Int) < (A : Int) - 1 := by omega
          have hdl : d + 1 = A := by omega
          by_cases hk2 : y.kind ≤ 2
          · by_cases hok : (0 ≤ y.n ∧ y.n < (D2.S.length : Int)) ∧ (secL y.l).length = 64
            · obtain ⟨eE, eD⟩ := armd_last HI.out.2.1 hdl y HK.out (fun _ => hok)
              rw [eE, eD] at HDA
              have HUP := Lib.hid HI.out.2.1.up
              have t2 : ¬ y.n < 0 := by omega
              have t3 : ¬ (n : Int) ≤ y.n := by rw [HI.out.2.2] at hok; omega
              have h64 := hok.2
              clear hok eE eD
              go_wp2_with ((with_reducible refine wpList_load_rn (o := ⟨some 82, .load _ (.tmp 81), _, _, _, _⟩) (.tmp 81) (by with_unfolding_all rfl) (by with_unfolding_all rfl) (by with_unfolding_all rfl) HLD.out ?_))
              refine (HDA.out).mono ?_
              rintro e w6 ⟨rfl, hB6, hs6⟩
              have HB6 := Lib.hid (HBD.out.trans (hs6.below HBD.out.size (fun k hk => (HPW.out k hk).1)))
              have HBO6 := Lib.hid hB6
              obtain ⟨c0, c1, c2⟩ := HAC.out w6 HB6.out
              clear hB6 hs6
              have hsec := sector_calls w6 y.a y.l y.c (HAT.out.row.stay HB6.out) (by have := HXL.out; omega)
              rw [h64] at hsec
              clear h64
              go_wp2_with fail
              refine (hsec).mono ?_
              rintro e w7 ⟨a7, c7, rfl, _, hb7⟩
              have HBO7 := Lib.hid (HBO6.out.stay hb7)
              have HB7 := Lib.hid (HB6.out.trans (hb7.mono HB6.out.size))
              clear hb7 hsec c0 c1 c2
              have hcr := HBO7.out.crashB a9 st c9 (HST.out.stay HB7.out) (row_off HST.out (fun k hk => (HPW.out k hk).2))
              rw [show crashE D2 = 0 by rw [crashE, HUP.out]; rfl, show crashT st D2 = fallD st D2 by rw [crashT, HUP.out]; rfl, HL0.out] at hcr
              go_wp2_with fail
              refine (hcr).mono ?_
              rintro e w8 ⟨rfl, hB8, hs8⟩
              have HB8 := Lib.hid (HB7.out.trans (hs8.below HB7.out.size (fun k hk => (HPW.out k hk).2)))
              have HBO8 := Lib.hid hB8
              clear hB8 hs8 hcr
              go_wp2_with fail
              go_meet
              exact ⟨_, _, HBO8.out, ⟨rfl, rfl⟩, HB8⟩
            · have eD := armd_refused HI.out.2.1 y ⟨HK.out.1, hk2⟩ hok
              rw [eD] at HDA
              obtain ⟨E, hE⟩ : ∃ E, Hid (E = actE D1 y) := ⟨_, rfl⟩
              rw [← hE.out] at HDA
              have HOK := Lib.hid hok
              clear eD hok
              by_cases hn0 : y.n < 0
              · go_wp2_with ((with_reducible refine wpList_load_rn (o := ⟨some 82, .load _ (.tmp 81), _, _, _, _⟩) (.tmp 81) (by with_unfolding_all rfl) (by with_unfolding_all rfl) (by with_unfolding_all rfl) HLD.out ?_))
                refine (HDA.out).mono ?_
                rintro e w6 ⟨rfl, hB6, hs6⟩
                have HB6 := Lib.hid (HBD.out.trans (hs6.below HBD.out.size (fun k hk => (HPW.out k hk).1)))
                have HBO6 := Lib.hid hB6
                obtain ⟨c0, c1, c2⟩ := HAC.out w6 HB6.out
                clear hB6 hs6
                go_wp2_with fail
                go_roundw
                case rel => exact ⟨q + 1, d, _, _, hlt, by go_num, rfl, ⟨HBO6.out, HI.out.2⟩, HB6⟩
                case measure => simp [intOf]; omega
              by_cases hn1 : (n : Int) ≤ y.n
              · go_wp2_with ((with_reducible refine wpList_load_rn (o := ⟨some 82, .load _ (.tmp 81), _, _, _, _⟩) (.tmp 81) (by with_unfolding_all rfl) (by with_unfolding_all rfl) (by with_unfolding_all rfl) HLD.out ?_))
                refine (HDA.out).mono ?_
                rintro e w6 ⟨rfl, hB6, hs6⟩
                have HB6 := Lib.hid (HBD.out.trans (hs6.below HBD.out.size (fun k hk => (HPW.out k hk).1)))
                have HBO6 := Lib.hid hB6
                obtain ⟨c0, c1, c2⟩ := HAC.out w6 HB6.out
                clear hB6 hs6
                go_wp2_with fail
                go_roundw
                case rel => exact ⟨q + 1, d, _, _, hlt, by go_num, rfl, ⟨HBO6.out, HI.out.2⟩, HB6⟩
                case measure => simp [intOf]; omega
              have HNE : Hid ((secL y.l).length ≠ 64) := fun e => HOK.out ⟨by rw [HI.out.2.2]; omega, e⟩
              obtain ⟨N, hN⟩ : ∃ N, Hid (N = (secL y.l).length) := ⟨_, rfl⟩
              go_wp2_with ((with_reducible refine wpList_load_rn (o := ⟨some 82, .load _ (.tmp 81), _, _, _, _⟩) (.tmp 81) (by with_unfolding_all rfl) (by with_unfolding_all rfl) (by with_unfolding_all rfl) HLD.out ?_))
              refine (HDA.out).mono ?_
              rintro e w6 ⟨rfl, hB6, hs6⟩
              have HB6 := Lib.hid (HBD.out.trans (hs6.below HBD.out.size (fun k hk => (HPW.out k hk).1)))
              have HBO6 := Lib.hid hB6
              obtain ⟨c0, c1, c2⟩ := HAC.out w6 HB6.out
              clear hB6 hs6
              have hsec := sector_calls w6 y.a y.l y.c (HAT.out.row.stay HB6.out) (by have := HXL.out; omega)
              rw [← hN.out] at hsec
              have tN : ((N : Int) == 64) = false := by have := HNE.out; rw [← hN.out] at this; simp; omega
              have tN2 : ((N : Int) != 64) = true := by have := HNE.out; rw [← hN.out] at this; simp; omega
              go_wp2_with fail
              refine (hsec).mono ?_
              rintro e w7 ⟨a7, c7, rfl, _, hb7⟩
              have HBO7 := Lib.hid (HBO6.out.stay hb7)
              have HB7 := Lib.hid (HB6.out.trans (hb7.mono HB6.out.size))
              clear hb7 hsec c0 c1 c2
              go_wp2_with fail
              go_roundw
              case rel => exact ⟨q + 1, d, _, _, hlt, by go_num, rfl, ⟨HBO7.out, HI.out.2⟩, HB7⟩
              case measure => simp [intOf]; omega
          · obtain ⟨eE, eD⟩ := armd_last HI.out.2.1 hdl y HK.out (fun h9 => absurd h9 hk2)
            rw [eE, eD] at HDA
            have HUP := Lib.hid HI.out.2.1.up
            clear eE eD
            go_wp2_with ((with_reducible refine wpList_load_rn (o := ⟨some 82, .load _ (.tmp 81), _, _, _, _⟩) (.tmp 81) (by with_unfolding_all rfl) (by with_unfolding_all rfl) (by with_unfolding_all rfl) HLD.out ?_))
            refine (HDA.out).mono ?_
            rintro e w6 ⟨rfl, hB6, hs6⟩
            have HB6 := Lib.hid (HBD.out.trans (hs6.below HBD.out.size (fun k hk => (HPW.out k hk).1)))
            have HBO6 := Lib.hid hB6
            obtain ⟨c0, c1, c2⟩ := HAC.out w6 HB6.out
            clear hB6 hs6
            have hcr := HBO6.out.crashB a9 st c9 (HST.out.stay HB6.out) (row_off HST.out (fun k hk => (HPW.out k hk).2))
            rw [show crashE D2 = 0 by rw [crashE, HUP.out]; rfl, show crashT st D2 = fallD st D2 by rw [crashT, HUP.out]; rfl, HL0.out] at hcr
            go_wp2_with fail
            refine (hcr).mono ?_
            rintro e w8 ⟨rfl, hB8, hs8⟩
            have HB8 := Lib.hid (HB6.out.trans (hs8.below HB6.out.size (fun k hk => (HPW.out k hk).2)))
            have HBO8 := Lib.hid hB8
            clear hB8 hs8 hcr
            go_wp2_with fail
            go_meet
            exact ⟨_, _, HBO8.out, ⟨rfl, rfl⟩, HB8⟩
      · have HEQ := Lib.hid (HI.out.2.1.eq)
        go_wp2_with fail
        go_meet
        exact ⟨D1, D2, HI.out.1, ⟨by rw [HEQ.out], by rw [HEQ.out]⟩, HBD⟩
  case rest =>
    obtain ⟨D1, D2, HBO, HEQ, HBc⟩ := hcut
    have hua := HBO.out.upA
    have hub := HBO.out.upB
    rw [← HEQ.out.1] at hub
    obtain ⟨U, hU⟩ : ∃ U, Hid (U = D1.up) := ⟨_, rfl⟩
    rw [← hU.out] at hua hub
    go_wp2_with fail
    refine (hua).mono ?_
    rintro e wq ⟨rfl, rfl⟩
    go_wp2_with fail
    refine (hub).mono ?_
    rintro e wq ⟨rfl, rfl⟩
    have tU : (U == U) = true := by simp
    go_wp2_with fail
    go_loopw [18] (fun j wr => ∃ k : Nat, k ≤ n ∧ j = .int .i64 (k : Int) ∧ Hid (Below w.heap.size w wr ∧ Both wr p1 p2 D1 D2)) (fun j _ => n - (intOf j).toNat)
    case atStart => exact ⟨0, Nat.zero_le _, rfl, HBc.out, HBO.out⟩
    case round =>
      obtain ⟨k, hk, rfl, HK⟩ := hrel
      by_cases hlk : k < n
      · have hfa := HK.out.2.flA (k : Int)
        obtain ⟨X, hX⟩ : ∃ X, Hid (X = flushedR D1 (k : Nat)) := ⟨_, rfl⟩
        rw [← hX.out] at hfa
        go_wp2_with fail
        refine (hfa).mono ?_
        rintro e w5 ⟨a5, c5, rfl, hO5, hb5⟩
        have HK5 : Hid (Below w.heap.size w w5 ∧ Both w5 p1 p2 D1 D2) := ⟨HK.out.1.trans (hb5.mono HK.out.1.size), HK.out.2.stay hb5⟩
        have hfb := HK5.out.2.flB (k : Int)
        rw [← flushedR_same HEQ.out.2, ← hX.out] at hfb
        have HO5 := Lib.hid hO5
        clear hO5 hb5 hfa
        go_wp2_with fail
        refine (hfb).mono ?_
        rintro e w6 ⟨a6, c6, rfl, hO6, hb6⟩
        have HK6 : Hid (Below w.heap.size w w6 ∧ Both w6 p1 p2 D1 D2) := ⟨HK5.out.1.trans (hb6.mono HK5.out.1.size), HK5.out.2.stay hb6⟩
        have hsm := wsame_calls w6 a5 a6 X X c5 c6 (HO5.out.stay hb6) hO6
        rw [ordB_self] at hsm
        clear hO6 hb6 hfb
        go_wp2_with fail
        refine (hsm).mono ?_
        rintro e w7 ⟨rfl, rfl⟩
        go_wp2_with fail
        go_roundw
        case rel => exact ⟨k + 1, hlk, by go_num, HK6⟩
        case measure => simp [intOf]; omega
      · go_wp2_with fail
        go_ret
        exact ⟨rfl, HK.out.1⟩
set_option maxRecDepth 100000 in
set_option maxHeartbeats 4000000 in
theorem diskArmed_all (w : World) (n : Int) (a : Option Addr) (L : List Ac) (c : Nat) (at_ : Int) (a9 : Option Addr) (st : List UInt8) (c9 : Nat) (_hn : -9223372036854775808 ≤ n ∧ n ≤ 9223372036854775807) (h : Acts w a L c) (_ha : -9223372036854775808 ≤ at_ ∧ at_ ≤ 9223372036854775807) (hst : Row w a9 st c9) :
    Calls Try.prog 7 #[.int .i64 n, .slice a L.length c, .int .i64 at_, .slice a9 st.length c9] w fun e w' => e = .returned (.bool true) ∧ Below w.heap.size w w' := by
  by_cases hb : n < 1 ∨ 12 < n ∨ 6000 < totA L
  · have HH := Lib.hid h
    clear h _hn hst _ha
    generalize st.length = ll
    go_enter Try.func7, Try.ntmps7
    go_wp2_with fail
    refine (awake6_calls w).mono ?_
    rintro e w1 ⟨rfl, hb1⟩
    have hmd := made_bad w1 n a L c (HH.out.stay hb1) hb
    have HB1 := Lib.hid hb1
    clear hb1 hb
    go_wp2_with fail
    refine (hmd).mono ?_
    rintro e w2 ⟨rfl, rfl⟩
    go_wp2_with fail
    refine (hmd).mono ?_
    rintro e w2 ⟨rfl, rfl⟩
    go_wp2_with fail
    go_ret
    exact ⟨rfl, HB1.out⟩
  · obtain ⟨m, rfl⟩ : ∃ m : Nat, n = (m : Int) := ⟨n.toNat, by omega⟩
    by_cases hg : L.length ≤ 40 ∧ 1 ≤ at_ ∧ st.length ≤ 50
    · obtain ⟨A, rfl⟩ : ∃ A : Nat, at_ = (A : Int) := ⟨at_.toNat, by omega⟩
      obtain ⟨ll, hl⟩ : ∃ ll, st.length = ll := ⟨_, rfl⟩
      rw [hl]
      exact diskArmed_good w m a L c h (by omega) (by omega) (by omega) hg.1 A (by omega) (by omega) a9 st c9 hst ll hl (by omega)
    · have HH := Lib.hid h
      have hll := h.vec.len_le
      have hT : totA L ≤ 6000 := by omega
      have h1 : 1 ≤ m := by omega
      have h12 : m ≤ 12 := by omega
      have HT := Lib.hid (And.intro hT (And.intro h1 h12))
      have hm := hst.le
      have ht := hst.top
      unfold maxLen at ht
      have HG : Hid (40 < L.length ∨ at_ < 1 ∨ 50 < st.length) := by rw [Hid]; omega
      clear h _hn hb hT h1 h12 hst hg
      generalize st.length = ll at *
      by_cases hg1 : 40 < L.length
      · go_enter Try.func7, Try.ntmps7
        go_wp2_with fail
        refine (awake6_calls w).mono ?_
        rintro e w1 ⟨rfl, hb1⟩
        have hmd := made_calls w1 m a L c (HH.out.stay hb1) HT.out.2.1 HT.out.2.2 HT.out.1
        have HB1 := Lib.hid hb1
        clear hb1
        go_wp2_with fail
        refine (hmd).mono ?_
        rintro e w2 ⟨p, rfl, _, _, _, hb2⟩
        have HB2 := Lib.hid (HB1.out.trans (hb2.mono HB1.out.size))
        have hmd := made_calls w2 m a L c (HH.out.stay HB2.out) HT.out.2.1 HT.out.2.2 HT.out.1
        clear hb2
        go_wp2_with fail
        refine (hmd).mono ?_
        rintro e w3 ⟨p, rfl, _, _, _, hb3⟩
        have HB3 := Lib.hid (HB2.out.trans (hb3.mono HB2.out.size))
        clear hb3
        go_wp2_with fail
        go_ret
        exact ⟨rfl, HB3.out⟩
      by_cases hg2 : at_ < 1
      · go_enter Try.func7, Try.ntmps7
        go_wp2_with fail
        refine (awake6_calls w).mono ?_
        rintro e w1 ⟨rfl, hb1⟩
        have hmd := made_calls w1 m a L c (HH.out.stay hb1) HT.out.2.1 HT.out.2.2 HT.out.1
        have HB1 := Lib.hid hb1
        clear hb1
        go_wp2_with fail
        refine (hmd).mono ?_
        rintro e w2 ⟨p, rfl, _, _, _, hb2⟩
        have HB2 := Lib.hid (HB1.out.trans (hb2.mono HB1.out.size))
        have hmd := made_calls w2 m a L c (HH.out.stay HB2.out) HT.out.2.1 HT.out.2.2 HT.out.1
        clear hb2
        go_wp2_with fail
        refine (hmd).mono ?_
        rintro e w3 ⟨p, rfl, _, _, _, hb3⟩
        have HB3 := Lib.hid (HB2.out.trans (hb3.mono HB2.out.size))
        clear hb3
        go_wp2_with fail
        go_ret
        exact ⟨rfl, HB3.out⟩
      have hg3 : 50 < ll := by have := HG.out; omega
      go_enter Try.func7, Try.ntmps7
      go_wp2_with fail
      refine (awake6_calls w).mono ?_
      rintro e w1 ⟨rfl, hb1⟩
      have hmd := made_calls w1 m a L c (HH.out.stay hb1) HT.out.2.1 HT.out.2.2 HT.out.1
      have HB1 := Lib.hid hb1
      clear hb1
      go_wp2_with fail
      refine (hmd).mono ?_
      rintro e w2 ⟨p, rfl, _, _, _, hb2⟩
      have HB2 := Lib.hid (HB1.out.trans (hb2.mono HB1.out.size))
      have hmd := made_calls w2 m a L c (HH.out.stay HB2.out) HT.out.2.1 HT.out.2.2 HT.out.1
      clear hb2
      go_wp2_with fail
      refine (hmd).mono ?_
      rintro e w3 ⟨p, rfl, _, _, _, hb3⟩
      have HB3 := Lib.hid (HB2.out.trans (hb3.mono HB2.out.size))
      clear hb3
      go_wp2_with fail
      go_ret
      exact ⟨rfl, HB3.out⟩
end Go.Proofs.Ytofagofpeedfcaa
