/- ConfigParses: the walk of the law. -/
import Derived.Test.YtpnbaapjjchlbaaSpoil
import Derived.Test.YtpnbaapjjchlbaaRefParse11
namespace Go.Proofs.Ytpnbaapjjchlbaa
open Go Go.RowKit Go.Cit

theorem row_vec1 {w : World} {a : Option Addr} {l : List UInt8} {c : Nat} (h : Row w a l c) : Vec cb 1 w a l c := Vec.of1 (v := vb) h.le h.top h.nil h.spot h.cell
set_option maxRecDepth 100000 in
set_option maxHeartbeats 8000000 in
theorem configParses_law (w : World) (ab : Option Addr) (l : List UInt8) (kb : Nat) (V : CfgV) (own : Bool) (at_ : Int) (turn : UInt8) (more : Int) (hr : Row w ab l kb) (h : V.At w) (hb : ∀ x ∈ V.ps, x.img.length ≤ 140737488351232) : Calls Try.prog 13 #[.slice ab l.length kb, .agg #[.slice V.wa V.ws.length V.wc, .slice V.pa V.ps.length V.pc, .slice V.ca V.cs.length V.cc], .bool own, .int .i64 at_, vb turn, .int .i64 more] w fun e w' => e = .returned (.bool true) ∧ Below w.heap.size w w' := by
  obtain ⟨w0, hw0⟩ : ∃ w0, w0 = w.alloc (.cells #[.slice V.wa V.ws.length V.wc, .slice V.pa V.ps.length V.pc, .slice V.ca V.cs.length V.cc] 26) := ⟨_, rfl⟩
  have B0 : Below w.heap.size w w0 := by rw [hw0]; exact (Below.refl _ w).alloc (Nat.le_refl _) _
  have hI : InBox w0 w.heap.size V := by rw [hw0]; exact inBox_new w V _
  have HI := Lib.hid hI
  have HV := Lib.hid (h.stay B0)
  have HR := Lib.hid (hr.stay B0)
  have HB0 := Lib.hid B0
  obtain ⟨g1, hg1⟩ : ∃ g, Hid (g = greatV V) := ⟨_, rfl⟩
  obtain ⟨nL, hnL⟩ : ∃ g, Hid (g = l.length) := ⟨_, rfl⟩
  rw [← hnL.out]
  have hc := cgreat_calls w0 V HV.out hb
  rw [← hg1.out] at hc
  have HC := Lib.hid hc
  clear h B0 hI hb hc hr
  obtain ⟨c0, c1, c2⟩ := HI.out
  go_enter Try.func13, Try.ntmps13
  by_cases h9 : (nL : Int) > 9000
  · go_wp2_with fail
    go_ret
    exact ⟨rfl, by rw [← hw0]; exact HB0.out⟩
  go_wp2_with fail
  rw [← hw0]
  clear hw0
  refine (HC.out).mono ?_
  rintro e w1 ⟨rfl, hb1⟩
  have HB1 := Lib.hid hb1
  clear c0 c1 c2 HC hb1
  cases g1 with
  | true =>
    go_wp2_with fail
    go_ret
    exact ⟨rfl, HB0.out.trans (HB1.out.mono HB0.out.size)⟩
  | false =>
    have HN9 : Hid (l.length ≤ 9000) := by rw [Hid, ← hnL.out]; omega
    clear h9
    have HO0 : Hid (VOwn cb 1 5 w0.heap.size (w1.alloc (.cells #[] 5)) (some ⟨w1.heap.size, 0, none⟩) [] 0) := (own_lit w1 #[] 5 [] rfl (by decide)).vown.low HB1.out.size
    have HV0 : Hid (Vec cb 1 (w1.alloc (.cells #[] 5)) ab l kb) := row_vec1 ((HR.out.stay HB1.out).stay ((Below.refl _ _).alloc (Nat.le_refl _) _))
    have HL0 : Hid (([] : List UInt8).length + l.length ≤ 1000000000) := by have := HN9.out; rw [Hid, List.length_nil]; omega
    have HS0 : Hid (w0.heap.size ≤ (w1.alloc (.cells #[] 5)).heap.size) := by have := HB1.out.size; rw [Hid, World.size_alloc]; omega
    have HBa : Hid (Below w0.heap.size w0 (w1.alloc (.cells #[] 5))) := HB1.out.alloc HB1.out.size _
    go_upto_region 4 with ((with_reducible refine wpList_vappany (o := ⟨some 28, .call _, _, _, _, _⟩) etU cb_len cb_one (.tmp 26) (.tmp 27) (by with_unfolding_all rfl) (by with_unfolding_all rfl) HO0.out HV0.out HL0.out HS0.out (by with_unfolding_all rfl) (by rw [← hnL.out]; with_unfolding_all rfl) ?_); intro a2 k2 w2 hO2 hg2; rw [List.nil_append]; rw [List.nil_append] at hO2; rw [← hnL.out]; have HO2 := Lib.hid (And.intro hO2.own (HBa.out.trans (HO0.out.grown hg2 HS0.out))); clear hO2 hg2)
    clear HO0 HV0 HL0 HS0 HBa HB1
    obtain ⟨c0, c1, c2⟩ := HI.out.keep HO2.out.2
    go_cut [33] (fun s33 wx => ∃ q : Bool, s33 = .bool q ∧ Hid (q = true → canV V = true) ∧ Hid (Below w2.heap.size w2 wx))
    case first =>
      cases own with
      | false =>
        go_wp2_with fail
        go_meet
        exact ⟨false, rfl, fun e => by simp at e, Below.refl _ _⟩
      | true =>
        have HC := Lib.hid (refcan_calls w2 V (HV.out.stay HO2.out.2))
        go_wp2_with fail
        refine (HC.out).mono ?_
        rintro e w3 ⟨rfl, hb3⟩
        go_wp2_with fail
        go_meet
        exact ⟨canV V, rfl, fun e => e, hb3⟩
    case rest =>
      obtain ⟨q, rfl, HQ, HB3⟩ := hcut
      clear c0 c1 c2
      have HB3' : Hid (Below w0.heap.size w0 wc) := HO2.out.2.trans (HB3.out.mono HO2.out.2.size)
      obtain ⟨c0, c1, c2⟩ := HI.out.keep HB3'.out
      go_upto_if 33 with fail
      go_cut [0] (fun s0 wx => ∃ (a : Option Addr) (X : List UInt8) (c : Nat), s0 = .slice a X.length c ∧ Hid (X.length ≤ 9000) ∧ Hid (Cit.Own 5 w0.heap.size wx a X c) ∧ Hid (Below w0.heap.size w0 wx))
      case first =>
        cases q with
        | true =>
          have hcan := HQ.out rfl
          have HF := Lib.hid (refform_calls wc V (HV.out.stay HB3'.out) hcan)
          have HFL : Hid ((formV V).length ≤ 9000) := by
            have := form_len (K := V.cfg) (by rw [← canV_cfg]; exact hcan)
            rw [Hid, formV_cfg]; omega
          clear hcan
          go_wp2_with fail
          refine (HF.out).mono ?_
          rintro e w4 ⟨a4, k4, rfl, hO4, hb4⟩
          go_wp2_with fail
          go_meet
          exact ⟨a4, formV V, k4, rfl, HFL.out, hO4.low HB3'.out.size, HB3'.out.trans (hb4.mono HB3'.out.size)⟩
        | false =>
          go_wp2_with fail
          go_meet
          exact ⟨a2, l, k2, by rw [hnL.out], HN9.out, HO2.out.1.stay HB3.out, HB3'.out⟩
      case rest =>
        obtain ⟨a3, X, k3, rfl, HX9, HOX, HBX⟩ := hcut
        clear c0 c1 c2 HB3 HB3' HQ HO2
        obtain ⟨n, hn⟩ : ∃ n, Hid (n = X.length) := ⟨_, rfl⟩
        rw [← hn.out]
        have hn9 : n ≤ 9000 := by rw [hn.out]; exact HX9.out
        go_upto_if 38 with fail
        go_cut [0] (fun s0 wx => ∃ (a : Option Addr) (X : List UInt8) (c : Nat), s0 = .slice a X.length c ∧ Hid (X.length ≤ 9000) ∧ Hid (Cit.Own 5 w0.heap.size wx a X c) ∧ Hid (Below w0.heap.size w0 wx))
        case first =>
          by_cases hpos : 0 < n
          · obtain ⟨k, hk, ek⟩ := pick_of at_ n hpos (by omega)
            have hkX : k < X.length := by rw [← hn.out]; exact hk
            have hr := HOX.out.isRow
            have ij := hr.index bt.slice bt.sz k hkX
            rw [← hn.out, ← ek] at ij
            have ej := hr.cell k hkX
            have fj := HOX.out.frozen k hkX
            obtain ⟨y, hy⟩ : ∃ y, X[k] = y := ⟨_, rfl⟩
            rw [hy] at ej
            have hst := HOX.out.stored k hkX (bXor y turn)
            have HST := Lib.hid (And.intro hst.1 (HBX.out.trans ((Save.grown hst.2).below HBX.out.size (fun g hg e => by have := (HOX.out.blk_ge e.symm).1; omega))))
            clear ek hr hy hst hkX
            go_wp2_with fail
            go_meet
            exact ⟨a3, X.set k (bXor y turn), k3, by rw [List.length_set, hn.out], by rw [Hid, List.length_set]; exact HX9.out, HST.out.1, HST.out.2⟩
          · go_wp2_with fail
            go_meet
            exact ⟨a3, X, k3, by rw [hn.out], HX9.out, HOX.out, HBX.out⟩
        case rest =>
          obtain ⟨a4, Y, k4, rfl, HY9, HOY, HBY⟩ := hcut
          clear hn9 HX9 HOX HBX
          obtain ⟨m, hm⟩ : ∃ n, Hid (n = Y.length) := ⟨_, rfl⟩
          rw [← hm.out]
          have hm9 : m ≤ 9000 := by rw [hm.out]; exact HY9.out
          go_upto_block 0 with fail
          generalize more.tmod 4 = r
          go_cut [0] (fun s0 wx => ∃ (a : Option Addr) (Y : List UInt8) (c : Nat), s0 = .slice a Y.length c ∧ Hid (Y.length ≤ 9001) ∧ Hid (Row wx a Y c) ∧ Hid (Below w0.heap.size w0 wx))
          case first =>
            by_cases h1 : r = 1
            · subst h1
              have HL1 : Hid (Y.length + 1 ≤ 1000000000) := by have := HY9.out; rw [Hid]; omega
              go_wp2_with (first
                | ((with_reducible refine wpList_value (o := ⟨some 58, .buildSlice _ _ _, _, _, _, _⟩) (by with_unfolding_all rfl) (build1c etU (.tmp 57) (vb turn) #[vb turn] rfl (by with_unfolding_all rfl) (by with_unfolding_all rfl) (by with_unfolding_all rfl) (by decide) _) ?_))
                | ((with_reducible refine wpList_vapp1 (o := ⟨some 59, .call _, _, _, _, _⟩) etU cb_len cb_one (y := turn) (.tmp 56) (.tmp 58) (by with_unfolding_all rfl) (by with_unfolding_all rfl) HOY.out.vown (by with_unfolding_all rfl) HL1.out HBY.out.size (by rw [← hm.out]; with_unfolding_all rfl) (by with_unfolding_all rfl) ?_); intro a5 k5 w5 hO5 hg5 hn5; have HO5 := Lib.hid (And.intro hO5 (HBY.out.trans (HOY.out.vown.grown hg5 HBY.out.size))); clear hO5 hg5 hn5))
              go_meet
              exact ⟨a5, Y ++ [turn], k5, by rw [List.length_append]; rfl, by rw [Hid, List.length_append]; have := HY9.out; simp; omega, HO5.out.1.own.isRow, HO5.out.2⟩
            · by_cases h2 : r = 2
              · subst h2
                obtain ⟨k, hk, ek⟩ := pick_of at_ (m + 1) (by omega) (by omega)
                rw [show ((m + 1 : Nat) : Int) = (m : Int) + 1 by omega] at ek
                obtain ⟨a5, z, k5, hz, hrun, r5⟩ := HOY.out.isRow.upto bt.slice bt.sz k (by rw [← hm.out]; omega)
                rw [← hm.out, ← ek] at hrun
                have HZ5 := Lib.hid (And.intro r5 hz)
                clear ek hz r5
                go_wp2_with fail
                go_meet
                exact ⟨a5, z, k5, rfl, by rw [Hid, HZ5.out.2, List.length_take]; have := HY9.out; omega, HZ5.out.1, HBY.out⟩
              · go_wp2_with fail
                go_meet
                exact ⟨a4, Y, k4, by rw [hm.out], by have := HY9.out; rw [Hid]; omega, HOY.out.isRow, HBY.out⟩
          case rest =>
            obtain ⟨a5, D, k5, rfl, HD9, HRD, HBD⟩ := hcut
            clear hm9 HY9 HOY HBY
            obtain ⟨d, hd⟩ : ∃ n, Hid (n = D.length) := ⟨_, rfl⟩
            rw [← hd.out]
            have HO0 : Hid (VOwn cb 1 5 wc.heap.size (wc.alloc (.cells #[] 5)) (some ⟨wc.heap.size, 0, none⟩) [] 0) := (own_lit wc #[] 5 [] rfl (by decide)).vown
            have HV0 : Hid (Vec cb 1 (wc.alloc (.cells #[] 5)) a5 D k5) := row_vec1 (HRD.out.stay ((Below.refl _ _).alloc (Nat.le_refl _) _))
            have HL0 : Hid (([] : List UInt8).length + D.length ≤ 1000000000) := by have := HD9.out; rw [Hid, List.length_nil]; omega
            have HS0 : Hid (wc.heap.size ≤ (wc.alloc (.cells #[] 5)).heap.size) := by rw [Hid, World.size_alloc]; omega
            have HBa : Hid (Below wc.heap.size wc (wc.alloc (.cells #[] 5))) := (Below.refl _ _).alloc (Nat.le_refl _) _
            go_upto_region 14 with ((with_reducible refine wpList_vappany (o := ⟨some 74, .call _, _, _, _, _⟩) etU cb_len cb_one (.tmp 72) (.tmp 73) (by with_unfolding_all rfl) (by with_unfolding_all rfl) HO0.out HV0.out HL0.out HS0.out (by with_unfolding_all rfl) (by rw [← hd.out]; with_unfolding_all rfl) ?_); intro a6 k6 w3 hO3 hg3; rw [List.nil_append]; rw [List.nil_append] at hO3; rw [← hd.out]; have HO3 := Lib.hid (And.intro hO3.own.isRow (HBa.out.trans (HO0.out.grown hg3 HS0.out))); clear hO3 hg3)
            have HR3 := Lib.hid (HRD.out.stay HO3.out.2)
            clear HO0 HV0 HL0 HS0 HBa HRD
            obtain ⟨E, hE⟩ : ∃ E, Hid (E = parE D) := ⟨_, rfl⟩
            have hc := parse_calls w3 HO3.out.1
            rw [← hd.out, ← hE.out] at hc
            have HC := Lib.hid hc
            clear hc
            go_wp2_with fail
            refine (HC.out).mono ?_
            rintro e w4 ⟨U, rfl, hU, hUF, hb4⟩
            obtain ⟨w5, hw5⟩ : ∃ w5, w5 = w4.alloc (.cells #[.slice U.wa U.ws.length U.wc, .slice U.pa U.ps.length U.pc, .slice U.ca U.cs.length U.cc] 26) := ⟨_, rfl⟩
            obtain ⟨p14, hp14⟩ : ∃ p, p = w4.heap.size := ⟨_, rfl⟩
            have hb45 : Below w4.heap.size w4 w5 := by rw [hw5]; exact (Below.refl _ _).alloc (Nat.le_refl _) _
            have hUB : InBox w5 p14 U := by rw [hw5, hp14]; exact inBox_new w4 U _
            have HB5 : Hid (Below w3.heap.size w3 w5) := hb4.trans (hb45.mono hb4.size)
            have HU5 := Lib.hid (And.intro hU (And.intro (hUF.stay hb45) hUB))
            clear hU hUF hb4 hb45 hUB HC
            go_upto_region 15 with fail
            rw [← hw5, ← hp14]
            clear hw5 hp14
            have hc := refparse_calls w5 (HR3.out.stay HB5.out)
            rw [← hd.out, ← hE.out] at hc
            have HC := Lib.hid hc
            clear hc
            go_wp2_with fail
            refine (HC.out).mono ?_
            rintro e w6 ⟨Z, rfl, hZ, hZA, hb6⟩
            obtain ⟨w7, hw7⟩ : ∃ w7, w7 = w6.alloc (.cells #[.slice Z.wa Z.ws.length Z.wc, .slice Z.pa Z.ps.length Z.pc, .slice Z.ca Z.cs.length Z.cc] 26) := ⟨_, rfl⟩
            obtain ⟨p16, hp16⟩ : ∃ p, p = w6.heap.size := ⟨_, rfl⟩
            have hb67 : Below w6.heap.size w6 w7 := by rw [hw7]; exact (Below.refl _ _).alloc (Nat.le_refl _) _
            have hZB : InBox w7 p16 Z := by rw [hw7, hp16]; exact inBox_new w6 Z _
            have hb57 := hb6.trans (hb67.mono hb6.size)
            have HB7 : Hid (Below w3.heap.size w3 w7) := HB5.out.trans (hb57.mono HB5.out.size)
            have HU7 := Lib.hid (And.intro (HU5.out.2.1.stay hb57) (HU5.out.2.2.keep hb57))
            have HZ7 := Lib.hid (And.intro (hZA.stay hb67) hZB)
            have HEQ : Hid (U.cfg = Z.cfg) := HU5.out.1.trans hZ.symm
            clear hZ hZA hb6 hb67 hb57 hZB HC HU5 HB5
            go_upto_region 16 with fail
            rw [← hw7, ← hp16]
            clear hw7 hp16
            obtain ⟨c0, c1, c2⟩ := HU7.out.2
            obtain ⟨d0, d1, d2⟩ := HZ7.out.2
            have hs := same11_calls w7 U Z HU7.out.1.at HZ7.out.1
            rw [decide_eq_true HEQ.out] at hs
            have HS := Lib.hid hs
            clear hs
            go_wp2_with fail
            refine (HS.out).mono ?_
            rintro e w8 ⟨rfl, hb8⟩
            have HB8 : Hid (Below w3.heap.size w3 w8) := HB7.out.trans (hb8.mono HB7.out.size)
            have HU8 := Lib.hid (And.intro (HU7.out.1.stay hb8) (HU7.out.2.keep hb8))
            clear hb8 HS c0 c1 c2 d0 d1 d2 HU7 HZ7 HB7
            obtain ⟨c0, c1, c2⟩ := HU8.out.2
            have HSP := Lib.hid (spoil_calls w8 U w3.heap.size HU8.out.1 HB8.out.size)
            go_wp2_with fail
            refine (HSP.out).mono ?_
            rintro e w9 ⟨rfl, hb9⟩
            have HB9 : Hid (Below w3.heap.size w3 w9) := HB8.out.trans hb9
            have HRA := Lib.hid (HO3.out.1.stay HB9.out)
            have HRB := Lib.hid (HR3.out.stay HB9.out)
            clear hb9 HSP c0 c1 c2 HU8 HB8
            go_wp2_with (first
              | ((with_reducible refine wpList_value_gd (o := ⟨some 98, .convert _ _ _, _, _, _, _⟩) (by with_unfolding_all rfl) (exec_conv (x := .tmp 97) (by with_unfolding_all rfl) (by with_unfolding_all rfl) hd.out.symm HRA.out) ?_))
              | ((with_reducible refine wpList_value_gd (o := ⟨some 100, .convert _ _ _, _, _, _, _⟩) (by with_unfolding_all rfl) (exec_conv (x := .tmp 99) (by with_unfolding_all rfl) (by with_unfolding_all rfl) hd.out.symm HRB.out) ?_)))
            refine (awake11_calls w9).mono ?_
            rintro e wq ⟨rfl, hbq⟩
            have HBQ := Lib.hid (HB9.out.trans (hbq.mono HB9.out.size))
            go_wp2_with fail
            go_ret
            exact ⟨rfl, HB0.out.trans ((HBD.out.trans ((HO3.out.2.trans (HBQ.out.mono HO3.out.2.size)).mono HBD.out.size)).mono HB0.out.size)⟩
theorem configParses_all (w : World) (ab : Option Addr) (l : List UInt8) (kb : Nat) (V : CfgV) (own : Bool) (at_ : Int) (turn : UInt8) (more : Int) (hr : Row w ab l kb) (h : V.At w) (hb : ∀ x ∈ V.ps, x.img.length ≤ 140737488351232) (_ : -9223372036854775808 ≤ at_ ∧ at_ ≤ 9223372036854775807) (_ : -9223372036854775808 ≤ more ∧ more ≤ 9223372036854775807) : Calls Try.prog 13 #[.slice ab l.length kb, .agg (cCfg V).toArray, .bool own, .int .i64 at_, vb turn, .int .i64 more] w fun e w' => e = .returned (.bool true) ∧ Below w.heap.size w w' :=
  configParses_law w ab l kb V own at_ turn more hr h hb
end Go.Proofs.Ytpnbaapjjchlbaa
