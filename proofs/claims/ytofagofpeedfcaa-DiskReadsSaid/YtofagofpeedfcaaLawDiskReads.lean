/- Chapter 6's law DiskReads: walked. -/
import Derived.Test.YtofagofpeedfcaaRws
import Derived.Deep.CutBlock
import Derived.Deep.DeepCutAuto
namespace Go.Proofs.Ytofagofpeedfcaa
open Go Go.RowKit Go.Cit

theorem readR_up {D : Dk} (hu : D.up = true) {k : Nat} (hk : k < D.S.length) : readR D k = getR D k ∧ readE D k = 0 := by
  constructor
  · rw [readR, if_pos ⟨hu, by omega, by omega⟩, Int.toNat_natCast]
  · rw [readE, if_neg (by rw [hu]; simp), if_pos ⟨by omega, by omega⟩]
/-- What a write leaves to be read. -/
theorem write_read {D : Dk} (h : D.Ok) (hu : D.up = true) (hl : D.left ≠ 1) {i : Nat} (hi : i < D.S.length) {x : List UInt8} (hx : x.length = 64) {k : Nat} (hk : k < D.S.length) :
    readE (writeT D i x) k = 0 ∧ readR (writeT D i x) k = if k = i then x else readR D k := by
  have e2 : writeT D i x = putD i x (tickD D) := by rw [writeT, if_neg (by rw [hu]; simp [hi, hx]), if_neg hl, Int.toNat_natCast]
  have hu' : (putD i x (tickD D)).up = true := hu
  have hk' : k < (putD i x (tickD D)).S.length := hk
  rw [e2, (readR_up hu' hk').1, (readR_up hu' hk').2, (readR_up hu hk).1]
  refine ⟨rfl, ?_⟩
  unfold getR putD tickD
  by_cases e : k = i
  · subst e
    rw [if_pos rfl]
    simp only []
    rw [List.getElem?_set_self (by rw [h.len]; exact hk)]
    rfl
  · rw [if_neg e]
    simp only []
    rw [List.getElem?_set_ne (Ne.symm e)]
set_option maxRecDepth 100000 in
set_option maxHeartbeats 4000000 in
theorem diskReads_good (w : World) (n : Nat) (a : Option Addr) (L : List Ac) (c : Nat) (h : Acts w a L c) (h1 : 1 ≤ n) (h12 : n ≤ 12) (hT : totA L ≤ 6000) (i : Nat) (hi : i < n) (x : UInt8) :
    Calls Try.prog 8 #[.int .i64 (n : Int), .slice a L.length c, .int .i64 (i : Int), vb x] w fun e w' => e = .returned (.bool true) ∧ Below w.heap.size w w' := by
  have hll := h.vec.len_le
  have HH := Lib.hid h
  have HT := Lib.hid hT
  clear h hT
  go_enter Try.func8, Try.ntmps8
  go_wp2_with fail
  refine (awake6_calls w).mono ?_
  rintro e w1 ⟨rfl, hb1⟩
  have HB1 := Lib.hid hb1
  have hmd := made_calls w1 n a L c (HH.out.stay hb1) h1 h12 HT.out
  clear hb1
  go_wp2_with fail
  refine (hmd).mono ?_
  rintro e w2 ⟨p, rfl, hD2, _, hpl, hb2⟩
  have HB2 := Lib.hid (HB1.out.trans (hb2.mono HB1.out.size))
  have HD2 := Lib.hid hD2
  have HPL : Hid (∀ k, k < w1.heap.size → p.Off k) := fun k hk => ⟨by omega, by omega, by omega⟩
  have HPW : Hid (∀ k, k < w.heap.size → p.Off k) := fun k hk => HPL.out k (Nat.lt_of_lt_of_le hk HB1.out.size)
  clear hD2 hpl hb2 hmd
  have t1 : ¬ (i : Int) < 0 := by omega
  have t2 : ¬ (n : Int) ≤ (i : Int) := by omega
  have t3 : ¬ n ≤ i := by omega
  go_wp2_with fail
  go_loopw [11] (fun j wr => ∃ q : Nat, q ≤ L.length ∧ j = .int .i64 (q : Int) ∧ Hid ((∃ D, DiskAt wr p D ∧ D.S.length = n) ∧ Below w.heap.size w wr)) (fun j _ => L.length - (intOf j).toNat)
  case atStart => exact ⟨0, Nat.zero_le _, rfl, ⟨_, HD2.out, by simp [newD]⟩, HB2.out⟩
  case round =>
    obtain ⟨q, hq, rfl, HI⟩ := hrel
    obtain ⟨⟨D, hD, hSn⟩, hBD⟩ := HI.out
    have HBD := Lib.hid hBD
    have HD := Lib.hid hD
    have HSn := Lib.hid hSn
    clear hD hBD HI hSn
    by_cases hlt : q < L.length
    · have hA := HH.out.stay HBD.out
      have i0 := hA.vec.index etA q hlt
      have hxl : (L[q]).l.length ≤ 6000 := by have h1 := totA_one L q hlt; have h2 := HT.out; omega
      have HLD := Lib.hid (hA.load q hlt)
      have hat := hA.at_ _ (List.getElem_mem hlt)
      have HDO := Lib.hid (do_calls wr p D L[q] HD.out hat hxl (act_off HH.out HPW.out q hlt))
      have HNX : Hid ((actD D L[q]).S.length = n) := by rw [Hid, (actD_ok HD.out.ok L[q] hxl hat.hn.2).2]; exact HSn.out
      generalize L[q] = y at HLD HDO HNX
      clear hA hxl hat
      go_wp2_with ((with_reducible refine wpList_load_rn (o := ⟨some 50, .load _ (.tmp 49), _, _, _, _⟩) (.tmp 49) (by with_unfolding_all rfl) (by with_unfolding_all rfl) (by with_unfolding_all rfl) HLD.out ?_))
      refine (HDO.out).mono ?_
      rintro e w6 ⟨rfl, hD6, hs6⟩
      have HD6 := Lib.hid hD6
      have HB6 := Lib.hid (HBD.out.trans (hs6.below HBD.out.size (fun k hk => HPW.out k hk)))
      clear hD6 hs6
      go_wp2_with fail
      go_roundw
      case rel => exact ⟨q + 1, hlt, by go_num, ⟨_, HD6.out, HNX.out⟩, HB6.out⟩
      case measure => simp [intOf]; omega
    · obtain ⟨w3, hw3⟩ : ∃ w3, w3 = wr := ⟨_, rfl⟩
      subst hw3
      have hup := up_calls w3 p D HD.out
      go_wp2_with fail
      refine (hup).mono ?_
      rintro e wq ⟨rfl, rfl⟩
      go_upto_if 54 with fail
      go_cut [55] (fun _ wx => ∃ D', Hid (DiskAt wx p D') ∧ Hid (D'.S.length = n) ∧ Hid (D'.up = true) ∧ Hid (Below w.heap.size w wx))
      case first =>
        cases hu : D.up with
        | true =>
          go_wp2_with fail
          go_meet
          exact ⟨D, HD.out, HSn.out, hu, HBD.out⟩
        | false =>
          have hst := start_calls wq p D HD.out
          clear hu
          go_wp2_with fail
          refine (hst).mono ?_
          rintro e w4 ⟨rfl, hD4, hs4⟩
          have HD4 := Lib.hid hD4
          have HB4 := Lib.hid (HBD.out.trans (hs4.below HBD.out.size (fun k hk => HPW.out k hk)))
          clear hD4 hs4 hst
          go_wp2_with fail
          go_meet
          exact ⟨startD D, HD4.out, HSn.out, rfl, HB4.out⟩
      case rest =>
        obtain ⟨D', HD, HSn, HU, HBc⟩ := hcut
        go_wp2_with fail
        go_loopw [12, 13] (fun s j wr => ∃ (q : Nat) (a2 : Option Addr) (c2 : Nat) (M : List Rs), q ≤ n ∧ j = .int .i64 (q : Int) ∧ s = .slice a2 M.length c2 ∧ Hid (M.map (·.l) = (List.range q).map (fun k => readR D' (k : Nat))) ∧ Hid (Rws wc.heap.size wr a2 M c2 ∧ Below wc.heap.size wc wr)) (fun _ j _ => n - (intOf j).toNat)
        case atStart => exact ⟨0, none, 0, [], Nat.zero_le _, rfl, rfl, rfl, Rws.nil _ _, Below.refl _ _⟩
        case round =>
          obtain ⟨q, a2, c2, M, hq, rfl, rfl, HM, HW⟩ := hrel
          by_cases hlt : q < n
          · have hk : q < D'.S.length := by rw [HSn.out]; exact hlt
            have hDr := HD.out.stay HW.out.2
            have hrd := read_calls wr p D' hDr q
            obtain ⟨er, ee⟩ := readR_up HU.out hk
            have hR64 : (readR D' q).length = 64 := by rw [er]; exact HD.out.ok.get hk
            obtain ⟨R, hR⟩ : ∃ R, Hid (R = readR D' q) := ⟨_, rfl⟩
            rw [ee, ← hR.out] at hrd
            rw [← hR.out] at hR64
            have HR64 := Lib.hid hR64
            have HML : Hid (M.length = q) := by have := congrArg List.length HM.out; rw [List.length_map, List.length_map, List.length_range] at this; exact this
            clear er ee hR64 hDr
            go_wp2_with fail
            refine (hrd).mono ?_
            rintro e w5 ⟨a5, c5, rfl, hM5, hb5⟩
            have HW5 := Lib.hid (HW.out.1.stay hb5)
            have HB5 := Lib.hid (HW.out.2.trans (hb5.mono HW.out.2.size))
            have HN : Hid (∀ g, Go.Cit.blk a5 = some g → wc.heap.size ≤ g ∧ g < w5.heap.size ∧ Go.Cit.blk a2 ≠ some g) := fun g hg => by
              have h1 := hM5.new g hg
              have h2 := HW.out.2.size
              obtain ⟨g2, off, e2⟩ := hM5.row.spot (by intro h0; have := HR64.out; rw [h0] at this; simp at this)
              have hr0 := hM5.row
              rw [e2] at hg hr0
              have e3 := blk_eq hg
              have := hr0.blk (i := 0) (by rw [HR64.out]; decide)
              simp [ad] at this
              exact ⟨by omega, by omega, fun e4 => by have := (HW.out.1.own.blk_ge e4).2; omega⟩
            have HR5 := Lib.hid hM5.row
            have HM2 : Hid ((M ++ [(⟨a5, R, c5⟩ : Rs)]).map (·.l) = (List.range (q + 1)).map (fun k => readR D' (k : Nat))) := by
              rw [Hid, List.map_append, HM.out, List.range_succ, List.map_append, hR.out]; rfl
            have HZ : Hid (M.length ≤ 12) := by rw [Hid, HML.out]; omega
            clear hM5 hb5 hrd
            go_wp2_with ((with_reducible refine wpList_vapp1 (o := ⟨some 71, .call _, _, _, _, _⟩) etRs cRs_len cRs_one (.tmp 68) (.tmp 70) (by with_unfolding_all rfl) (by with_unfolding_all rfl) HW5.out.own (y := ⟨a5, R, c5⟩) (by with_unfolding_all rfl) (by have := HZ.out; omega) HB5.out.size (by with_unfolding_all rfl) (by with_unfolding_all rfl) ?_); intro a7 c7 w7 hO7 hg7 hn7; have HW7 := Lib.hid (And.intro (HW5.out.app HR5.out HN.out hO7 hg7 hn7) (HB5.out.trans (HW5.out.below hg7 HB5.out.size))); clear hO7 hg7 hn7)
            go_roundw
            case rel => exact ⟨q + 1, a7, c7, _, hlt, by go_num, by rw [List.length_append]; rfl, HM2, HW7⟩
            case measure => simp [intOf]; omega
          · obtain ⟨w3, hw3⟩ : ∃ w3, w3 = wr := ⟨_, rfl⟩
            subst hw3
            have HQ : Hid (q = n) := by rw [Hid]; omega
            have HBw := Lib.hid (HBc.out.trans (HW.out.2.mono HBc.out.size))
            have HD3 := Lib.hid (HD.out.stay HW.out.2)
            have HPC : Hid (∀ k, wc.heap.size ≤ k → p.Off k) := fun k hk => by have := HD.out.lt; exact ⟨by omega, by omega, by omega⟩
            go_wp2_with fail
            refine (fill_calls w3 x).mono ?_
            rintro e w4 ⟨a6, rfl, hO6, hb6⟩
            have hwr := write_calls w4 p D' (HD3.out.stay hb6) i a6 (List.replicate 64 x) 64 hO6.isRow (fun _ g hg => HPC.out g (Nat.le_trans HW.out.2.size (hO6.blk_ge hg).1))
            rw [List.length_replicate] at hwr
            have HW4 := Lib.hid (HW.out.1.stay hb6)
            have HB4 := Lib.hid (HBw.out.trans (hb6.mono HBw.out.size))
            have HSZ4 : Hid (wc.heap.size ≤ w4.heap.size) := Nat.le_trans HW.out.2.size hb6.size
            have hiS : i < D'.S.length := by rw [HSn.out]; exact hi
            have hPd := HD.out.ok
            clear hO6 hb6
            by_cases hl1 : D'.left = 1
            · have e1 : writeE D' i 64 = 60 := by rw [writeE, if_neg (by rw [HU.out]; simp), if_neg (by simpa using hiS), if_neg (by simp), if_pos hl1]
              have e2 : (writeT D' i (List.replicate 64 x)).up = false := by rw [writeT, if_neg (by rw [HU.out]; simp [hiS]), if_pos hl1]; rfl
              rw [e1] at hwr
              clear e1 hl1 hiS hPd
              go_wp2_with fail
              refine (hwr).mono ?_
              rintro e w5 ⟨rfl, hD5, hs5⟩
              have hup2 := up_calls w5 p _ hD5
              rw [e2] at hup2
              have HB5 := Lib.hid (HB4.out.trans (hs5.below HB4.out.size (fun k hk => HPW.out k hk)))
              clear hD5 hs5 e2 hwr
              go_wp2_with fail
              refine (hup2).mono ?_
              rintro e w6 ⟨rfl, rfl⟩
              go_wp2_with fail
              go_ret
              exact ⟨rfl, HB5.out⟩
            · have e1 : writeE D' i 64 = 0 := by rw [writeE, if_neg (by rw [HU.out]; simp), if_neg (by simpa using hiS), if_neg (by simp), if_neg hl1]
              have HRW : Hid (∀ k, k < n → readE (writeT D' i (List.replicate 64 x)) (k : Nat) = 0 ∧ readR (writeT D' i (List.replicate 64 x)) (k : Nat) = if k = i then List.replicate 64 x else readR D' (k : Nat)) := fun k hk => write_read hPd HU.out hl1 hiS (by simp) (by rw [HSn.out]; exact hk)
              rw [e1] at hwr
              clear e1 hl1 hiS hPd
              go_wp2_with fail
              refine (hwr).mono ?_
              rintro e w5 ⟨rfl, hD5, hs5⟩
              have HD5 := Lib.hid hD5
              have HB5 := Lib.hid (HB4.out.trans (hs5.below HB4.out.size (fun k hk => HPW.out k hk)))
              have HW5 := Lib.hid (HW4.out.save hs5 (fun k hk => HPC.out k hk))
              have HMn : Hid (M.map (·.l) = (List.range n).map (fun k => readR D' (k : Nat))) := by rw [Hid, HM.out, HQ.out]
              have HMl : Hid (M.length = n) := by have := congrArg List.length HMn.out; rw [List.length_map, List.length_map, List.length_range] at this; exact this
              rw [HMl.out]
              clear hD5 hs5 hwr
              go_wp2_with fail
              go_loopw [17] (fun j wr => ∃ q : Nat, q ≤ n ∧ j = .int .i64 (q : Int) ∧ Hid (Below w5.heap.size w5 wr)) (fun j _ => n - (intOf j).toNat)
              case atStart => exact ⟨0, Nat.zero_le _, rfl, Below.refl _ _⟩
              case round =>
                obtain ⟨k, hk, rfl, HK⟩ := hrel
                by_cases hlk : k < n
                · have hkM : k < M.length := by rw [HMl.out]; exact hlk
                  obtain ⟨ee, er⟩ := HRW.out k hlk
                  have hrd := read_calls wr p _ (HD5.out.stay HK.out) k
                  rw [ee, er] at hrd
                  have hWr := HW5.out.stay HK.out
                  have hml : (M[k]).l = readR D' (k : Nat) := by
                    have h2 : (M.map (·.l))[k]? = ((List.range n).map (fun k => readR D' (k : Nat)))[k]? := by rw [HMn.out]
                    rw [List.getElem?_map, List.getElem?_eq_getElem hkM, List.getElem?_map, List.getElem?_range hlk] at h2
                    exact Option.some.inj h2
                  have ix := (hWr.own.vec cRs_len).index1 etRs k hkM
                  have ec := (hWr.own.vec cRs_len).cell1 k hkM
                  have hrow := (hWr.rows _ (List.getElem_mem hkM)).1
                  rw [hml] at hrow ec
                  rw [HMl.out] at ix
                  generalize (M[k]).a = am at *
                  generalize (M[k]).c = cm at *
                  have HROW := Lib.hid hrow
                  have HWR := Lib.hid hWr
                  by_cases hki : k = i
                  · have tk : ((k : Int) == (i : Int)) = true := by simp [hki]
                    have HKI := Lib.hid hki
                    rw [if_pos hki] at hrd
                    clear ee er hml hrow hWr hki
                    go_wp2_with fail
                    refine (hrd).mono ?_
                    rintro e w6 ⟨a8, c8, rfl, hM8, hb8⟩
                    have ec := keep hb8 ec
                    go_wp2_with fail
                    refine (fill_calls w6 x).mono ?_
                    rintro e w7 ⟨a9, rfl, hO9, hb9⟩
                    have hsm := wsame_calls w7 a8 a9 (List.replicate 64 x) (List.replicate 64 x) c8 64 (hM8.row.stay hb9) hO9.isRow
                    rw [List.length_replicate, ordB_self] at hsm
                    have HK7 := Lib.hid ((HK.out.trans (hb8.mono HK.out.size)).trans (hb9.mono (Nat.le_trans HK.out.size hb8.size)))
                    clear hM8 hb8 hO9 hb9 ec hrd
                    go_wp2_with fail
                    refine (hsm).mono ?_
                    rintro e w8 ⟨rfl, rfl⟩
                    go_wp2_with fail
                    go_roundw
                    case rel => exact ⟨k + 1, hlk, by go_num, HK7⟩
                    case measure => simp [intOf]; omega
                  · have tk : ((k : Int) == (i : Int)) = false := by simp; omega
                    rw [if_neg hki] at hrd
                    obtain ⟨Z, hZ⟩ : ∃ Z, Hid (Z = readR D' (k : Nat)) := ⟨_, rfl⟩
                    rw [← hZ.out] at hrd HROW ec
                    have hkn := hki
                    clear ee er hml hrow hWr hki
                    go_wp2_with fail
                    refine (hrd).mono ?_
                    rintro e w6 ⟨a8, c8, rfl, hM8, hb8⟩
                    have ec := keep hb8 ec
                    have hsm := wsame_calls w6 a8 am Z Z c8 cm hM8.row (HROW.out.stay hb8)
                    rw [ordB_self] at hsm
                    have HK6 := Lib.hid (HK.out.trans (hb8.mono HK.out.size))
                    clear hM8 hb8 hrd
                    go_wp2_with fail
                    refine (hsm).mono ?_
                    rintro e w8 ⟨rfl, rfl⟩
                    go_wp2_with fail
                    go_roundw
                    case rel => exact ⟨k + 1, hlk, by go_num, HK6⟩
                    case measure => simp [intOf]; omega
                · go_wp2_with fail
                  go_ret
                  exact ⟨rfl, HB5.out.trans (HK.out.mono HB5.out.size)⟩
set_option maxRecDepth 100000 in
set_option maxHeartbeats 4000000 in
theorem diskReads_all (w : World) (n : Int) (a : Option Addr) (L : List Ac) (c : Nat) (i : Int) (x : UInt8) (_hn : -9223372036854775808 ≤ n ∧ n ≤ 9223372036854775807) (h : Acts w a L c) (_hi : -9223372036854775808 ≤ i ∧ i ≤ 9223372036854775807) :
    Calls Try.prog 8 #[.int .i64 n, .slice a L.length c, .int .i64 i, vb x] w fun e w' => e = .returned (.bool true) ∧ Below w.heap.size w w' := by
  by_cases hb : n < 1 ∨ 12 < n ∨ 6000 < totA L
  · have HH := Lib.hid h
    clear h _hn _hi
    go_enter Try.func8, Try.ntmps8
    go_wp2_with fail
    refine (awake6_calls w).mono ?_
    rintro e w1 ⟨rfl, hb1⟩
    have hmd := made_bad w1 n a L c (HH.out.stay hb1) hb
    have HB1 := Lib.hid hb1
    clear hb1 hb
    go_wp2_with fail
    refine (hmd).mono ?_
    rintro e w2 ⟨rfl, rfl⟩
    go_wp2_with fail
    go_ret
    exact ⟨rfl, HB1.out⟩
  · obtain ⟨m, rfl⟩ : ∃ m : Nat, n = (m : Int) := ⟨n.toNat, by omega⟩
    by_cases hin : 0 ≤ i ∧ i < (m : Int)
    · obtain ⟨k, rfl⟩ : ∃ k : Nat, i = (k : Int) := ⟨i.toNat, by omega⟩
      exact diskReads_good w m a L c h (by omega) (by omega) (by omega) k (by omega) x
    · have HH := Lib.hid h
      have hT : totA L ≤ 6000 := by omega
      have h1 : 1 ≤ m := by omega
      have h12 : m ≤ 12 := by omega
      have HT := Lib.hid (And.intro hT (And.intro h1 h12))
      clear h _hn _hi hb hT h1 h12
      by_cases hi0 : i < 0
      · clear hin
        go_enter Try.func8, Try.ntmps8
        go_wp2_with fail
        refine (awake6_calls w).mono ?_
        rintro e w1 ⟨rfl, hb1⟩
        have hmd := made_calls w1 m a L c (HH.out.stay hb1) HT.out.2.1 HT.out.2.2 HT.out.1
        have HB1 := Lib.hid hb1
        clear hb1
        go_wp2_with fail
        refine (hmd).mono ?_
        rintro e w2 ⟨p, rfl, _, _, _, hb2⟩
        have HB2 := Lib.hid (HB1.out.trans (hb2.mono HB1.out.size))
        clear hb2
        go_wp2_with fail
        go_ret
        exact ⟨rfl, HB2.out⟩
      · have t2 : (m : Int) ≤ i := by omega
        clear hin
        go_enter Try.func8, Try.ntmps8
        go_wp2_with fail
        refine (awake6_calls w).mono ?_
        rintro e w1 ⟨rfl, hb1⟩
        have hmd := made_calls w1 m a L c (HH.out.stay hb1) HT.out.2.1 HT.out.2.2 HT.out.1
        have HB1 := Lib.hid hb1
        clear hb1
        go_wp2_with fail
        refine (hmd).mono ?_
        rintro e w2 ⟨p, rfl, _, _, _, hb2⟩
        have HB2 := Lib.hid (HB1.out.trans (hb2.mono HB1.out.size))
        clear hb2
        go_wp2_with fail
        go_ret
        exact ⟨rfl, HB2.out⟩
end Go.Proofs.Ytofagofpeedfcaa
