/- Chapter 6's law DiskStays: walked. -/
import Derived.Test.YtofagofpeedfcaaRws
import Derived.Deep.CutBlock
import Derived.Deep.DeepCutAuto
namespace Go.Proofs.Ytofagofpeedfcaa
open Go Go.RowKit Go.Cit

theorem spillK_get (q : Nat → Bool) (D : Dk) (k : Nat) {i : Nat} (h : i ∉ dirtyL D.C) : (spillK q D k)[i]? = D.S[i]? := by
  unfold spillK
  have hm : ∀ x ∈ ((dirtyL D.C).take k).zipIdx, x.1 ≠ i := fun x hx e => by
    have h1 := List.mem_zipIdx hx
    exact h (by rw [← e]; exact List.mem_of_mem_take (by rw [h1.2.2]; exact List.getElem_mem _))
  generalize ((dirtyL D.C).take k).zipIdx = Z at hm
  have : ∀ S : List (List UInt8), (Z.foldl (fun S x => if q x.2 then S.set x.1 ((D.C[x.1]?.join).getD []) else S) S)[i]? = S[i]? := by
    induction Z with
    | nil => intro S; rfl
    | cons x Z ih =>
      intro S
      rw [List.foldl_cons, ih (fun y hy => hm y (List.mem_cons_of_mem _ hy))]
      split
      · rw [List.getElem?_set_ne (hm x (List.mem_cons_self ..))]
      · rfl
  exact this D.S
theorem flushedR_of {D D' : Dk} {i : Nat} (hl : D'.S.length = D.S.length) (h : D'.S[i]? = D.S[i]?) : flushedR D' i = flushedR D i := by
  unfold flushedR
  rw [hl, Int.toNat_natCast, h]
/-- What is not in the cache stays as it was flushed. -/
theorem act_stays {D : Dk} (h : D.Ok) (x : Ac) (hl : x.l.length ≤ 6000) (hn : x.n ≤ 9223372036854775807) {i : Nat} (hi : i ∉ dirtyL D.C) : flushedR (actD D x) i = flushedR D i := by
  refine flushedR_of (actD_ok h x hl hn).2 ?_
  have hsp : ∀ q, (spillD q D).S[i]? = D.S[i]? := fun q => spillK_get q D _ hi
  have hst : ∀ q, (spillD q (tickD D)).S[i]? = D.S[i]? := fun q => spillK_get q (tickD D) _ hi
  unfold actD
  split
  · unfold writeT
    split
    · rfl
    · split
      · exact hsp _
      · rfl
  split
  · unfold flushT
    split
    · rfl
    · split
      · exact hsp _
      · exact hst _
  split
  · unfold crashT
    split
    · rfl
    · exact hsp _
  split
  · unfold armD
    split <;> rfl
  split <;> rfl
/-- What is refused changes nothing. -/
theorem act_refused (D : Dk) (x : Ac) (h0 : actE D x ≠ 0) (h60 : actE D x ≠ 60) : actD D x = D := by
  unfold actE at h0 h60
  unfold actD
  split at h0 <;> rename_i h1
  · rw [if_pos h1] at h60 ⊢
    unfold writeE at h0 h60
    unfold writeT
    split at h0 <;> rename_i h2
    · rw [if_pos h2] at h60; exact absurd rfl h60
    rw [if_neg h2] at h60
    split at h0 <;> rename_i h3
    · rw [if_pos (.inr (.inl h3))]
    rw [if_neg h3] at h60
    split at h0 <;> rename_i h4
    · rw [if_pos (.inr (.inr h4))]
    rw [if_neg h4] at h60
    split at h0 <;> rename_i h5
    · rw [if_pos h5] at h60; exact absurd rfl h60
    · exact absurd rfl h0
  rw [if_neg h1] at h60 ⊢
  split at h0 <;> rename_i h1
  · rw [if_pos h1] at h60
    unfold flushE at h0 h60
    split at h0 <;> rename_i h2
    · rw [if_pos h2] at h60; exact absurd rfl h60
    · exact absurd rfl h0
  rw [if_neg h1] at h60 ⊢
  split at h0 <;> rename_i h1
  · rw [if_pos h1] at h60
    unfold crashE at h0 h60
    split at h0 <;> rename_i h2
    · rw [if_pos h2] at h60; exact absurd rfl h60
    · exact absurd rfl h0
  rw [if_neg h1] at h60 ⊢
  split at h0 <;> rename_i h1
  · rw [if_pos h1] at h60 ⊢
    unfold armE at h0 h60
    unfold armD
    split at h0 <;> rename_i h2
    · rw [if_pos h2] at h60; exact absurd rfl h60
    split at h0 <;> rename_i h3
    · rw [if_pos (.inr h3)]
    · exact absurd rfl h0
  rw [if_neg h1] at h60 ⊢
  split at h0 <;> rename_i h1
  · rw [if_pos h1]
    unfold startE at h0
    split at h0 <;> rename_i h2
    · unfold startD; cases D; simp only [] at h2; simp [h2]
    · exact absurd rfl h0
  · exact absurd rfl h0
theorem any_dirty {C : CacheV} {i : Nat} : (dirtyI C).any (fun z => z == (i : Int)) = decide (i ∈ dirtyL C) := by
  rw [Bool.eq_iff_iff, List.any_eq_true, decide_eq_true_iff]
  unfold dirtyI
  constructor
  · rintro ⟨z, hz, he⟩
    obtain ⟨j, hj, rfl⟩ := List.mem_map.1 hz
    have e1 : (Int.ofNat j) = (i : Int) := by simpa using he
    have : j = i := by have := Int.ofNat.inj e1; exact this
    rw [← this]; exact hj
  · intro h
    exact ⟨_, List.mem_map.2 ⟨i, h, rfl⟩, by simp⟩
theorem any_succ (l : List Int) (q : Nat) (hq : q < l.length) (f : Int → Bool) : (l.take (q + 1)).any f = ((l.take q).any f || f l[q]) := by
  rw [List.take_succ_eq_append_getElem hq, List.any_append]; simp
set_option maxRecDepth 100000 in
set_option maxHeartbeats 4000000 in
theorem diskStays_good (w : World) (n : Nat) (a : Option Addr) (L : List Ac) (c : Nat) (h : Acts w a L c) (h1 : 1 ≤ n) (h12 : n ≤ 12) (hT : totA L ≤ 6000) (i : Nat) (hi : i < n) :
    Calls Try.prog 6 #[.int .i64 (n : Int), .slice a L.length c, .int .i64 (i : Int)] w fun e w' => e = .returned (.bool true) ∧ Below w.heap.size w w' := by
  have hll := h.vec.len_le
  have HH := Lib.hid h
  have HT := Lib.hid hT
  clear h hT
  go_enter Try.func6, Try.ntmps6
  go_wp2_with fail
  refine (awake6_calls w).mono ?_
  rintro e w1 ⟨rfl, hb1⟩
  have HB1 := Lib.hid hb1
  have hmd := made_calls w1 n a L c (HH.out.stay hb1) h1 h12 HT.out
  clear hb1
  go_wp2_with fail
  refine (hmd).mono ?_
  rintro e w2 ⟨p, rfl, hD2, _, hpl, hb2⟩
  have HB2 := Lib.hid (HB1.out.trans (hb2.mono HB1.out.size))
  have HD2 := Lib.hid hD2
  have HPL : Hid (∀ k, k < w1.heap.size → p.Off k) := fun k hk => ⟨by omega, by omega, by omega⟩
  have HPW : Hid (∀ k, k < w.heap.size → p.Off k) := fun k hk => HPL.out k (Nat.lt_of_lt_of_le hk HB1.out.size)
  clear hD2 hpl hb2 hmd
  have t1 : ¬ (i : Int) < 0 := by omega
  have t2 : ¬ (n : Int) ≤ (i : Int) := by omega
  have t3 : ¬ n ≤ i := by omega
  go_wp2_with fail
  go_loopw [9] (fun j wr => ∃ q : Nat, q ≤ L.length ∧ j = .int .i64 (q : Int) ∧ Hid ((∃ D, DiskAt wr p D ∧ D.S.length = n) ∧ Below w.heap.size w wr)) (fun j _ => L.length - (intOf j).toNat)
  case atStart => exact ⟨0, Nat.zero_le _, rfl, ⟨_, HD2.out, by simp [newD]⟩, HB2.out⟩
  case round =>
    obtain ⟨q, hq, rfl, HI⟩ := hrel
    obtain ⟨⟨D, hD, hSn⟩, hBD⟩ := HI.out
    obtain ⟨wv, hwv⟩ : ∃ wv, wv = wr := ⟨_, rfl⟩
    subst hwv
    have HBD := Lib.hid hBD
    have HD := Lib.hid hD
    have HSn := Lib.hid hSn
    clear hD hBD HI hSn
    by_cases hlt : q < L.length
    · have hfl := flushed_calls wv p D HD.out i
      obtain ⟨F, hF⟩ : ∃ F, Hid (F = flushedR D i) := ⟨_, rfl⟩
      rw [← hF.out] at hfl
      go_wp2_with fail
      refine (hfl).mono ?_
      rintro e w3 ⟨a3, c3, rfl, hO3, hb3⟩
      have HD3 := Lib.hid (HD.out.stay hb3)
      have HO3 := Lib.hid hO3
      have HB3 := Lib.hid hb3
      have hup := up_calls w3 p D HD3.out
      clear hO3 hb3 hfl
      go_wp2_with fail
      refine (hup).mono ?_
      rintro e w4 ⟨rfl, rfl⟩
      have hdi := dirty_calls w4 p D HD3.out
      go_wp2_with fail
      refine (hdi).mono ?_
      rintro e w5 ⟨a5, c5, rfl, hO5, hb5⟩
      have HD5 := Lib.hid (HD3.out.stay hb5)
      have HO35 := Lib.hid (HO3.out.stay hb5)
      have HB5 := Lib.hid (HB3.out.trans (hb5.mono HB3.out.size))
      have HV := Lib.hid (hO5.vec (fun _ => rfl))
      have hdl : (dirtyI D.C).length ≤ 1024 := by
        have h1 := dirtyL_len D.C
        have h2 := HD.out.ok.len
        have h3 := HD.out.ok.few
        rw [dirtyI, List.length_map]; omega
      clear hO5 hb5 hdi hup
      obtain ⟨M, hM⟩ : ∃ M, Hid (M = dirtyI D.C) := ⟨_, rfl⟩
      rw [← hM.out] at HV hdl ⊢
      go_wp2_with fail
      go_loopw [12, 14] (fun s j wr => ∃ (m : Nat) (b : Bool), m ≤ M.length ∧ j = .int .i64 (m : Int) ∧ s = .bool b ∧ Hid (b = (M.take m).any (fun z => z == (i : Int))) ∧ Hid (Below w5.heap.size w5 wr)) (fun _ j _ => M.length - (intOf j).toNat)
      case atStart => exact ⟨0, false, Nat.zero_le _, rfl, rfl, by rw [Hid]; simp, Below.refl _ _⟩
      case round =>
        obtain ⟨m, b, hm, rfl, rfl, Hb, HK⟩ := hrel
        by_cases hlm : m < M.length
        · have ix := HV.out.index1 etZ m hlm
          have ec := (HV.out.stay (fun _ => rfl) HK.out).cell1 m hlm
          have HS := Lib.hid (any_succ M m hlm (fun z => z == (i : Int)))
          generalize M[m] = z at ec HS
          cases b with
          | true =>
            clear ix ec
            go_wp2_with fail
            go_roundw
            case rel => exact ⟨m + 1, true, hlm, by go_num, rfl, by rw [Hid, HS.out, ← Hb.out]; rfl, HK⟩
            case measure => simp [intOf]; omega
          | false =>
            by_cases hz : z = (i : Int)
            · have tz : (z == (i : Int)) = true := by simp [hz]
              have HZ := Lib.hid tz
              clear hz
              go_wp2_with fail
              go_roundw
              case rel => exact ⟨m + 1, true, hlm, by go_num, rfl, by rw [Hid, HS.out, ← Hb.out]; exact HZ.out.symm, HK⟩
              case measure => simp [intOf]; omega
            · have tz : (z == (i : Int)) = false := by simp [hz]
              have HZ := Lib.hid tz
              clear hz
              go_wp2_with fail
              go_roundw
              case rel => exact ⟨m + 1, false, hlm, by go_num, rfl, by rw [Hid, HS.out, ← Hb.out]; exact HZ.out.symm, HK⟩
              case measure => simp [intOf]; omega
        · have HBB : Hid (b = decide (i ∈ dirtyL D.C)) := by
            rw [Hid, Hb.out, List.take_of_length_le (by omega), hM.out, any_dirty]
          obtain ⟨w7, hw7⟩ : ∃ w7, w7 = wr := ⟨_, rfl⟩
          subst hw7
          have HD7 := Lib.hid (HD5.out.stay HK.out)
          have HO37 := Lib.hid (HO35.out.stay HK.out)
          have HB7 := Lib.hid (HB5.out.trans (HK.out.mono HB5.out.size))
          have HBW7 := Lib.hid (HBD.out.trans (HB7.out.mono HBD.out.size))
          have hA := HH.out.stay HBW7.out
          have i0 := hA.vec.index etA q hlt
          have hxl : (L[q]).l.length ≤ 6000 := by have h1 := totA_one L q hlt; have h2 := HT.out; omega
          have HLD := Lib.hid (hA.load q hlt)
          have hat := hA.at_ _ (List.getElem_mem hlt)
          have HDO := Lib.hid (do_calls w7 p D L[q] HD7.out hat hxl (act_off HH.out HPW.out q hlt))
          have HNX : Hid ((actD D L[q]).S.length = n) := by rw [Hid, (actD_ok HD7.out.ok L[q] hxl hat.hn.2).2]; exact HSn.out
          have HST : Hid (b = false → flushedR (actD D L[q]) i = F) := fun e => by
            rw [hF.out]
            refine act_stays HD7.out.ok L[q] hxl hat.hn.2 ?_
            rw [HBB.out] at e
            exact of_decide_eq_false e
          have HRE : Hid (actE D L[q] ≠ 0 → actE D L[q] ≠ 60 → actD D L[q] = D) := act_refused D L[q]
          generalize L[q] = y at HLD HDO HNX HST HRE
          have HOF : Hid (∀ g, Go.Cit.blk a3 = some g → p.Off g) := fun g hg => by
            have h1 := (HO37.out.blk_ge hg).1
            have h2 := HD.out.lt
            exact ⟨by omega, by omega, by omega⟩
          clear hA hxl hat Hb
          go_wp2_with ((with_reducible refine wpList_load_rn (o := ⟨some 67, .load _ (.tmp 66), _, _, _, _⟩) (.tmp 66) (by with_unfolding_all rfl) (by with_unfolding_all rfl) (by with_unfolding_all rfl) HLD.out ?_))
          refine (HDO.out).mono ?_
          rintro e w8 ⟨rfl, hD8, hs8⟩
          have HD8 := Lib.hid hD8
          have HB8 := Lib.hid (HBW7.out.trans (hs8.below HBW7.out.size (fun k hk => HPW.out k hk)))
          have HR8 := Lib.hid (HO37.out.isRow.save hs8 HOF.out)
          obtain ⟨E, hE⟩ : ∃ E, Hid (E = actE D y) := ⟨_, rfl⟩
          obtain ⟨D', hD'⟩ : ∃ D', Hid (D' = actD D y) := ⟨_, rfl⟩
          rw [← hE.out] at HRE ⊢
          rw [← hD'.out] at HRE HST HNX HD8
          clear hD8 hs8 HDO HLD i0
          go_upto_region 17 with fail
          go_cut [78] (fun v wx => v = .bool false ∧ Hid (DiskAt wx p D') ∧ Hid (Row wx a3 F c3) ∧ Hid (Below w.heap.size w wx))
          case first =>
            cases b with
            | true =>
              go_wp2_with fail
              go_meet
              exact ⟨rfl, HD8, HR8, HB8⟩
            | false =>
              have hfl := flushed_calls w8 p D' HD8.out i
              rw [HST.out rfl] at hfl
              go_wp2_with fail
              refine (hfl).mono ?_
              rintro e w9 ⟨a9, c9, rfl, hO9, hb9⟩
              have hsm := wsame_calls w9 a9 a3 F F c9 c3 hO9.isRow (HR8.out.stay hb9)
              rw [ordB_self] at hsm
              have HD9 := Lib.hid (HD8.out.stay hb9)
              have HR9 := Lib.hid (HR8.out.stay hb9)
              have HB9 := Lib.hid (HB8.out.trans (hb9.mono HB8.out.size))
              clear hO9 hb9 hfl
              go_wp2_with fail
              refine (hsm).mono ?_
              rintro e w10 ⟨rfl, rfl⟩
              go_wp2_with fail
              go_meet
              exact ⟨rfl, HD9, HR9, HB9⟩
          case rest =>
            obtain ⟨rfl, HDc, HRc, HBc⟩ := hcut
            by_cases hE0 : E = 0
            · have t0 : (E == 0) = true := by simp [hE0]
              subst hE0
              go_wp2_with fail
              go_roundw
              case rel => exact ⟨q + 1, hlt, by go_num, ⟨_, HDc.out, HNX.out⟩, HBc.out⟩
              case measure => simp [intOf]; omega
            by_cases hE60 : E = 60
            · subst hE60
              go_wp2_with fail
              go_roundw
              case rel => exact ⟨q + 1, hlt, by go_num, ⟨_, HDc.out, HNX.out⟩, HBc.out⟩
              case measure => simp [intOf]; omega
            · have HDD := Lib.hid (HRE.out hE0 hE60)
              have t0 : (E == 0) = false := by simp [hE0]
              have t6 : (E == 60) = false := by simp [hE60]
              have hfl := flushed_calls wc p D' HDc.out i
              rw [HDD.out, ← hF.out] at hfl
              go_wp2_with fail
              refine (hfl).mono ?_
              rintro e w9 ⟨a9, c9, rfl, hO9, hb9⟩
              have hsm := wsame_calls w9 a9 a3 F F c9 c3 hO9.isRow (HRc.out.stay hb9)
              rw [ordB_self] at hsm
              have HD9 := Lib.hid (HDc.out.stay hb9)
              have HB9 := Lib.hid (HBc.out.trans (hb9.mono HBc.out.size))
              have hup := up_calls w9 p D' HD9.out
              rw [HDD.out] at hup
              clear hO9 hb9 hfl
              go_wp2_with fail
              refine (hsm).mono ?_
              rintro e w10 ⟨rfl, rfl⟩
              go_wp2_with fail
              refine (hup).mono ?_
              rintro e w10 ⟨rfl, rfl⟩
              go_wp2_with fail
              go_roundw
              case rel => exact ⟨q + 1, hlt, by go_num, ⟨_, HD9.out, HNX.out⟩, HB9.out⟩
              case measure => simp [intOf]; omega
    · go_wp2_with fail
      go_ret
      exact ⟨rfl, HBD.out⟩
set_option maxRecDepth 100000 in
set_option maxHeartbeats 4000000 in
theorem diskStays_all (w : World) (n : Int) (a : Option Addr) (L : List Ac) (c : Nat) (i : Int) (_hn : -9223372036854775808 ≤ n ∧ n ≤ 9223372036854775807) (h : Acts w a L c) (_hi : -9223372036854775808 ≤ i ∧ i ≤ 9223372036854775807) :
    Calls Try.prog 6 #[.int .i64 n, .slice a L.length c, .int .i64 i] w fun e w' => e = .returned (.bool true) ∧ Below w.heap.size w w' := by
  by_cases hb : n < 1 ∨ 12 < n ∨ 6000 < totA L
  · have HH := Lib.hid h
    clear h _hn _hi
    go_enter Try.func6, Try.ntmps6
    go_wp2_with fail
    refine (awake6_calls w).mono ?_
    rintro e w1 ⟨rfl, hb1⟩
    have hmd := made_bad w1 n a L c (HH.out.stay hb1) hb
    have HB1 := Lib.hid hb1
    clear hb1 hb
    go_wp2_with fail
    refine (hmd).mono ?_
    rintro e w2 ⟨rfl, rfl⟩
    go_wp2_with fail
    go_ret
    exact ⟨rfl, HB1.out⟩
  · obtain ⟨m, rfl⟩ : ∃ m : Nat, n = (m : Int) := ⟨n.toNat, by omega⟩
    by_cases hin : 0 ≤ i ∧ i < (m : Int)
    · obtain ⟨k, rfl⟩ : ∃ k : Nat, i = (k : Int) := ⟨i.toNat, by omega⟩
      exact diskStays_good w m a L c h (by omega) (by omega) (by omega) k (by omega)
    · have HH := Lib.hid h
      have hT : totA L ≤ 6000 := by omega
      have h1 : 1 ≤ m := by omega
      have h12 : m ≤ 12 := by omega
      have HT := Lib.hid (And.intro hT (And.intro h1 h12))
      clear h _hn _hi hb hT h1 h12
      by_cases hi0 : i < 0
      · clear hin
        go_enter Try.func6, Try.ntmps6
        go_wp2_with fail
        refine (awake6_calls w).mono ?_
        rintro e w1 ⟨rfl, hb1⟩
        have hmd := made_calls w1 m a L c (HH.out.stay hb1) HT.out.2.1 HT.out.2.2 HT.out.1
        have HB1 := Lib.hid hb1
        clear hb1
        go_wp2_with fail
        refine (hmd).mono ?_
        rintro e w2 ⟨p, rfl, _, _, _, hb2⟩
        have HB2 := Lib.hid (HB1.out.trans (hb2.mono HB1.out.size))
        clear hb2
        go_wp2_with fail
        go_ret
        exact ⟨rfl, HB2.out⟩
      · have t2 : (m : Int) ≤ i := by omega
        clear hin
        go_enter Try.func6, Try.ntmps6
        go_wp2_with fail
        refine (awake6_calls w).mono ?_
        rintro e w1 ⟨rfl, hb1⟩
        have hmd := made_calls w1 m a L c (HH.out.stay hb1) HT.out.2.1 HT.out.2.2 HT.out.1
        have HB1 := Lib.hid hb1
        clear hb1
        go_wp2_with fail
        refine (hmd).mono ?_
        rintro e w2 ⟨p, rfl, _, _, _, hb2⟩
        have HB2 := Lib.hid (HB1.out.trans (hb2.mono HB1.out.size))
        clear hb2
        go_wp2_with fail
        go_ret
        exact ⟨rfl, HB2.out⟩
end Go.Proofs.Ytofagofpeedfcaa
