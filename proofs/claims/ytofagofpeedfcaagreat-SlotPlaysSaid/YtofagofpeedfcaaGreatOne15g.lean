/- Chapter 15's law: one, at a Get: walked. -/
import Derived.Test.YtofagofpeedfcaaGreatOne15
namespace Go.Proofs.YtofagofpeedfcaaGreat
open Go Go.RowKit Go.Cit

theorem tag_ix3 (b : Nat) (w : World) : (Instr.indexAt 54 (.pointer (some ⟨b, 0, none⟩)) (.int .i64 3)).run Tryz.prog w = .ok (.pointer (some ⟨b, 3, none⟩)) w := by kernel_rfl
set_option maxRecDepth 100000 in
set_option maxHeartbeats 4000000 in
theorem one15_get (w0 : World) (p : Pl) (r : Rl) (D : Dk) (x : Ax) (h : Pair w0 p r D) (hx : x.At w0) (hl : x.l.length ≤ 6000) (hxo : x.l ≠ [] → ∀ g, Go.Cit.blk x.a = some g → p.Off g ∧ r.Off g) (hk : x.kind = 4) :
    Calls Tryz.prog 7 #[.pointer (some ⟨p.b, 0, none⟩), .pointer (some ⟨r.b, 0, none⟩), .agg x.cs.toArray] w0 fun e w' => e = .returned (.bool true) ∧ (∃ D', Pair w' p r D') ∧ Save (fun k => p.Off k ∧ r.Off k) w0 w' := by
  obtain ⟨w1, hw1⟩ : ∃ w1, w1 = w0.alloc (.cells x.cs.toArray 33) := ⟨_, rfl⟩
  obtain ⟨hbx, h1, hx1, hs1, hof, hnew, hsz⟩ := ax_box w0 p r D x h hx w1 hw1
  have H1 := Lib.hid h1
  have HS1 := Lib.hid hs1
  have HX1 := Lib.hid hx1
  have HBX := Lib.hid hbx
  have HOF := Lib.hid hof
  have HNEW := Lib.hid hnew
  have HSZ := Lib.hid hsz
  have HXO := Lib.hid hxo
  have HL := Lib.hid hl
  obtain ⟨c0, c1, c2, c3, c4⟩ := hbx.cells
  clear h hx h1 hs1 hx1 hbx hof hnew hsz hxo hl
  have HA := Lib.hid (fun ρ d ty ps af w => alloc_tag ρ d ty ps (af := af) w)
  obtain ⟨X, hX⟩ : ∃ Y, Hid (Y = ((List.replicate 32 (0 : UInt8)).map vb).toArray) := ⟨_, rfl⟩
  rw [← hX.out] at HA
  have HX : Hid (X.size = 32) := by rw [Hid, hX.out]; simp
  have hf := rrd_any w1 r D H1.out.r H1.out.d.ok x.slot x.at_ HX1.out.hs HX1.out.hn
  obtain ⟨E, hE⟩ : ∃ E, Hid (E = (rdA D x.slot x.at_).2) := ⟨_, rfl⟩
  rw [← hE.out] at hf
  rw [hk] at c0
  go_enter Tryz.func7, Tryz.ntmps7
  go_wp2_with fail
  rw [← hw1]
  clear hw1
  refine (hf).mono ?_
  rintro e w2 ⟨a2, cc2, m2, rfl, hm2, hr2, hb2⟩
  have H2 := Lib.hid (H1.out.stay hb2)
  have HB2 := Lib.hid hb2
  have hml : m2.length ≤ 10000000 := by have := rdA_len D x.slot x.at_; rw [hm2]; omega
  have hsum := refsum_calls w2 a2 m2 cc2 hr2 hml
  have HBX2 := Lib.hid (HBX.out.stay hb2)
  obtain ⟨S, hS⟩ : ∃ S, Hid (S = sumB m2) := ⟨_, rfl⟩
  have HS32 : Hid (S.length = 32) := by rw [Hid, hS.out]; exact sumB32 _
  obtain ⟨D2, hD⟩ : ∃ D2, Hid (D2 = (S.map vb).toArray) := ⟨_, rfl⟩
  rw [← hS.out, ← hD.out] at hsum
  have HDs : Hid (D2.size = 32) := by rw [Hid, hD.out]; simpa using HS32.out
  have HDo : Hid (D2.all (·.oneCell') = true) := by rw [Hid, hD.out]; exact arrB_ok _
  clear c0 c1 c2 c3 c4 hb2 hr2 hf hm2 hml
  go_wp2_with fail
  refine (hsum).mono ?_
  rintro e w3 ⟨rfl, hb3⟩
  have H3 := Lib.hid (H2.out.stay hb3)
  have HB3 := Lib.hid (HB2.out.trans (hb3.mono HB2.out.size))
  have HBX3 := Lib.hid (HBX2.out.stay hb3)
  have HN : Hid ((w3.alloc (.cells X 54)).heap[w3.heap.size]? = some (.cells X 54 (0, 0))) := heap_alloc_new _ _
  clear hb3 hsum
  go_upto_region 15 with ((first
    | ((with_reducible refine wpList_value (o := ⟨some 15, .alloc _, _, _, _, _⟩) (by with_unfolding_all rfl) (HA.out _ _ _ _ _ _) ?_))
    | ((with_reducible refine wpList_storeB (o := ⟨none, .store _ (.tmp 15) (.tmp 96), _, _, _, _⟩) row_tag (.tmp 15) (.tmp 96) (by with_unfolding_all rfl) (by with_unfolding_all rfl) (by with_unfolding_all rfl) (by with_unfolding_all rfl) (by with_unfolding_all rfl) HN.out HX.out HDs.out HDo.out ?_); intro w5 hb5 hS5; have HB5 := Lib.hid hb5; have HS5 := Lib.hid hS5; clear hb5 hS5)))
  have hA5 : Below w3.heap.size w3 w5 := ((Below.refl _ w3).alloc (Nat.le_refl _) (.cells X 54)).trans (HS5.out.below (by simp) (fun j hj => by omega))
  obtain ⟨t, ht⟩ : ∃ t, t = w3.heap.size := ⟨_, rfl⟩
  have HTN : Hid (p.Off t ∧ r.Off t ∧ t ≠ w0.heap.size ∧ w0.heap.size ≤ t) := by
    have h1 := Nat.le_trans HSZ.out HB3.out.size
    have h2 := (Array.getElem?_eq_some_iff.1 (show w3.heap[w0.heap.size]? = _ from HBX3.out)).1
    rw [ht]
    exact ⟨(HNEW.out _ h1).1, (HNEW.out _ h1).2, by omega, h1⟩
  have HA5 : Hid (ArrB 54 w5 t S) := by rw [Hid, ArrB, ht, ← hD.out]; exact HB5.out
  obtain ⟨p2, hp2⟩ : ∃ q, Hid (q = p.more w3.heap.size w5.heap.size) := ⟨_, rfl⟩
  obtain ⟨r2, hr2⟩ : ∃ q, Hid (q = r.more w3.heap.size w5.heap.size) := ⟨_, rfl⟩
  have HP5 : Hid (Pair w5 p2 r2 D) := by rw [Hid, hp2.out, hr2.out]; exact H3.out.more hA5
  have HTX : Hid (p2.x t ∧ r2.x t) := by
    have h1 := HA5.out.lt
    rw [hp2.out, hr2.out]
    exact ⟨.inr ⟨by omega, h1⟩, .inr ⟨by omega, h1⟩⟩
  have HTR : Hid (w3.heap.size ≤ t ∧ t < w5.heap.size) := ⟨by omega, HA5.out.lt⟩
  have HSV5 := Lib.hid (HS1.out.trans (Save.of (HB3.out.trans (hA5.mono HB3.out.size))))
  have HBX5 := Lib.hid (HBX3.out.stay hA5)
  obtain ⟨d0, d1, d2, d3, d4⟩ := HBX5.out.cells
  rw [← ht]
  clear HB5 HS5 hA5 HN HA ht
  cases ho : x.odd with
  | false =>
    rw [ho] at d4
    go_upto_region 17 with fail
    clear d0 d1 d2 d3 d4
    obtain ⟨w6, hw6⟩ : ∃ w6, w6 = w5 := ⟨_, rfl⟩
    subst hw6
    obtain ⟨K, hK⟩ : ∃ K, Hid (K = S) := ⟨_, rfl⟩
    have HK32 : Hid (K.length = 32) := by rw [hK.out]; exact HS32.out
    have HA6 : Hid (ArrB 54 w6 t K) := by rw [hK.out]; exact HA5.out
    have H6 : Hid (Pair w6 p r D) := by
      have h9 := HP5.out
      rw [hp2.out, hr2.out] at h9
      exact h9.less H1.out.hx
    have HBX6 := HBX5
    have HSV6 := HSV5
    obtain ⟨C, hC⟩ : ∃ C, Hid (C = (K.map vb).toArray) := ⟨_, rfl⟩
    have HCK := hC
    have HC32 : Hid (C.size = 32) := by rw [Hid, hC.out]; simpa using HK32.out
    have HT6 : Hid (w6.heap[t]? = some (.cells C 54 (0, 0))) := by rw [Hid, hC.out]; exact HA6.out
    obtain ⟨F, HF⟩ : ∃ F, Hid (F = (getA D x.slot x.at_ K).2) := ⟨_, rfl⟩
    obtain ⟨GM, HGM⟩ : ∃ F, Hid (F = (getA D x.slot x.at_ K).1) := ⟨_, rfl⟩
    have HG1 : Hid (Calls Tryz.prog 16 #[.pointer (some ⟨p.b, 0, none⟩), .int .i64 x.slot, .int .i64 x.at_, .agg C] w6 fun e w' => ∃ a c m, e = .returned (.tuple #[.slice a m.length c, .int .i64 F]) ∧ m = GM ∧ Row w' a m c ∧ Below w6.heap.size w6 w') := by
      have h9 := sget_any w6 p D H6.out.d x.slot x.at_ HX1.out.hs HX1.out.hn K HK32.out
      rw [← HF.out, ← HGM.out, ← HCK.out] at h9
      exact h9
    obtain ⟨f0, f1, f2, f3, f4⟩ := HBX6.out.cells
    go_wp2_with ((with_reducible refine wpList_loadB (o := ⟨some 109, .load _ (.tmp 15), _, _, _, _⟩) row_tag (.tmp 15) (by with_unfolding_all rfl) (by with_unfolding_all rfl) (by with_unfolding_all rfl) HT6.out HC32.out ?_))
    refine (HG1.out).mono ?_
    rintro e w7 ⟨a7, cc7, m7, rfl, hm7, hr7, hb7⟩
    have H7 := Lib.hid (H6.out.stay hb7)
    have HB7 := Lib.hid hb7
    have HR7 := Lib.hid hr7
    have HT7 : Hid (w7.heap[t]? = some (.cells C 54 (0, 0))) := (hb7.block _ (Array.getElem?_eq_some_iff.1 HT6.out).1).trans HT6.out
    obtain ⟨g0, g1, g2, g3, g4⟩ := (HBX6.out.stay hb7).cells
    have HG2 : Hid (Calls Tryz.prog 17 #[.pointer (some ⟨r.b, 0, none⟩), .int .i64 x.slot, .int .i64 x.at_, .agg C] w7 fun e w' => ∃ a c m, e = .returned (.tuple #[.slice a m.length c, .int .i64 F]) ∧ m = GM ∧ Row w' a m c ∧ Below w7.heap.size w7 w') := by
      have h9 := rget_any w7 r D H7.out.r H1.out.d.ok x.slot x.at_ HX1.out.hs HX1.out.hn K HK32.out
      rw [← HF.out, ← HGM.out, ← HCK.out] at h9
      exact h9
    clear f0 f1 f2 f3 f4 hb7 hr7
    go_wp2_with ((with_reducible refine wpList_loadB (o := ⟨some 119, .load _ (.tmp 15), _, _, _, _⟩) row_tag (.tmp 15) (by with_unfolding_all rfl) (by with_unfolding_all rfl) (by with_unfolding_all rfl) HT7.out HC32.out ?_))
    refine (HG2.out).mono ?_
    rintro e w8 ⟨a8, cc8, m8, rfl, hm8, hr8, hb8⟩
    have H8 := Lib.hid (H7.out.stay hb8)
    have HB8 := Lib.hid (HB7.out.trans (hb8.mono HB7.out.size))
    subst hm7
    subst hm8
    have hsm := rsame_self w8 a7 a8 m8 cc7 cc8 (HR7.out.stay hb8) hr8
    clear g0 g1 g2 g3 g4 hb8 hr8
    go_wp2_with fail
    refine (hsm).mono ?_
    rintro e w9 ⟨rfl, hb9⟩
    have H9 := Lib.hid (H8.out.stay hb9)
    have HB9 := Lib.hid (HB8.out.trans (hb9.mono HB8.out.size))
    clear hb9 hsm
    go_wp2_with fail
    go_ret
    exact ⟨ret_bool (by simp), ⟨_, H9.out⟩, HSV6.out.trans (Save.of HB9.out)⟩
  | true =>
    rw [ho] at d4
    have ix := tag_ix3 t
    have h3 : 3 < S.length := by rw [HS32.out]; decide
    have e3 := HA5.out.cell 3 h3
    have fr := HA5.out.free 3
    obtain ⟨v0, hv0⟩ : ∃ v0, Hid (v0 = S[3]'h3) := ⟨_, rfl⟩
    rw [← hv0.out] at e3
    clear hv0 h3
    go_upto_region 17 with fail
    clear d0 d1 d2 d3 d4 ix e3 fr
    obtain ⟨w6, hw6⟩ : ∃ w6, w6 = w5.setCell ⟨t, 3, none⟩ (vb (bAdd v0 (bI 1))) := ⟨_, rfl⟩
    have hs6 : Save (· ≠ t) w5 w6 := by rw [hw6]; exact Save.set
    obtain ⟨K, hK⟩ : ∃ K, Hid (K = S.set 3 (bAdd v0 (bI 1))) := ⟨_, rfl⟩
    have HK32 : Hid (K.length = 32) := by rw [hK.out, Hid, List.length_set]; exact HS32.out
    have HA6 : Hid (ArrB 54 w6 t K) := by rw [hK.out, hw6]; exact HA5.out.set 3 _
    rw [show w5.setCell ⟨t, 3, none⟩ (.int .u8 ((bAdd v0 (bI 1)).toNat : Int)) = w6 from hw6.symm]
    clear hw6
    have H6 : Hid (Pair w6 p r D) := by
      have h9 := HP5.out
      rw [hp2.out, hr2.out] at h9
      exact (h9.free hs6 (fun k hk e => hk (by rw [e]; exact HTR.out)) H3.out.d.lt).less H1.out.hx
    have HBX6 := Lib.hid (HBX5.out.save hs6 (Ne.symm HTN.out.2.2.1))
    have HSV6 := Lib.hid (((HSV5.out.less (T := fun k => (p.Off k ∧ r.Off k) ∧ k < w0.heap.size) (fun _ _ h => h.1)).trans (hs6.less (fun k _ hk e => by have h1 := HTN.out.2.2.2; have h2 := hk.2; omega))).less (T := fun k => p.Off k ∧ r.Off k) (fun k h1 h2 => ⟨h2, h1⟩))
    clear hs6
    obtain ⟨C, hC⟩ : ∃ C, Hid (C = (K.map vb).toArray) := ⟨_, rfl⟩
    have HCK := hC
    have HC32 : Hid (C.size = 32) := by rw [Hid, hC.out]; simpa using HK32.out
    have HT6 : Hid (w6.heap[t]? = some (.cells C 54 (0, 0))) := by rw [Hid, hC.out]; exact HA6.out
    obtain ⟨F, HF⟩ : ∃ F, Hid (F = (getA D x.slot x.at_ K).2) := ⟨_, rfl⟩
    obtain ⟨GM, HGM⟩ : ∃ F, Hid (F = (getA D x.slot x.at_ K).1) := ⟨_, rfl⟩
    have HG1 : Hid (Calls Tryz.prog 16 #[.pointer (some ⟨p.b, 0, none⟩), .int .i64 x.slot, .int .i64 x.at_, .agg C] w6 fun e w' => ∃ a c m, e = .returned (.tuple #[.slice a m.length c, .int .i64 F]) ∧ m = GM ∧ Row w' a m c ∧ Below w6.heap.size w6 w') := by
      have h9 := sget_any w6 p D H6.out.d x.slot x.at_ HX1.out.hs HX1.out.hn K HK32.out
      rw [← HF.out, ← HGM.out, ← HCK.out] at h9
      exact h9
    obtain ⟨f0, f1, f2, f3, f4⟩ := HBX6.out.cells
    go_wp2_with ((with_reducible refine wpList_loadB (o := ⟨some 109, .load _ (.tmp 15), _, _, _, _⟩) row_tag (.tmp 15) (by with_unfolding_all rfl) (by with_unfolding_all rfl) (by with_unfolding_all rfl) HT6.out HC32.out ?_))
    refine (HG1.out).mono ?_
    rintro e w7 ⟨a7, cc7, m7, rfl, hm7, hr7, hb7⟩
    have H7 := Lib.hid (H6.out.stay hb7)
    have HB7 := Lib.hid hb7
    have HR7 := Lib.hid hr7
    have HT7 : Hid (w7.heap[t]? = some (.cells C 54 (0, 0))) := (hb7.block _ (Array.getElem?_eq_some_iff.1 HT6.out).1).trans HT6.out
    obtain ⟨g0, g1, g2, g3, g4⟩ := (HBX6.out.stay hb7).cells
    have HG2 : Hid (Calls Tryz.prog 17 #[.pointer (some ⟨r.b, 0, none⟩), .int .i64 x.slot, .int .i64 x.at_, .agg C] w7 fun e w' => ∃ a c m, e = .returned (.tuple #[.slice a m.length c, .int .i64 F]) ∧ m = GM ∧ Row w' a m c ∧ Below w7.heap.size w7 w') := by
      have h9 := rget_any w7 r D H7.out.r H1.out.d.ok x.slot x.at_ HX1.out.hs HX1.out.hn K HK32.out
      rw [← HF.out, ← HGM.out, ← HCK.out] at h9
      exact h9
    clear f0 f1 f2 f3 f4 hb7 hr7
    go_wp2_with ((with_reducible refine wpList_loadB (o := ⟨some 119, .load _ (.tmp 15), _, _, _, _⟩) row_tag (.tmp 15) (by with_unfolding_all rfl) (by with_unfolding_all rfl) (by with_unfolding_all rfl) HT7.out HC32.out ?_))
    refine (HG2.out).mono ?_
    rintro e w8 ⟨a8, cc8, m8, rfl, hm8, hr8, hb8⟩
    have H8 := Lib.hid (H7.out.stay hb8)
    have HB8 := Lib.hid (HB7.out.trans (hb8.mono HB7.out.size))
    subst hm7
    subst hm8
    have hsm := rsame_self w8 a7 a8 m8 cc7 cc8 (HR7.out.stay hb8) hr8
    clear g0 g1 g2 g3 g4 hb8 hr8
    go_wp2_with fail
    refine (hsm).mono ?_
    rintro e w9 ⟨rfl, hb9⟩
    have H9 := Lib.hid (H8.out.stay hb9)
    have HB9 := Lib.hid (HB8.out.trans (hb9.mono HB8.out.size))
    clear hb9 hsm
    go_wp2_with fail
    go_ret
    exact ⟨ret_bool (by simp), ⟨_, H9.out⟩, HSV6.out.trans (Save.of HB9.out)⟩
end Go.Proofs.YtofagofpeedfcaaGreat
