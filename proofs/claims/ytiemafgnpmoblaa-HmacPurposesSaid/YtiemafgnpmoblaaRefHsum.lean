/- The reference's tag: walked. -/
import Derived.Test.YtiemafgnpmoblaaRefHmac
import Derived.Test.YtiemafgnpmoblaaGd
namespace Go.Proofs.Ytiemafgnpmoblaa
open Go Go.RowKit Go.Cit

theorem eval_put_ne (a : Act) (o : Option Tmp) (t : Tmp) (v : Value) (h : o ≠ some t) : (a.put o v).eval (.tmp t) = a.eval (.tmp t) := put_getD_ne a o t v h
theorem eval_put_same (a : Act) (t : Tmp) (v : Value) (h : t < a.tmps.size) : (a.put (some t) v).eval (.tmp t) = v := put_getD_same a t v h

/-- What is known of the world while the last statement is carried out. -/
def rhC (r : Nat) (W : World) (F X : Array Value) (M S : List UInt8) (δ : Nat → Bool) (act : Act) (wx : World) : Prop :=
  Save (· ≠ r) W wx ∧ wx.heap[r]? = some (.cells (if δ 6 then F else X) 36 (0, 0)) ∧
  (δ 4 = false → (δ 1 = true → ∃ a c, act.eval (.tmp 12) = .slice a M.length c ∧ Cit.Own 5 W.heap.size wx a M c) ∧ (δ 3 = true → ∃ a c, act.eval (.tmp 14) = .slice a S.length c ∧ Row wx a S c))
def rhT (r : Nat) (u : Value) (M S : List UInt8) (D F : Array Value) : Nat → Value → World → Prop
  | 11, v, _ => v = u
  | 13, v, _ => v = .agg D
  | 15, v, w => ∃ a c, v = .slice a (M ++ S).length c ∧ Row w a (M ++ S) c ∧ ∀ g, Go.Cit.blk a = some g → g ≠ r
  | 16, v, _ => v = .agg F
  | _, _, _ => True
theorem rhT_stay {r : Nat} {u : Value} {M S : List UInt8} {D F : Array Value} {d : Nat} {v : Value} {wx w' : World} (hG : Save (· ≠ r) wx w') (h : rhT r u M S D F d v wx) : rhT r u M S D F d v w' := by
  unfold rhT at h ⊢
  split at h <;> try exact h
  obtain ⟨a, c, h1, h2, h3⟩ := h
  exact ⟨a, c, h1, h2.save hG h3, h3⟩
theorem rhC_pure {r : Nat} {W : World} {F X : Array Value} {M S : List UInt8} {δ : Nat → Bool} {act : Act} {wx w' : World} {i : Nat} {o : Option Tmp} {v : Value} (h : rhC r W F X M S δ act wx) (hb : Below wx.heap.size wx w') (h1 : i ≠ 1) (h3 : i ≠ 3) (h4 : i ≠ 4) (h6 : i ≠ 6) (o1 : o ≠ some 12) (o2 : o ≠ some 14) : rhC r W F X M S (upd δ i) (act.put o v) w' := by
  obtain ⟨a1, a2, a3⟩ := h
  refine ⟨a1.trans (Save.of hb), by rw [upd_other δ h6, hb.block _ (Array.getElem?_eq_some_iff.1 a2).1]; exact a2, fun h => ?_⟩
  rw [upd_other δ h4] at h
  obtain ⟨b1, b2⟩ := a3 h
  rw [upd_other δ h1, upd_other δ h3, eval_put_ne _ _ _ _ o1, eval_put_ne _ _ _ _ o2]
  refine ⟨fun hd => ?_, fun hd => ?_⟩
  · obtain ⟨a, c, e, ho⟩ := b1 hd
    exact ⟨a, c, e, ho.save (Save.of (S := fun _ => True) hb) (fun _ _ => trivial)⟩
  · obtain ⟨a, c, e, hr⟩ := b2 hd
    exact ⟨a, c, e, hr.stay hb⟩

set_option maxRecDepth 100000 in
set_option maxHeartbeats 4000000 in
theorem refhsum_calls (w : World) (a : Option Addr) (k : List UInt8) (c : Nat) (h : Row w a k c) (hl : k.length ≤ 1000000) (a2 : Option Addr) (b : List UInt8) (c2 : Nat) (h2 : Row w a2 b c2) (hl2 : b.length ≤ 1000000) :
    Calls Try.prog 36 #[.slice a k.length c, .slice a2 b.length c2] w fun e w' => e = .returned (.agg ((hmacB k b).map vb).toArray) ∧ Below w.heap.size w w' := by
  have HA := Lib.hid (fun ρ d ty ps af w => alloc_tag ρ d ty ps (af := af) w)
  obtain ⟨X, hX⟩ : ∃ Y, Hid (Y = ((List.replicate 32 (0 : UInt8)).map vb).toArray) := ⟨_, rfl⟩
  rw [← hX.out] at HA
  have HX : Hid (X.size = 32) := by rw [Hid, hX.out]; simp
  have B0 : Below w.heap.size w (w.alloc (.cells X 36)) := (Below.refl _ _).alloc (Nat.le_refl _) _
  have x0 : (w.alloc (.cells X 36)).heap[w.heap.size]? = some (.cells X 36 (0, 0)) := heap_alloc_new w _
  have HB0 := Lib.hid (And.intro x0 B0)
  have hM0 : Calls Try.prog 65 #[.slice a k.length c, .int .u8 54] (w.alloc (.cells X 36)) _ := refmasked_calls _ a k c (h.stay B0) hl 54
  have HM0 := Lib.hid hM0
  have HR0 := Lib.hid (h2.stay B0)
  have HK0 := Lib.hid (h.stay B0)
  have HKW := Lib.hid h
  clear B0 x0 h h2 hM0
  go_enter Try.func36, Try.ntmps36
  go_wp2_with (first
    | ((with_reducible refine wpList_value (o := ⟨some 4, .alloc _, _, _, _, _⟩) (by with_unfolding_all rfl) (HA.out _ _ _ _ _ _) ?_)))
  refine HM0.out.mono ?_
  rintro e w1 ⟨a3, c3, rfl, hO3, hb1⟩
  have hsz1 : w.heap.size < w1.heap.size := by have := hb1.size; simp at this; omega
  have HX1 : Hid (w1.heap[w.heap.size]? = some (.cells X 36 (0, 0))) := (hb1.block _ (by simp)).trans HB0.out.1
  have B1 := HB0.out.2.trans (hb1.mono (by simp))
  have HR1 := Lib.hid (HR0.out.stay hb1)
  have HK1 := Lib.hid (HK0.out.stay hb1)
  obtain ⟨N, hN⟩ : ∃ N, Hid (N = maskL (longK k) 54) := ⟨_, rfl⟩
  have HNL : Hid (N.length = 64) := by rw [Hid, hN.out, maskL_len, longK_len]
  rw [← hN.out] at hO3
  have HO3 : Hid (VOwn cb 1 5 (w.heap.size + 1) w1 a3 N c3) := (hO3.low (by simp)).vown
  have HV1 : Hid (Vec cb 1 w1 a2 b c2) := Vec.of1 (v := vb) HR1.out.le HR1.out.top HR1.out.nil HR1.out.spot HR1.out.cell
  have h64 : (.slice a3 64 c3 : Value) = .slice a3 N.length c3 := by rw [HNL.out]
  rw [h64]
  have hNb : N.length + b.length ≤ 1000000000 := by rw [HNL.out]; omega
  have HSZ1 : Hid (w.heap.size + 1 ≤ w1.heap.size) := hsz1
  have HBT : Hid (ElemType Try.prog 25 5 1 1 (.int .u8 0)) := ElemType.ofBytes bt
  clear hb1 hO3 HM0 HR0 HK0 h64
  go_wp2_with (first
    | ((with_reducible refine wpList_vappany (o := ⟨some 9, .call _, _, _, _, _⟩) HBT.out cb_len cb_one (.tmp 7) (.tmp 8) (by with_unfolding_all rfl) (by with_unfolding_all rfl) HO3.out HV1.out hNb HSZ1.out (by with_unfolding_all rfl) (by with_unfolding_all rfl) ?_); intro a4 c4 w2 hO4 hg4; have HO4 := Lib.hid hO4; have HG4 := Lib.hid hg4; clear hO4 hg4))
  have B12 : Below (w.heap.size + 1) w1 w2 := HO3.out.grown HG4.out HSZ1.out
  have B2 := B1.trans (B12.mono (Nat.le_succ _))
  have hsz2 : w.heap.size < w2.heap.size := by have := B12.size; omega
  have HX2 : Hid (w2.heap[w.heap.size]? = some (.cells X 36 (0, 0))) := (B12.block _ (by omega)).trans HX1.out
  obtain ⟨I, hI⟩ : ∃ I, Hid (I = N ++ b) := ⟨_, rfl⟩
  have HRI : Hid (Row w2 a4 I c4) := by rw [Hid, hI.out]; exact HO4.out.own.isRow
  have hIl : Hid (N.length + b.length = I.length) := by rw [Hid, hI.out, List.length_append]
  have hI9 : I.length ≤ 10000000 := by rw [← hIl.out, HNL.out]; omega
  rw [hIl.out]
  have HS2 := Lib.hid (refsum_calls w2 a4 I c4 HRI.out hI9)
  clear B12 hIl HO4 HG4 HO3 HV1 HR1 HK1 B1 HX1 HB0
  refine HS2.out.mono ?_
  rintro e w3 ⟨rfl, hb3⟩
  have B3 := B2.trans (hb3.mono B2.size)
  have hsz3 : w.heap.size < w3.heap.size := by have := hb3.size; omega
  have HX3 : Hid (w3.heap[w.heap.size]? = some (.cells X 36 (0, 0))) := (hb3.block _ hsz2).trans HX2.out
  obtain ⟨D, hD⟩ : ∃ D, Hid (D = ((sumB I).map vb).toArray) := ⟨_, rfl⟩
  rw [← hD.out]
  have HD : Hid (D.size = 32) := by rw [Hid, hD.out]; simpa using sumB_len I
  have HDo : Hid (D.all (·.oneCell') = true) := by rw [Hid, hD.out]; exact arrB_ok _
  have HN3 : Hid ((w3.alloc (.cells X 36)).heap[w3.heap.size]? = some (.cells X 36 (0, 0))) := heap_alloc_new _ _
  clear hb3 HS2 HRI
  go_wp2_with (first
    | ((with_reducible refine wpList_value (o := ⟨some 5, .alloc _, _, _, _, _⟩) (by with_unfolding_all rfl) (HA.out _ _ _ _ _ _) ?_))
    | ((with_reducible refine wpList_storeB (o := ⟨none, .store _ (.tmp 5) (.tmp 10), _, _, _, _⟩) row_tag (.tmp 5) (.tmp 10) (by with_unfolding_all rfl) (by with_unfolding_all rfl) (by with_unfolding_all rfl) (by with_unfolding_all rfl) (by with_unfolding_all rfl) HN3.out HX.out HD.out HDo.out ?_); intro w5 hb5 hS5; have HB5 := Lib.hid hb5; have HS5 := Lib.hid hS5; clear hb5 hS5))
  have hs5 := HS5.out.size
  rw [World.size_alloc] at hs5
  have hA5 : Below w3.heap.size w3 w5 := ((Below.refl _ w3).alloc (Nat.le_refl _) (.cells X 36)).trans (HS5.out.below (by simp) (fun j hj => by omega))
  have B5 := B3.trans (hA5.mono B3.size)
  have HX5 : Hid (w5.heap[w.heap.size]? = some (.cells X 36 (0, 0))) := (hA5.block _ hsz3).trans HX3.out
  have HKR : Hid (Row w5 a k c ∧ ∀ g, k ≠ [] → Go.Cit.blk a = some g → g < w.heap.size) := ⟨HKW.out.stay B5, fun g hne hg => by
    obtain ⟨g', off, e'⟩ := HKW.out.spot hne
    subst e'
    have h1 := HKW.out.blk (i := 0) (List.length_pos_iff.2 hne)
    simp [Go.Cit.blk] at hg
    simp [ad] at h1
    omega⟩
  obtain ⟨r, hr⟩ : ∃ r, r = w.heap.size := ⟨_, rfl⟩
  obtain ⟨t5, ht5⟩ : ∃ t, t = w3.heap.size := ⟨_, rfl⟩
  have HT5 : Hid (w5.heap[t5]? = some (.cells D 36 (0, 0))) := by rw [Hid, ht5]; exact HB5.out
  rw [← ht5]
  have htr : t5 ≠ r := by omega
  rw [← hr] at HX5 HKR B5 ⊢
  obtain ⟨F, hF⟩ : ∃ F, Hid (F = ((hmacB k b).map vb).toArray) := ⟨_, rfl⟩
  have HF : Hid (F.size = 32) := by rw [Hid, hF.out]; simpa using hmacB_len k b
  have HFo : Hid (F.all (·.oneCell') = true) := by rw [Hid, hF.out]; exact arrB_ok _
  obtain ⟨M, hM⟩ : ∃ M, Hid (M = maskL (longK k) 92) := ⟨_, rfl⟩
  have HML : Hid (M.length = 64) := by rw [Hid, hM.out, maskL_len, longK_len]
  have HFE : Hid (((sumB (M ++ sumB I)).map vb).toArray = F) := by rw [Hid, hF.out, hM.out, hI.out, hN.out]; rfl
  have hrw : r < w5.heap.size := (Array.getElem?_eq_some_iff.1 HX5.out).1
  clear HA HX3 HB5 HS5 hA5 HDo hs5 ht5 B3 hsz1 hsz2 hsz3 HN3 HSZ1
  simp only [Act.put, List.setIfInBounds_toArray, List.set_cons_succ, List.set_cons_zero]
  refine wp_region_st (rhC r w5 F X M (sumB I)) (fun i wx w' => i ≠ 4 → Save (· ≠ r) wx w') (rhT r (.slice a k.length c) M (sumB I) D F) (by kernel_rfl) (by kernel_rfl) ?_ ?_ ?_ ?_
  · intro w' hb hh
    exact ⟨Save.of hb, by rw [hh]; exact HX5.out, fun _ => ⟨fun h => absurd h (by decide), fun h => absurd h (by decide)⟩⟩
  · intro δ i j o v ax wx w' ho hij hcl hj hi hC hG h
    rcases hd : o.dst with _ | d
    · exact tyP_none hd _ _
    · rw [tyP_some hd] at h ⊢
      by_cases h4 : i = 4
      · subst h4
        unfold rhT at h ⊢
        split at h <;> try exact h
        exfalso
        exact hij (only_spec (d := 15) (j := 4) (by kernel_rfl) ho hd).symm
      · exact rhT_stay (hG h4) h
  · refine opsAll_cons ?_ (opsAll_cons ?_ (opsAll_cons ?_ (opsAll_cons ?_ (opsAll_cons ?_ (opsAll_cons ?_ (opsAll_cons ?_ opsAll_nil))))))
    all_goals intro δ wa wx hk
    · exact ⟨wanted_free rfl, gp_move (.tmp 0) rfl ⟨fun _ => Save.refl _ _, rhC_pure hk.inv (Below.refl _ _) (by decide) (by decide) (by decide) (by decide) (by simp) (by simp), hk.old 0 (by kernel_rfl)⟩⟩
    · obtain ⟨q1, q2, q3⟩ := hk.inv
      have hrow : Row wx a k c := HKR.out.1.save' q1 (fun hne g hg => by have := HKR.out.2 g hne hg; omega)
      have hmk : Calls Try.prog 65 #[.slice a k.length c, .int .u8 92] wx _ := refmasked_calls wx a k c hrow hl 92
      refine ⟨wanted_free rfl, gp_call rfl (hk.fn _) #[.slice a k.length c, .int .u8 92] (fun w => by kernel_rfl) (by simp [show wa.eval (.tmp 11) = _ from hk.slot 11 (by kernel_rfl), hk.lit]) (hmk.mono ?_)⟩
      rintro e w' ⟨a', c', rfl, hO, hb⟩
      rw [← hM.out] at hO
      refine ⟨_, rfl, fun _ => Save.of hb, ⟨q1.trans (Save.of hb), by rw [upd_other δ (by decide), hb.block _ (Array.getElem?_eq_some_iff.1 q2).1]; exact q2, fun h4 => ⟨fun _ => ⟨a', c', ?_, hO.low q1.size⟩, fun h3 => ?_⟩⟩, trivial⟩
      · rw [eval_put_same _ _ _ (by rw [hk.same.2.1]; simp), HML.out]
      · rw [upd_other δ (by decide)] at h4 h3
        obtain ⟨a3', c3', e3, r3⟩ := (q3 h4).2 h3
        exact ⟨a3', c3', (eval_put_ne _ _ _ _ (by simp)).trans e3, r3.stay hb⟩
    · obtain ⟨q1, q2, q3⟩ := hk.inv
      have hb5 := (q1.block t5 (Array.getElem?_eq_some_iff.1 HT5.out).1 htr).trans HT5.out
      exact ⟨wanted_free rfl, gp_loadB row_tag (.tmp 5) rfl (hk.old 5 (by kernel_rfl)) hb5 HD.out ⟨fun _ => Save.refl _ _, rhC_pure ⟨q1, q2, q3⟩ (Below.refl _ _) (by decide) (by decide) (by decide) (by decide) (by simp) (by simp), rfl⟩⟩
    · obtain ⟨q1, q2, q3⟩ := hk.inv
      have hbk := refbytes_calls wx (sumB I) (sumB_len I)
      rw [← hD.out] at hbk
      refine ⟨wanted_free rfl, gp_call rfl (hk.fn _) #[.agg D] (fun w => by kernel_rfl) (by simp [show wa.eval (.tmp 13) = _ from hk.slot 13 (by kernel_rfl)]) (hbk.mono ?_)⟩
      rintro e w' ⟨a', c', rfl, hO, hb⟩
      refine ⟨_, rfl, fun _ => Save.of hb, ⟨q1.trans (Save.of hb), by rw [upd_other δ (by decide), hb.block _ (Array.getElem?_eq_some_iff.1 q2).1]; exact q2, fun h4 => ⟨fun h1 => ?_, fun _ => ⟨a', c', ?_, hO.isRow⟩⟩⟩, trivial⟩
      · rw [upd_other δ (by decide)] at h4 h1
        obtain ⟨a3', c3', e3, o3⟩ := (q3 h4).1 h1
        exact ⟨a3', c3', (eval_put_ne _ _ _ _ (by simp)).trans e3, o3.save (Save.of (S := fun _ => True) hb) (fun _ _ => trivial)⟩
      · rw [eval_put_same _ _ _ (by rw [hk.same.2.1]; simp), sumB_len]
    · obtain ⟨q1, q2, q3⟩ := hk.inv
      have d1 : δ 1 = true := by
        have := hk.next.needs 8 4 1 (by kernel_rfl) (upd_same _ _)
        rwa [upd_other δ (by decide)] at this
      have d3 : δ 3 = true := by
        have := hk.next.needs 8 4 3 (by kernel_rfl) (upd_same _ _)
        rwa [upd_other δ (by decide)] at this
      obtain ⟨q4, q5⟩ := q3 hk.yet
      obtain ⟨a1', c1', e1, o1⟩ := q4 d1
      obtain ⟨a2', c2', e2, r2⟩ := q5 d3
      have hsl : (sumB I).length = 32 := sumB_len I
      refine ⟨wanted_free rfl, gp_append bt (.tmp 12) (.tmp 14) rfl o1 r2 (by intro h0; rw [h0] at hsl; simp at hsl) (by rw [HML.out, hsl]; decide) q1.size e1 e2 ?_⟩
      intro a' cap' w' hO hg hn
      have hfar : ∀ g, g < w5.heap.size → some g ≠ Go.Cit.blk a1' := fun g hg1 he => by have := (o1.blk_ge he.symm).1; omega
      have hgs : Save (· ≠ r) w5 w' := ⟨hg.os.trans q1.os, hg.tape.trans q1.tape, hg.output.trans q1.output, Nat.le_trans q1.size hg.size, fun g hg1 hg2 => (hg.block g (Nat.lt_of_lt_of_le hg1 q1.size) (hfar g hg1)).trans (q1.block g hg1 hg2)⟩
      refine ⟨fun h => absurd rfl h, ⟨hgs, ?_, fun h => ?_⟩, a', cap', rfl, hO.isRow, fun g hg' => by have := (hO.blk_ge hg').1; omega⟩
      · rw [upd_other δ (by decide), hg.block r (Nat.lt_of_lt_of_le hrw q1.size) (hfar r hrw)]; exact q2
      · rw [upd_same] at h; exact absurd h (by decide)
    · obtain ⟨a1', c1', e1, r1, n1⟩ := hk.slot 15 (by kernel_rfl)
      refine ⟨wanted_free rfl, gp_call rfl (hk.fn _) #[.slice a1' (M ++ sumB I).length c1'] (fun w => by kernel_rfl) (by simp [e1]) ((refsum_calls wx a1' (M ++ sumB I) c1' r1 (by rw [List.length_append, HML.out, sumB_len]; decide)).mono ?_)⟩
      rintro e w' ⟨rfl, hb⟩
      exact ⟨_, rfl, fun _ => Save.of hb, rhC_pure hk.inv hb (by decide) (by decide) (by decide) (by decide) (by simp) (by simp), by rw [HFE.out]; rfl⟩
    · obtain ⟨q1, q2, q3⟩ := hk.inv
      rw [hk.yet] at q2
      have d4 : δ 4 = true := by
        have := hk.next.needs 8 6 4 (by kernel_rfl) (upd_same _ _)
        rwa [upd_other δ (by decide)] at this
      refine ⟨wanted_free rfl, gp_storeB row_tag (.tmp 4) (.tmp 16) rfl (hk.old 4 (by kernel_rfl)) (hk.slot 16 (by kernel_rfl)) q2 HX.out HF.out HFo.out ?_⟩
      intro w' hb hs
      refine ⟨fun _ => hs, ⟨q1.trans hs, by rw [upd_same]; exact hb, fun h => ?_⟩, tyP_none rfl _ _⟩
      rw [upd_other δ (by decide), d4] at h; exact absurd h (by decide)
  intro δ wa wx hall hC hsame hT
  obtain ⟨hSv, hcE, _⟩ := hC
  rw [hall 6 (by decide), if_pos rfl] at hcE
  have he := act_same hsame [11, 12, 13, 14, 15, 16] (by kernel_rfl)
  obtain ⟨a15, c15, e15, _⟩ := hT 15 (by kernel_rfl)
  obtain ⟨v12, e12⟩ : ∃ v, wa.eval (.tmp 12) = v := ⟨_, rfl⟩
  obtain ⟨v14, e14⟩ : ∃ v, wa.eval (.tmp 14) = v := ⟨_, rfl⟩
  simp only [List.foldl_cons, List.foldl_nil] at he
  rw [show wa.eval (.tmp 11) = _ from hT 11 (by kernel_rfl), e12, show wa.eval (.tmp 13) = _ from hT 13 (by kernel_rfl), e14, e15, show wa.eval (.tmp 16) = _ from hT 16 (by kernel_rfl)] at he
  simp only [Act.put, List.setIfInBounds_toArray, List.set_cons_zero, List.set_cons_succ] at he
  clear hT hsame hall e12 e14 e15
  subst he
  go_wp2_with fail
  refine bodyPost_ret (resB1 row_tag rfl rfl hcE HF.out) rfl ⟨by rw [hF.out], ?_⟩
  rw [← hr]
  exact B5.trans (hSv.below (by have := B5.size; omega) (fun j hj => by omega))
end Go.Proofs.Ytiemafgnpmoblaa
