/- hmac.masks, hmac.Sum: walked. -/
import Derived.Test.YtiemafgnpmoblaaHmac
import Derived.Test.YtiemafgnpmoblaaLawShaChained
import Derived.StillTailTactics
namespace Go.Proofs.Ytiemafgnpmoblaa
open Go Go.RowKit Go.Cit

section
variable {P : Program} {w : World} {o : Oper} {ρ : Operand → Value} {post : Value → World → Prop}
/-- A call of a function value that carries variables. -/
theorem gp_callv {f : FuncId} {x : Operand} {xs : Array Operand} {ts : Array TypeId} {cap : Array Value} (h : o.op = .call { callee := .value x, args := xs, argTypes := ts }) (hf : ρ x = .func (.func f) #[] cap)
    (args all : Array Value) (hall : args ++ cap = all) (hcf : ∀ w, (callFunc f all).run P w = .ok (.enter f all) w) (ha : xs.map ρ = args) (hc : Calls P f all w fun e w'' => ∃ v, e = .returned v ∧ post v w'') : GivesP P post ((execOp ρ o).run P w) := by
  unfold execOp; rw [h]; dsimp only; unfold resolve; dsimp only; rw [hf, ha]
  have e2 : (invoke (.fn (.func f) cap) args : Sem Next).run P w = .ok (.enter f all) w := by
    unfold invoke; dsimp only; rw [hall]; exact hcf w
  simp only [Deferred.ofValue, Sem.run_bind, Sem.run_pure, Result.andThen, Array.empty_append, e2]
  exact hc
end
def maskL (l : List UInt8) (by_ : UInt8) : List UInt8 := l.map fun x => bXor x by_
def longK (k : List UInt8) : List UInt8 := padL (shortK k) 64
theorem longK_len (k : List UInt8) : (longK k).length = 64 := by
  have := shortK_len k
  unfold longK padL
  rw [List.length_append, List.length_replicate]; omega
def hmacB (k b : List UInt8) : List UInt8 := sumB (maskL (longK k) 92 ++ sumB (maskL (longK k) 54 ++ b))
theorem hmacB_len (k b : List UInt8) : (hmacB k b).length = 32 := sumB_len _
theorem mask_get (l : List UInt8) (x : UInt8) (k : Nat) (h : k < l.length) : (maskL (l.take k) x ++ l.drop k)[k]? = some l[k] := by
  have hl : (maskL (l.take k) x).length = k := by unfold maskL; rw [List.length_map, List.length_take]; omega
  rw [List.getElem?_append_right (by omega), hl, Nat.sub_self, List.drop_eq_getElem_cons h]; rfl
theorem mask_set (l : List UInt8) (x : UInt8) (k : Nat) (h : k < l.length) : (maskL (l.take k) x ++ l.drop k).set k (bXor l[k] x) = maskL (l.take (k + 1)) x ++ l.drop (k + 1) := by
  have hl : (maskL (l.take k) x).length = k := by unfold maskL; rw [List.length_map, List.length_take]; omega
  rw [List.set_append_right _ _ (by omega), hl, Nat.sub_self, List.drop_eq_getElem_cons h, List.set_cons_zero, List.take_succ_eq_append_getElem h]
  unfold maskL
  rw [List.map_append, List.append_assoc]; rfl
theorem maskL_len (l : List UInt8) (x : UInt8) : (maskL l x).length = l.length := by simp [maskL]

set_option maxRecDepth 100000 in
set_option maxHeartbeats 2000000 in
theorem mask1_calls (w : World) (b : Nat) (x : UInt8) (a : Option Addr) (l : List UInt8) (c : Nat) (hc : w.cell? ⟨b, 0, none⟩ = some (.slice a l.length c)) (h : Row w a l c) (hl : l.length ≤ 1000000) :
    Calls Try.prog 81 #[vb x, .pointer (some ⟨b, 0, none⟩)] w fun e w' => ∃ a' c', e = .returned (.slice a' l.length c') ∧ Cit.Own 5 w.heap.size w' a' (maskL l x) c' ∧ Below w.heap.size w w' := by
  have HC := Lib.hid (sclone_calls w a l c h (by omega))
  clear h
  go_enter Try.func81, Try.ntmps81
  go_wp2_with fail
  refine HC.out.mono ?_
  rintro e w1 ⟨a1, c1, rfl, hO1, hb1⟩
  clear hc HC
  go_wp2_with fail
  go_loopw [10] (fun i wr => ∃ (k : Nat) (m : List UInt8), k ≤ l.length ∧ i = .int .i64 k ∧ Hid (m.length = l.length) ∧ Hid (m = maskL (l.take k) x ++ l.drop k) ∧ Cit.Own 5 w.heap.size wr a1 m c1 ∧ Below w.heap.size w wr) (fun i _ => l.length - (intOf i).toNat)
  case atStart => exact ⟨0, l, Nat.zero_le _, rfl, rfl, by simp [Hid, maskL], hO1, hb1⟩
  case round =>
    clear hO1 hb1
    obtain ⟨k, m, hk, rfl, HML, HM, hO, B⟩ := hrel
    by_cases hlt : k < l.length
    · have d1 : decide (k < l.length) = true := by simpa using hlt
      have hkm : k < m.length := by rw [HML.out]; exact hlt
      have hr := hO.isRow
      have ik := hr.index bt.slice bt.sz k hkm
      have ek := hr.cell k hkm
      have fk := hO.frozen k hkm
      obtain ⟨hst, hgr⟩ := Cit.Own.stored hO k hkm (bXor m[k] x)
      have hmk : m[k] = l[k] := by
        have h1 := mask_get l x k hlt
        rw [← HM.out, List.getElem?_eq_getElem hkm] at h1
        exact Option.some.inj h1
      have HS : Hid (m.set k (bXor m[k] x) = maskL (l.take (k + 1)) x ++ l.drop (k + 1)) := by
        rw [Hid, hmk, HM.out, mask_set l x k hlt]
      have HO2 := Lib.hid hst
      have HB2 := Lib.hid (B.trans (grown_below hgr B.size (fun j hj => (hO.blk_ge hj).1)))
      rw [HML.out] at ik
      obtain ⟨y, hy⟩ : ∃ y, m[k] = y := ⟨_, rfl⟩
      rw [hy] at ek HO2 HB2 HS
      clear hst hgr hmk hy hr hkm hO
      go_wp2_with fail
      go_roundw
      case rel => exact ⟨k + 1, _, by omega, by go_num, by rw [Hid, List.length_set]; exact HML.out, HS, HO2.out, HB2.out⟩
      case measure => simp [intOf]; omega
    · have d1 : decide (k < l.length) = false := by simpa using hlt
      have HM2 : Hid (m = maskL l x) := by
        rw [Hid, HM.out, List.take_of_length_le (by omega), List.drop_of_length_le (by omega), List.append_nil]
      go_wp2_with fail
      go_ret
      exact ⟨a1, c1, rfl, by rw [← HM2.out]; exact hO, B⟩

set_option maxRecDepth 100000 in
set_option maxHeartbeats 2000000 in
theorem masks_calls (w : World) (a : Option Addr) (k : List UInt8) (c : Nat) (h : Row w a k c) (hl : k.length ≤ 10000000) :
    Calls Try.prog 64 #[.slice a k.length c] w fun e w' => ∃ b a' c', e = .returned (.func (.func 81) #[] #[.pointer (some ⟨b, 0, none⟩)]) ∧ w'.cell? ⟨b, 0, none⟩ = some (.slice a' (longK k).length c') ∧ Row w' a' (longK k) c' ∧ w.heap.size ≤ b ∧ (∀ g, Go.Cit.blk a' = some g → w.heap.size ≤ g) ∧ Below w.heap.size w w' := by
  have hmf : ∀ (fn : Fn) (first cap : Array Value) (w : World), (Instr.makeFunc fn first cap).run Try.prog w = .ok (.func fn first cap) w := fun _ _ _ _ => rfl
  have HS := Lib.hid (short_calls w a k c h hl)
  clear h
  go_enter Try.func64, Try.ntmps64
  go_wp2_with fail
  refine HS.out.mono ?_
  rintro e w1 ⟨a1, c1, rfl, hO1, hb1⟩
  have hsl := shortK_len k
  have HP := Lib.hid (padded_calls w1 a1 (shortK k) c1 64 hO1.isRow (by omega) (by decide))
  clear hO1 hsl
  go_wp2_with fail
  refine HP.out.mono ?_
  rintro e w2 ⟨a2, c2, rfl, hm2, hb2⟩
  have hR : Row w2 a2 (longK k) c2 := hm2.row
  have HNW : Hid (∀ g, Go.Cit.blk a2 = some g → w.heap.size ≤ g) := fun g hg => Nat.le_trans hb1.size (hm2.new g hg)
  have HR := Lib.hid hR
  have HB2 := Lib.hid (hb1.trans (hb2.mono hb1.size))
  rw [show padL (shortK k) 64 = longK k from rfl]
  clear hR hm2 hb1 hb2
  go_wp2_with fail
  go_ret
  have hz : Below w2.heap.size w2 (w2.alloc (.cells #[.slice a2 (longK k).length c2] 25)) := (Below.refl _ _).alloc (Nat.le_refl _) _
  refine ⟨w2.heap.size, a2, c2, rfl, ?_, HR.out.stay hz, HB2.out.size, HNW.out, HB2.out.trans (hz.mono HB2.out.size)⟩
  rw [World.cell?, heap_alloc_new]; rfl

/-- What is said of each slot of Sum's last statement. -/
def hsT (r : Nat) (vf : Value) (M L : List UInt8) (vs : Value) (D : Array Value) : Nat → Value → World → Prop
  | 15, v, _ => v = vf
  | 16, v, w => ∃ a c, v = .slice a 64 c ∧ Row w a M c ∧ ∀ g, Go.Cit.blk a = some g → g ≠ r
  | 17, v, _ => v = vs
  | 18, v, w => ∃ g a c, v = .slice (some ⟨g, 0, none⟩) 2 2 ∧ g ≠ r ∧ w.cell? ⟨g, 0, none⟩ = some (.slice a M.length c) ∧ w.cell? ⟨g, 1, none⟩ = some vs ∧ Row w a M c ∧ ∀ g', Go.Cit.blk a = some g' → g' ≠ r
  | 19, v, w => ∃ a c, v = .slice a L.length c ∧ Row w a L c ∧ ∀ g, Go.Cit.blk a = some g → g ≠ r
  | 20, v, _ => v = .agg D
  | _, _, _ => True
theorem hsT_stay {r : Nat} {vf : Value} {M L : List UInt8} {vs : Value} {D : Array Value} {d : Nat} {v : Value} {wx w' : World} (hG : Save (· ≠ r) wx w') (h : hsT r vf M L vs D d v wx) : hsT r vf M L vs D d v w' := by
  unfold hsT at h ⊢
  split at h <;> try exact h
  · obtain ⟨a, c, h1, h2, h3⟩ := h
    exact ⟨a, c, h1, h2.save hG h3, h3⟩
  · obtain ⟨g, a, c, h1, h2, h3, h4, h5, h6⟩ := h
    exact ⟨g, a, c, h1, h2, (hG.cell (World.block_lt_of_cell? _ _ h3) h2).trans h3, (hG.cell (World.block_lt_of_cell? _ _ h4) h2).trans h4, h5.save hG h6, h6⟩
  · obtain ⟨a, c, h1, h2, h3⟩ := h
    exact ⟨a, c, h1, h2.save hG h3, h3⟩
set_option maxRecDepth 100000 in
set_option maxHeartbeats 4000000 in
theorem hsum_calls (w : World) (a : Option Addr) (k : List UInt8) (c : Nat) (h : Row w a k c) (hl : k.length ≤ 1000000) (a2 : Option Addr) (b : List UInt8) (c2 : Nat) (h2 : Row w a2 b c2) (hl2 : b.length ≤ 1000000) :
    Calls Try.prog 35 #[.slice a k.length c, .slice a2 b.length c2] w fun e w' => e = .returned (.agg ((hmacB k b).map vb).toArray) ∧ Below w.heap.size w w' := by
  have HA := Lib.hid (fun ρ d ty ps af w => alloc_tag ρ d ty ps (af := af) w)
  obtain ⟨X, hX⟩ : ∃ Y, Hid (Y = ((List.replicate 32 (0 : UInt8)).map vb).toArray) := ⟨_, rfl⟩
  rw [← hX.out] at HA
  have HX : Hid (X.size = 32) := by rw [Hid, hX.out]; simp
  have B0 : Below w.heap.size w (w.alloc (.cells X 36)) := (Below.refl _ _).alloc (Nat.le_refl _) _
  have x0 : (w.alloc (.cells X 36)).heap[w.heap.size]? = some (.cells X 36 (0, 0)) := heap_alloc_new w _
  have HB0 := Lib.hid (And.intro x0 B0)
  have HM0 := Lib.hid (masks_calls _ a k c (h.stay B0) (by omega))
  have HR0 := Lib.hid (h2.stay B0)
  clear B0 x0 h h2
  go_enter Try.func35, Try.ntmps35
  go_wp2_with (first
    | ((with_reducible refine wpList_value (o := ⟨some 4, .alloc _, _, _, _, _⟩) (by with_unfolding_all rfl) (HA.out _ _ _ _ _ _) ?_)))
  refine HM0.out.mono ?_
  rintro e w1 ⟨bf, af, cf, rfl, hcf, hrf, hbf, hnf, hb1⟩
  rw [World.size_alloc] at hbf
  have hnf' : ∀ g, Go.Cit.blk af = some g → w.heap.size + 1 ≤ g := fun g hg => by have := hnf g hg; simp at this; omega
  have hsz1 : w.heap.size < w1.heap.size := by have := hb1.size; simp at this; omega
  have HX1 : Hid (w1.heap[w.heap.size]? = some (.cells X 36 (0, 0))) := (hb1.block _ (by simp)).trans HB0.out.1
  have B1 := HB0.out.2.trans (hb1.mono (by simp))
  have HR1 := Lib.hid (HR0.out.stay hb1)
  have hk : Calls Try.prog 81 #[.int .u8 54, .pointer (some ⟨bf, 0, none⟩)] w1 _ := mask1_calls w1 bf 54 af (longK k) cf hcf hrf (by rw [longK_len]; decide)
  rw [longK_len] at hk
  have HK := Lib.hid hk
  have HCF := Lib.hid (And.intro hcf (And.intro hrf hnf'))
  clear hb1 hcf hrf hnf hnf' HM0 HR0 hk
  go_wp2_with fail
  refine HK.out.mono ?_
  rintro e w2 ⟨a3, c3, rfl, hO3, hb2⟩
  have B2 := B1.trans (hb2.mono B1.size)
  have HX2 : Hid (w2.heap[w.heap.size]? = some (.cells X 36 (0, 0))) := (hb2.block _ hsz1).trans HX1.out
  have hsz2 : w.heap.size < w2.heap.size := by have := hb2.size; omega
  have HR2 := Lib.hid (HR1.out.stay hb2)
  have HCF2 : Hid (w2.cell? ⟨bf, 0, none⟩ = some (.slice af (longK k).length cf) ∧ Row w2 af (longK k) cf) := ⟨(hb2.cell (World.block_lt_of_cell? _ _ HCF.out.1)).trans HCF.out.1, HCF.out.2.1.stay hb2⟩
  have HNF := Lib.hid HCF.out.2.2
  have hm64 : (maskL (longK k) 54).length = 64 := by rw [maskL_len, longK_len]
  have hc2 := cat2_calls w2 25 hO3.isRow HR2.out (by rw [hm64]; decide) (by omega)
  rw [hm64] at hc2
  have HC2 := Lib.hid hc2
  clear hb2 B1 hO3 HX1 HR1 HK HCF hc2
  go_wp2_with fail
  refine HC2.out.mono ?_
  rintro e w3 ⟨a4, c4, rfl, hm4, hb3⟩
  have B3 := B2.trans (hb3.mono B2.size)
  have hsz3 : w.heap.size < w3.heap.size := by have := hb3.size; omega
  have HX3 : Hid (w3.heap[w.heap.size]? = some (.cells X 36 (0, 0))) := (hb3.block _ hsz2).trans HX2.out
  have HCF3 : Hid (w3.cell? ⟨bf, 0, none⟩ = some (.slice af (longK k).length cf) ∧ Row w3 af (longK k) cf) := ⟨(hb3.cell (World.block_lt_of_cell? _ _ HCF2.out.1)).trans HCF2.out.1, HCF2.out.2.stay hb3⟩
  obtain ⟨I, hI⟩ : ∃ I, Hid (I = maskL (longK k) 54 ++ b) := ⟨_, rfl⟩
  rw [← hI.out] at hm4 ⊢
  have hIl : I.length ≤ 2000000 := by rw [hI.out, List.length_append, hm64]; omega
  have HS3 := Lib.hid (sum_calls w3 a4 I c4 hm4.row (by omega))
  clear hb3 B2 hm4 HX2 HCF2 HC2 hm64
  go_wp2_with fail
  refine HS3.out.mono ?_
  rintro e w4 ⟨rfl, hb4⟩
  have B4 := B3.trans (hb4.mono B3.size)
  have hsz4 : w.heap.size < w4.heap.size := by have := hb4.size; omega
  have HX4 : Hid (w4.heap[w.heap.size]? = some (.cells X 36 (0, 0))) := (hb4.block _ hsz3).trans HX3.out
  have HCF4 : Hid (w4.cell? ⟨bf, 0, none⟩ = some (.slice af (longK k).length cf) ∧ Row w4 af (longK k) cf) := ⟨(hb4.cell (World.block_lt_of_cell? _ _ HCF3.out.1)).trans HCF3.out.1, HCF3.out.2.stay hb4⟩
  obtain ⟨D, hD⟩ : ∃ D, Hid (D = ((sumB I).map vb).toArray) := ⟨_, rfl⟩
  rw [← hD.out]
  have HD : Hid (D.size = 32) := by rw [Hid, hD.out]; simpa using sumB_len I
  have HDo : Hid (D.all (·.oneCell') = true) := by rw [Hid, hD.out]; exact arrB_ok _
  have HN4 : Hid ((w4.alloc (.cells X 36)).heap[w4.heap.size]? = some (.cells X 36 (0, 0))) := heap_alloc_new _ _
  clear hb4 B3 HX3 HCF3 HS3
  go_wp2_with (first
    | ((with_reducible refine wpList_value (o := ⟨some 6, .alloc _, _, _, _, _⟩) (by with_unfolding_all rfl) (HA.out _ _ _ _ _ _) ?_))
    | ((with_reducible refine wpList_storeB (o := ⟨none, .store _ (.tmp 6) (.tmp 14), _, _, _, _⟩) row_tag (.tmp 6) (.tmp 14) (by with_unfolding_all rfl) (by with_unfolding_all rfl) (by with_unfolding_all rfl) (by with_unfolding_all rfl) (by with_unfolding_all rfl) HN4.out HX.out HD.out HDo.out ?_); intro w5 hb5 hS5; have HB5 := Lib.hid hb5; have HS5 := Lib.hid hS5; clear hb5 hS5))
  have hs5 := HS5.out.size
  rw [World.size_alloc] at hs5
  have hA5 : Below w4.heap.size w4 w5 := ((Below.refl _ w4).alloc (Nat.le_refl _) (.cells X 36)).trans (HS5.out.below (by simp) (fun j hj => by omega))
  have B5 := B4.trans (hA5.mono B4.size)
  have HX5 : Hid (w5.heap[w.heap.size]? = some (.cells X 36 (0, 0))) := (hA5.block _ hsz4).trans HX4.out
  have HCF5 : Hid (w5.cell? ⟨bf, 0, none⟩ = some (.slice af (longK k).length cf) ∧ Row w5 af (longK k) cf) := ⟨(hA5.cell (World.block_lt_of_cell? _ _ HCF4.out.1)).trans HCF4.out.1, HCF4.out.2.stay hA5⟩
  have HS1 : Hid (Row w5 (some ⟨w4.heap.size, 0, none⟩) (sumB I) 32) := by
    have hx := HB5.out
    rw [hD.out] at hx
    have := ArrB.row (T := 36) (l := sumB I) hx (by rw [sumB_len]; decide)
    rwa [sumB_len] at this
  obtain ⟨r, hr⟩ : ∃ r, r = w.heap.size := ⟨_, rfl⟩
  obtain ⟨t6, ht6⟩ : ∃ t, t = w4.heap.size := ⟨_, rfl⟩
  rw [← ht6] at HS1 ⊢
  have htr : t6 ≠ r := by omega
  rw [← hr] at HX5 hbf HNF B5 ⊢
  obtain ⟨F, hF⟩ : ∃ F, Hid (F = ((hmacB k b).map vb).toArray) := ⟨_, rfl⟩
  have HF : Hid (F.size = 32) := by rw [Hid, hF.out]; simpa using hmacB_len k b
  have HFo : Hid (F.all (·.oneCell') = true) := by rw [Hid, hF.out]; exact arrB_ok _
  obtain ⟨M, hM⟩ : ∃ M, Hid (M = maskL (longK k) 92) := ⟨_, rfl⟩
  have HML : Hid (M.length = 64) := by rw [Hid, hM.out, maskL_len, longK_len]
  have HFE : Hid (((sumB (M ++ sumB I)).map vb).toArray = F) := by rw [Hid, hF.out, hM.out, hI.out]; rfl
  clear HA HB0 HX4 HCF4 HB5 HS5 hA5 HD HDo hD hs5 ht6 B4 HR2 hsz1 hsz2 hsz3 hsz4 HN4
  simp only [Act.put, List.setIfInBounds_toArray, List.set_cons_succ, List.set_cons_zero]
  refine wp_region_ph (fun δ wx => Save (· ≠ r) w5 wx ∧ wx.heap[r]? = some (.cells (if δ 6 then F else X) 36 (0, 0))) (fun _ wx w' => Save (· ≠ r) wx w') (hsT r (.func (.func 81) #[] #[.pointer (some ⟨bf, 0, none⟩)]) M (M ++ sumB I) (.slice (some ⟨t6, 0, none⟩) 32 32) F) (by kernel_rfl) (by kernel_rfl) ?_ ?_ ?_ ?_
  · intro w' hb hh
    exact ⟨Save.of hb, by rw [hh]; exact HX5.out⟩
  · intro δ i j o v w1 w2 _ _ _ _ _ _ hG h
    rcases hd : o.dst with _ | d
    · exact tyP_none hd _ _
    · rw [tyP_some hd] at h ⊢
      exact hsT_stay hG h
  · have hpure : ∀ {δ : Nat → Bool} {wx w' : World} {i : Nat}, (Save (· ≠ r) w5 wx ∧ wx.heap[r]? = some (.cells (if δ 6 then F else X) 36 (0, 0))) → Below wx.heap.size wx w' → i ≠ 6 → (Save (· ≠ r) w5 w' ∧ w'.heap[r]? = some (.cells (if (upd δ i) 6 then F else X) 36 (0, 0))) := by
      intro δ wx w' i h hb hi
      exact ⟨h.1.trans (Save.of hb), by rw [upd_other δ hi, hb.block _ (Array.getElem?_eq_some_iff.1 h.2).1]; exact h.2⟩
    refine opsAll_cons ?_ (opsAll_cons ?_ (opsAll_cons ?_ (opsAll_cons ?_ (opsAll_cons ?_ (opsAll_cons ?_ (opsAll_cons ?_ opsAll_nil))))))
    all_goals intro δ wa wx hk
    · exact ⟨wanted_free rfl, gp_move (.tmp 5) rfl ⟨Save.refl _ _, hpure hk.inv (Below.refl _ _) (by decide), hk.old 5 (by kernel_rfl)⟩⟩
    · have hrx : r < wx.heap.size := (Array.getElem?_eq_some_iff.1 hk.inv.2).1
      have hcx := (hk.inv.1.cell (World.block_lt_of_cell? _ _ HCF5.out.1) (show bf ≠ r by omega)).trans HCF5.out.1
      have hrow := HCF5.out.2.save hk.inv.1 (fun g hg => by have := HNF.out g hg; omega)
      have hkk : Calls Try.prog 81 #[.int .u8 92, .pointer (some ⟨bf, 0, none⟩)] wx _ := mask1_calls wx bf 92 af (longK k) cf hcx hrow (by rw [longK_len]; decide)
      rw [longK_len] at hkk
      refine ⟨wanted_free rfl, gp_callv rfl (hk.slot 15 (by kernel_rfl)) #[.int .u8 92] #[.int .u8 92, .pointer (some ⟨bf, 0, none⟩)] rfl (fun w => by kernel_rfl) (by simp [hk.lit]) (hkk.mono ?_)⟩
      rintro e w' ⟨a', c', rfl, hO, hb⟩
      rw [← hM.out] at hO
      exact ⟨_, rfl, Save.of hb, hpure hk.inv hb (by decide), a', c', rfl, hO.isRow, fun g hg => by have := (hO.blk_ge hg).1; omega⟩
    · refine ⟨wanted_free rfl, gp_slice' rfl (hk.old 6 (by kernel_rfl)) rfl rfl rfl (tag_all t6 wx) ⟨Save.refl _ _, hpure hk.inv (Below.refl _ _) (by decide), rfl⟩⟩
    · obtain ⟨a1', c1', e1, r1, n1⟩ := hk.slot 16 (by kernel_rfl)
      have e2 : wa.eval (.tmp 17) = _ := hk.slot 17 (by kernel_rfl)
      have hrx : r < wx.heap.size := (Array.getElem?_eq_some_iff.1 hk.inv.2).1
      have hz : Below wx.heap.size wx (wx.alloc (.cells #[.slice a1' 64 c1', .slice (some ⟨t6, 0, none⟩) 32 32] 25)) := (Below.refl _ _).alloc (Nat.le_refl _) _
      refine ⟨wanted_free rfl, gp_run (v := .slice (some ⟨wx.heap.size, 0, none⟩) 2 2) (w' := wx.alloc (.cells #[.slice a1' 64 c1', .slice (some ⟨t6, 0, none⟩) 32 32] 25)) ?_ ⟨Save.of hz, hpure hk.inv hz (by decide), wx.heap.size, a1', c1', rfl, by omega, ?_, ?_, r1.stay hz, n1⟩⟩
      · exact run_vbuild rowsT [.tmp 16, .tmp 17] [.slice a1' 64 c1', .slice (some ⟨t6, 0, none⟩) 32 32] 2 rfl (by simp [e1, e2]) rfl (by decide) (by intro v hv; simp at hv; rcases hv with rfl | rfl <;> rfl) (by decide) wx
      · rw [World.cell?, heap_alloc_new, HML.out]; rfl
      · rw [World.cell?, heap_alloc_new]; rfl
    · obtain ⟨g, a1', c1', e1, hg, q1, q2, r1, n1⟩ := hk.slot 18 (by kernel_rfl)
      have hrx : r < wx.heap.size := (Array.getElem?_eq_some_iff.1 hk.inv.2).1
      have r2 := HS1.out.save hk.inv.1 (fun g hg => by simp [Go.Cit.blk] at hg; omega)
      have hs32 : (sumB I).length = 32 := sumB_len I
      have hct := cat_two wx g (l1 := M) (l2 := sumB I) (c2 := 32) q1 (by rw [hs32]; exact q2) r1 r2 (by rw [HML.out]; decide) (by rw [hs32]; decide)
      refine ⟨wanted_free rfl, gp_call rfl (hk.fn _) #[.slice (some ⟨g, 0, none⟩) 2 2] (fun w => by kernel_rfl) (by simp [e1]) (hct.mono ?_)⟩
      rintro e w' ⟨a', c', rfl, hm, hb⟩
      exact ⟨_, rfl, Save.of hb, hpure hk.inv hb (by decide), a', c', rfl, hm.row, fun g' hg' => by have := hm.new g' hg'; omega⟩
    · obtain ⟨a1', c1', e1, r1, n1⟩ := hk.slot 19 (by kernel_rfl)
      refine ⟨wanted_free rfl, gp_call rfl (hk.fn _) #[.slice a1' (M ++ sumB I).length c1'] (fun w => by kernel_rfl) (by simp [e1]) ((sum_calls wx a1' (M ++ sumB I) c1' r1 (by rw [List.length_append, HML.out, sumB_len]; decide)).mono ?_)⟩
      rintro e w' ⟨rfl, hb⟩
      exact ⟨_, rfl, Save.of hb, hpure hk.inv hb (by decide), by rw [HFE.out]; rfl⟩
    · obtain ⟨h1, h2⟩ := hk.inv
      rw [hk.yet] at h2
      refine ⟨wanted_free rfl, gp_storeB row_tag (.tmp 4) (.tmp 20) rfl (hk.old 4 (by kernel_rfl)) (hk.slot 20 (by kernel_rfl)) h2 HX.out HF.out HFo.out ?_⟩
      intro w' hb hs
      exact ⟨hs, ⟨h1.trans hs, by rw [upd_same]; exact hb⟩, tyP_none rfl _ _⟩
  intro δ wa wx hall hC hsame hT
  obtain ⟨hSv, hcE⟩ := hC
  rw [hall 6 (by decide), if_pos rfl] at hcE
  have he := act_same hsame [15, 16, 17, 18, 19, 20] (by kernel_rfl)
  obtain ⟨a16, c16, e16, _⟩ := hT 16 (by kernel_rfl)
  obtain ⟨g18, a18, c18, e18, _⟩ := hT 18 (by kernel_rfl)
  obtain ⟨a19, c19, e19, _⟩ := hT 19 (by kernel_rfl)
  simp only [List.foldl_cons, List.foldl_nil] at he
  rw [show wa.eval (.tmp 15) = _ from hT 15 (by kernel_rfl), e16, show wa.eval (.tmp 17) = _ from hT 17 (by kernel_rfl), e18, e19, show wa.eval (.tmp 20) = _ from hT 20 (by kernel_rfl)] at he
  simp only [Act.put, List.setIfInBounds_toArray, List.set_cons_zero, List.set_cons_succ] at he
  subst he
  clear hT hsame hall e16 e18 e19
  go_wp2_with fail
  refine bodyPost_ret (resB1 row_tag rfl rfl hcE HF.out) rfl ⟨by rw [hF.out], ?_⟩
  rw [← hr]
  exact B5.trans (hSv.below (by have := B5.size; omega) (fun j hj => by omega))
end Go.Proofs.Ytiemafgnpmoblaa
