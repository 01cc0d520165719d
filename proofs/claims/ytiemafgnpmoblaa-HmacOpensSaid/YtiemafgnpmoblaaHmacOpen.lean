/- hmac.Open: walked. -/
import Derived.Test.YtiemafgnpmoblaaHmacOpen1
namespace Go.Proofs.Ytiemafgnpmoblaa
open Go Go.RowKit Go.Cit

theorem gp_not2 {w : World} {o : Oper} {ρ : Operand → Value} {post : Value → World → Prop} {ty : TypeId} {x : Operand} (h : o.op = .unOp .not ty x) (b : Bool) (hx : ρ x = .bool b) (hp : post (.bool !b) w) : GivesP Try.prog post ((execOp ρ o).run Try.prog w) := by
  refine gp_run (v := .bool !b) (w' := w) ?_ hp
  unfold execOp; rw [h]; dsimp only; rw [hx]; rfl
def opnT4 (S M : Value) (H D : Array Value) (b : Bool) : Nat → Value → World → Prop
  | 23, v, _ => v = S
  | 24, v, _ => v = M
  | 25, v, _ => v = .agg H
  | 26, v, _ => v = .agg D
  | 27, v, _ => v = .bool b
  | 28, v, _ => v = .bool !b
  | _, _, _ => True
theorem opnT4_any {S M : Value} {H D : Array Value} {b : Bool} {d : Nat} {v : Value} {w w' : World} (h : opnT4 S M H D b d v w) : opnT4 S M H D b d v w' := by
  unfold opnT4 at *
  split at h <;> simp_all

set_option maxRecDepth 100000 in
set_option maxHeartbeats 4000000 in
theorem openlong_calls (w : World) (a : Option Addr) (k : List UInt8) (c : Nat) (h : Row w a k c) (hl : k.length ≤ 1000000) (a2 : Option Addr) (s : List UInt8) (c2 : Nat) (h2 : Row w a2 s c2) (hl2 : s.length ≤ 1000000) (n : Nat) (hn : s.length = n + 32)
    (b : Bool) (hb : b = decide (hmacB k (s.take n) = s.drop n)) :
    Calls Try.prog 41 #[.slice a k.length c, .slice a2 s.length c2] w fun e w' => ∃ a' c', e = .returned (.tuple #[.slice a' (cond b (s.take n) []).length c', .bool b]) ∧ Row w' a' (cond b (s.take n) []) c' ∧ Below w.heap.size w w' := by
  have d1 : decide ((s.length : Int) < 32) = false := by simp; omega
  have hsub : (s.length : Int) - 32 = (n : Int) := by omega
  obtain ⟨a3, m, c3, hm, hrun3, r3⟩ := h2.upto bt.slice bt.sz n (by omega)
  obtain ⟨a4, t, c4, ht, hrun4, r4⟩ := h2.from_ bt.slice bt.sz n (by omega)
  have hml : m.length = n := by rw [hm, List.length_take]; omega
  have htl : t.length = 32 := by rw [ht, List.length_drop]; omega
  rw [← hm, ← ht] at hb
  rw [← hm]
  obtain ⟨X, hX⟩ : ∃ Y, Hid (Y = ((List.replicate 32 (0 : UInt8)).map vb).toArray) := ⟨_, rfl⟩
  have HX : Hid (X.size = 32) := by rw [Hid, hX.out]; simp
  obtain ⟨D, hD⟩ : ∃ D, Hid (D = (t.map vb).toArray) := ⟨_, rfl⟩
  have HD : Hid (D.size = 32) := by rw [Hid, hD.out]; simpa using htl
  have HDo : Hid (D.all (·.oneCell') = true) := by rw [Hid, hD.out]; exact arrB_ok _
  obtain ⟨H, hH⟩ : ∃ D, Hid (D = ((hmacB k m).map vb).toArray) := ⟨_, rfl⟩
  have HB := Lib.hid hb
  have HR1 := Lib.hid h
  have HR3 := Lib.hid r3
  have HR4 := Lib.hid r4
  have HRUN3 := Lib.hid hrun3
  have HRUN4 := Lib.hid hrun4
  have HML := Lib.hid hml
  have HTL := Lib.hid htl
  have HSB := Lib.hid hsub
  have HN := Lib.hid hn
  clear h h2 r3 r4 hm ht hml htl hrun3 hrun4 hb hsub hn
  go_enter Try.func41, Try.ntmps41
  go_wp2_with fail
  refine wp_region_st (opnC w D X) (fun _ _ _ => True) (opnT (.slice a2 s.length c2) (.slice a3 m.length c3) (.slice a4 t.length c4) a4 s.length n D) (by kernel_rfl) (by kernel_rfl) ?_ ?_ ?_ ?_
  · intro w' hb hh
    exact ⟨hb, fun h => absurd h Bool.false_ne_true⟩
  · intro δ i j o v ax wx w' _ _ _ _ _ _ _ h
    rcases hd : o.dst with _ | d
    · exact tyP_none hd _ _
    · rw [tyP_some hd] at h ⊢
      exact opnT_any h
  · refine opsAll_cons ?_ (opsAll_cons ?_ (opsAll_cons ?_ (opsAll_cons ?_ (opsAll_cons ?_ (opsAll_cons ?_ (opsAll_cons ?_ (opsAll_cons ?_ (opsAll_cons ?_ (opsAll_cons ?_ (opsAll_cons ?_ (opsAll_cons ?_ (opsAll_cons ?_ (opsAll_cons ?_ (opsAll_cons ?_ opsAll_nil))))))))))))))
    all_goals intro δ wa wx hk
    · exact ⟨wanted_free rfl, gp_move (.tmp 1) rfl ⟨trivial, opnC_pure hk.inv (by decide) (by decide) (by decide), hk.old 1 (by kernel_rfl)⟩⟩
    · exact ⟨wanted_free rfl, gp_move (.tmp 1) rfl ⟨trivial, opnC_pure hk.inv (by decide) (by decide) (by decide), hk.old 1 (by kernel_rfl)⟩⟩
    · exact ⟨wanted_free rfl, gp_len2 rfl bt.slice (hk.slot 12 (by kernel_rfl)) ⟨trivial, opnC_pure hk.inv (by decide) (by decide) (by decide), rfl⟩⟩
    · exact ⟨wanted_free rfl, gp_bin rfl (hk.slot 13 (by kernel_rfl)) (hk.lit _) (v := .int .i64 n) (fun w => by rw [← HSB.out]; go_simp; exact IntWalk.i64_in _ (by have := HN.out; omega)) ⟨trivial, opnC_pure hk.inv (by decide) (by decide) (by decide), rfl⟩⟩
    · exact ⟨wanted_free rfl, gp_slice' rfl (hk.slot 11 (by kernel_rfl)) rfl (congrArg some (hk.slot 14 (by kernel_rfl))) rfl (HRUN3.out wx) ⟨trivial, opnC_pure hk.inv (by decide) (by decide) (by decide), rfl⟩⟩
    · exact ⟨wanted_free rfl, gp_move (.tmp 1) rfl ⟨trivial, opnC_pure hk.inv (by decide) (by decide) (by decide), hk.old 1 (by kernel_rfl)⟩⟩
    · exact ⟨wanted_free rfl, gp_move (.tmp 1) rfl ⟨trivial, opnC_pure hk.inv (by decide) (by decide) (by decide), hk.old 1 (by kernel_rfl)⟩⟩
    · exact ⟨wanted_free rfl, gp_len2 rfl bt.slice (hk.slot 17 (by kernel_rfl)) ⟨trivial, opnC_pure hk.inv (by decide) (by decide) (by decide), rfl⟩⟩
    · exact ⟨wanted_free rfl, gp_bin rfl (hk.slot 18 (by kernel_rfl)) (hk.lit _) (v := .int .i64 n) (fun w => by rw [← HSB.out]; go_simp; exact IntWalk.i64_in _ (by have := HN.out; omega)) ⟨trivial, opnC_pure hk.inv (by decide) (by decide) (by decide), rfl⟩⟩
    · exact ⟨wanted_free rfl, gp_slice' rfl (hk.slot 16 (by kernel_rfl)) (congrArg some (hk.slot 19 (by kernel_rfl))) rfl rfl (HRUN4.out wx) ⟨trivial, opnC_pure hk.inv (by decide) (by decide) (by decide), rfl⟩⟩
    · exact ⟨wanted_free rfl, gp_s2a rfl (hk.slot 20 (by kernel_rfl)) (by rw [HTL.out]; decide) ⟨trivial, opnC_pure hk.inv (by decide) (by decide) (by decide), rfl⟩⟩
    · exact ⟨wanted_free rfl, gp_load (.tmp 21) rfl (hk.slot 21 (by kernel_rfl)) (load_tagR (HR4.out.stay hk.inv.1) HTL.out) ⟨trivial, opnC_pure hk.inv (by decide) (by decide) (by decide), by rw [← hD.out]; rfl⟩⟩
    · refine ⟨wanted_free rfl, gp_run (alloc_tag _ _ _ _ wx) ?_⟩
      rw [← hX.out]
      exact ⟨trivial, opnC_a hk.inv (hk.closed.yet 18 14 12 (by kernel_rfl) hk.yet) (by rw [hk.same.2.1]; simp), trivial⟩
    · exact ⟨wanted_free rfl, gp_assign (.tmp 15) rfl ⟨trivial, opnC_pure hk.inv (by decide) (by decide) (by decide), hk.slot 15 (by kernel_rfl)⟩⟩
    · have h3 : δ 12 = true := by have := hk.next.needs 18 14 12 (by kernel_rfl) (upd_same _ _); rwa [upd_other δ (by decide)] at this
      obtain ⟨g, e, hg, hc⟩ := hk.inv.2 h3
      rw [hk.yet] at hc
      refine ⟨wanted_free rfl, gp_storeB row_tag (.tmp 7) (.tmp 22) rfl e (hk.slot 22 (by kernel_rfl)) hc HX.out HD.out HDo.out ?_⟩
      intro w' hb hs
      exact ⟨trivial, opnC_s hk.inv e hg hb hs, tyP_none rfl _ _⟩
  intro δ wa wx hall hC hsame hT
  obtain ⟨hB, h7⟩ := hC
  obtain ⟨g7, e7, hg7, hc7⟩ := h7 (hall 12 (by decide))
  rw [hall 14 (by decide), if_pos rfl] at hc7
  have he := act_same hsame [11, 12, 13, 14, 15, 16, 17, 18, 19, 20, 21, 22, 7, 6] (by kernel_rfl)
  simp only [List.foldl_cons, List.foldl_nil] at he
  rw [show wa.eval (.tmp 11) = _ from hT 11 (by kernel_rfl), show wa.eval (.tmp 12) = _ from hT 12 (by kernel_rfl), show wa.eval (.tmp 13) = _ from hT 13 (by kernel_rfl), show wa.eval (.tmp 14) = _ from hT 14 (by kernel_rfl), show wa.eval (.tmp 15) = _ from hT 15 (by kernel_rfl), show wa.eval (.tmp 16) = _ from hT 16 (by kernel_rfl), show wa.eval (.tmp 17) = _ from hT 17 (by kernel_rfl), show wa.eval (.tmp 18) = _ from hT 18 (by kernel_rfl), show wa.eval (.tmp 19) = _ from hT 19 (by kernel_rfl), show wa.eval (.tmp 20) = _ from hT 20 (by kernel_rfl), show wa.eval (.tmp 21) = _ from hT 21 (by kernel_rfl), show wa.eval (.tmp 22) = _ from hT 22 (by kernel_rfl), e7, show wa.eval (.tmp 6) = _ from hT 6 (by kernel_rfl)] at he
  simp only [Act.put, List.setIfInBounds_toArray, List.set_cons_zero, List.set_cons_succ] at he
  subst he
  clear hT hsame e7 hall h7
  have HC7 : Hid (wx.heap[g7]? = some (.cells D 36 (0, 0))) := hc7
  have HS1 := Lib.hid (hsum_calls wx a k c (HR1.out.stay hB) hl a3 m c3 (HR3.out.stay hB) (by have := HML.out; have := HN.out; omega))
  have HWB := Lib.hid hB
  clear hc7 hB
  go_wp2_with fail
  refine wp_region_st (fun _ _ wy => Below wx.heap.size wx wy) (fun _ _ _ => True) (opnT4 (.slice a k.length c) (.slice a3 m.length c3) H D b) (by kernel_rfl) (by kernel_rfl) ?_ ?_ ?_ ?_
  · intro w' hb hh
    exact hb
  · intro δ i j o v ax wx w' _ _ _ _ _ _ _ h
    rcases hd : o.dst with _ | d
    · exact tyP_none hd _ _
    · rw [tyP_some hd] at h ⊢
      exact opnT4_any h
  · refine opsAll_cons ?_ (opsAll_cons ?_ (opsAll_cons ?_ (opsAll_cons ?_ (opsAll_cons ?_ (opsAll_cons ?_ opsAll_nil)))))
    all_goals intro δ wa wy hk
    · exact ⟨wanted_free rfl, gp_move (.tmp 0) rfl ⟨trivial, hk.inv, hk.old 0 (by kernel_rfl)⟩⟩
    · exact ⟨wanted_free rfl, gp_move (.tmp 6) rfl ⟨trivial, hk.inv, hk.old 6 (by kernel_rfl)⟩⟩
    · have hB2 := HWB.out.trans (hk.inv.mono HWB.out.size)
      refine ⟨wanted_free rfl, gp_call rfl (hk.fn _) #[.slice a k.length c, .slice a3 m.length c3] (fun w => by kernel_rfl) (by simp [show wa.eval (.tmp 23) = _ from hk.slot 23 (by kernel_rfl), show wa.eval (.tmp 24) = _ from hk.slot 24 (by kernel_rfl)]) ((hsum_calls wy a k c (HR1.out.stay hB2) hl a3 m c3 (HR3.out.stay hB2) (by have := HML.out; have := HN.out; omega)).mono ?_)⟩
      rintro e w' ⟨rfl, hb⟩
      exact ⟨_, rfl, trivial, hk.inv.trans (hb.mono hk.inv.size), by rw [← hH.out]; rfl⟩
    · have hc := (hk.inv.block g7 (Array.getElem?_eq_some_iff.1 HC7.out).1).trans HC7.out
      exact ⟨wanted_free rfl, gp_loadB row_tag (.tmp 7) rfl (hk.old 7 (by kernel_rfl)) hc HD.out ⟨trivial, hk.inv, rfl⟩⟩
    · have hsm := hsame_calls wy (hmacB k m) t (hmacB_len k m) HTL.out
      rw [← hH.out, ← hD.out, ← HB.out] at hsm
      refine ⟨wanted_free rfl, gp_call rfl (hk.fn _) #[.agg H, .agg D] (fun w => by kernel_rfl) (by simp [show wa.eval (.tmp 25) = _ from hk.slot 25 (by kernel_rfl), show wa.eval (.tmp 26) = _ from hk.slot 26 (by kernel_rfl)]) (hsm.mono ?_)⟩
      rintro e w' ⟨rfl, hb⟩
      exact ⟨_, rfl, trivial, hk.inv.trans (hb.mono hk.inv.size), rfl⟩
    · exact ⟨wanted_free rfl, gp_not2 rfl b (hk.slot 27 (by kernel_rfl)) ⟨trivial, hk.inv, rfl⟩⟩
  intro δ wa wy hall hC hsame hT
  have he := act_same hsame [23, 24, 25, 26, 27, 28] (by kernel_rfl)
  simp only [List.foldl_cons, List.foldl_nil] at he
  rw [show wa.eval (.tmp 23) = _ from hT 23 (by kernel_rfl), show wa.eval (.tmp 24) = _ from hT 24 (by kernel_rfl), show wa.eval (.tmp 25) = _ from hT 25 (by kernel_rfl), show wa.eval (.tmp 26) = _ from hT 26 (by kernel_rfl), show wa.eval (.tmp 27) = _ from hT 27 (by kernel_rfl), show wa.eval (.tmp 28) = _ from hT 28 (by kernel_rfl)] at he
  simp only [Act.put, List.setIfInBounds_toArray, List.set_cons_zero, List.set_cons_succ] at he
  subst he
  clear hT hsame hall HS1
  have B := HWB.out.trans (hC.mono HWB.out.size)
  have HCL := Lib.hid (sclone_calls wy a3 m c3 (HR3.out.stay B) (by have := HML.out; have := HN.out; omega))
  clear hC HB
  cases b
  · go_wp2_with fail
    go_ret2
    exact ⟨none, 0, rfl, Row.nil_ _, B⟩
  · go_wp2_with fail
    refine HCL.out.mono ?_
    rintro e w4 ⟨a5, c5, rfl, hO5, hb4⟩
    have HR5 := Lib.hid hO5.isRow
    have HB4 := Lib.hid (B.trans (hb4.mono B.size))
    clear hO5 hb4
    go_wp2_with fail
    go_ret2
    exact ⟨a5, c5, rfl, HR5.out, HB4.out⟩
end Go.Proofs.Ytiemafgnpmoblaa
