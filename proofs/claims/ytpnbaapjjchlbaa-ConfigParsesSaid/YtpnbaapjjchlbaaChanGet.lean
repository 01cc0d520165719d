/- config.Channel: walked. -/
import Derived.Test.YtpnbaapjjchlbaaPart
import Derived.Test.YtpnbaapjjchlbaaVals
namespace Go.Proofs.Ytpnbaapjjchlbaa
open Go Go.RowKit Go.Cit

@[reducible] def cA5 (x : Ch) : Array Value := #[.int .i64 x.id.1, .int .i64 x.src.1, .int .i64 x.dst.1, .int .i64 x.cap.1, .int .i64 x.size.1]
def ch0 : Ch := ⟨⟨0, by decide⟩, ⟨0, by decide⟩, ⟨0, by decide⟩, ⟨0, by decide⟩, ⟨0, by decide⟩⟩
def hasC (cs : List Ch) (id : Int) : Bool := cs.any fun x => decide (x.id.1 = id)
def getC (cs : List Ch) (id : Int) : Ch := (cs.find? fun x => decide (x.id.1 = id)).getD ch0
theorem getC_none {cs : List Ch} {id : Int} (h : hasC cs id = false) : getC cs id = ch0 := by
  have : cs.find? (fun x => decide (x.id.1 = id)) = none := by
    rw [List.find?_eq_none]
    intro x hx
    unfold hasC at h
    rw [List.any_eq_false] at h
    exact h x hx
  rw [getC, this]; rfl
theorem rowCh : RowType Try.prog 54 5 := ⟨⟨_, Try.underlying54, rfl⟩, by kernel_rfl⟩
set_option maxRecDepth 100000 in
theorem idc_calls (W : World) (x : Ch) (B : Nat) (id : Int) (hc : W.cell? ⟨B, 0, none⟩ = some (.int .i64 id)) :
    Calls Try.prog 87 (#[.agg #[.int .i64 x.id.1, .int .i64 x.src.1, .int .i64 x.dst.1, .int .i64 x.cap.1, .int .i64 x.size.1]] ++ #[.pointer (some ⟨B, 0, none⟩)]) W fun e w' => e = .returned (.bool (decide (x.id.1 = id))) ∧ Below W.heap.size W w' := by
  have hB := World.block_lt_of_cell? W _ hc
  have hne : B ≠ W.heap.size := by have : B < W.heap.size := hB; omega
  show Calls Try.prog 87 #[.agg (cA5 x), .pointer (some ⟨B, 0, none⟩)] W _
  obtain ⟨R, HR⟩ : ∃ R, Hid (R = decide (x.id.1 = id)) := ⟨_, rfl⟩
  rw [← HR.out]
  have HBL : Hid (∀ C, Below W.heap.size W (W.alloc (.cells C 54))) := fun C => (Below.refl _ W).alloc (Nat.le_refl _) _
  have c1 := keepA (.cells (cA5 x) 54) hc
  clear hc
  go_enter Try.func87, Try.ntmps87
  go_wp2_with fail
  go_ret
  exact ⟨ret_bool (by rw [HR.out]; rfl), HBL.out _⟩
set_option maxRecDepth 100000 in
set_option maxHeartbeats 2000000 in
theorem chan_get (w : World) (V : CfgV) (h : V.At w) (id : Int) : Calls Try.prog 45 #[.agg #[.slice V.wa V.ws.length V.wc, .slice V.pa V.ps.length V.pc, .slice V.ca V.cs.length V.cc], .int .i64 id] w fun e w' =>
    e = .returned (.tuple #[.agg (cA5 (getC V.cs id)), .bool (hasC V.cs id)]) ∧ Below w.heap.size w w' := by
  obtain ⟨w3, hw3⟩ : ∃ w3, w3 = ((w.alloc (.cells #[.slice V.wa V.ws.length V.wc, .slice V.pa V.ps.length V.pc, .slice V.ca V.cs.length V.cc] 26)).alloc (.cells #[.int .i64 id] 3)).alloc (.cells #[.int .i64 0, .int .i64 0, .int .i64 0, .int .i64 0, .int .i64 0] 54) := ⟨_, rfl⟩
  have HB3 : Hid (Below w.heap.size w w3) := by rw [Hid, hw3]; exact (((Below.refl _ w).alloc (Nat.le_refl _) _).alloc (by simp) _).alloc (by simp; omega) _
  have hsz3 : w3.heap.size = w.heap.size + 3 := by rw [hw3]; simp
  have d0 : w3.cell? ⟨w.heap.size, 0, none⟩ = some (.slice V.wa V.ws.length V.wc) ∧ w3.cell? ⟨w.heap.size, 1, none⟩ = some (.slice V.pa V.ps.length V.pc) ∧ w3.cell? ⟨w.heap.size, 2, none⟩ = some (.slice V.ca V.cs.length V.cc) := by
    obtain ⟨a1, a2, a3⟩ := box3 w (.slice V.wa V.ws.length V.wc) (.slice V.pa V.ps.length V.pc) (.slice V.ca V.cs.length V.cc) 26
    rw [hw3]
    exact ⟨keepA _ (keepA _ a1), keepA _ (keepA _ a2), keepA _ (keepA _ a3)⟩
  have d1 : w3.cell? ⟨w.heap.size + 1, 0, none⟩ = some (.int .i64 id) := by
    rw [hw3]
    refine keepA _ ?_
    rw [World.cell?, show w.heap.size + 1 = (w.alloc (.cells #[.slice V.wa V.ws.length V.wc, .slice V.pa V.ps.length V.pc, .slice V.ca V.cs.length V.cc] 26)).heap.size by simp, heap_alloc_new]; rfl
  have d2 : w3.heap[w.heap.size + 1 + 1]? = some (.cells #[.int .i64 0, .int .i64 0, .int .i64 0, .int .i64 0, .int .i64 0] 54 (0, 0)) := by
    rw [hw3, show w.heap.size + 1 + 1 = ((w.alloc (.cells #[.slice V.wa V.ws.length V.wc, .slice V.pa V.ps.length V.pc, .slice V.ca V.cs.length V.cc] 26)).alloc (.cells #[.int .i64 id] 3)).heap.size by simp, heap_alloc_new]
  have hV := h.stay HB3.out
  have HI := Lib.hid (chs_index (p := fun x => decide (x.id.1 = id)) 87 #[.pointer (some ⟨w.heap.size + 1, 0, none⟩)] (enters_of Try.func87 (by kernel_rfl) rfl) w3 V.ca V.cs V.cc hV.chs
    (fun W i hi hb => (idc_calls W V.cs[i] (w.heap.size + 1) id (keep hb d1)).mono fun e w' ⟨he, hb'⟩ => ⟨he, hb.trans (hb'.mono hb.size)⟩))
  have HV := Lib.hid hV
  have HD1 := Lib.hid d2
  obtain ⟨X, hX⟩ : ∃ X, Hid (X = getC V.cs id) := ⟨_, rfl⟩
  obtain ⟨Y, hY⟩ : ∃ Y, Hid (Y = hasC V.cs id) := ⟨_, rfl⟩
  rw [← hX.out, ← hY.out]
  have hcl := h.chs.len_le
  clear h hV d1 d2
  rcases findI_range (fun x : Ch => decide (x.id.1 = id)) V.cs with hf | ⟨i, hi, hf, hp⟩
  · have HH : hasC V.cs id = false := by rw [hasC, ← findI_any, hf]; rfl
    have HXZ : Hid (X = ch0) := by rw [Hid, hX.out, getC_none HH]
    have HYF : Hid (Y = false) := by rw [Hid, hY.out, HH]
    rw [hf] at HI
    clear hf HH
    go_enter Try.func45, Try.ntmps45
    go_wp2_with fail
    rw [← hw3]
    clear hw3
    refine (HI.out).mono ?_
    rintro e w4 ⟨rfl, hb4⟩
    have e2 : w4.heap[w.heap.size + 1 + 1]? = some (.cells #[.int .i64 0, .int .i64 0, .int .i64 0, .int .i64 0, .int .i64 0] 54 (0, 0)) := (hb4.block _ (by rw [hsz3]; omega)).trans HD1.out
    have HB4 := Lib.hid (HB3.out.trans (hb4.mono HB3.out.size))
    clear hb4 HI d0
    have g0 := cells_of e2 0 rfl
    have g1 := cells_of e2 1 rfl
    have g2 := cells_of e2 2 rfl
    have g3 := cells_of e2 3 rfl
    have g4 := cells_of e2 4 rfl
    have f0 : ∀ i, w4.frozen? ⟨w.heap.size + 1 + 1, i, none⟩ = false := frozen_no e2
    go_wp2_with fail
    refine bodyPost_ret (resB2 rowCh rfl (by rfl) (set5 _ _ _ _ _ e2) rfl) rfl ⟨?_, ?_⟩
    · rw [HXZ.out, HYF.out]; rfl
    · exact HB4.out.trans ((set5_save _ _ _ _ _ _ _).below HB4.out.size (fun k hk => by omega))
  · have HXG : Hid (X = V.cs[i]) := by rw [Hid, hX.out, getC, findI_get _ V.cs i hi hf]; rfl
    have HYT : Hid (Y = true) := by rw [Hid, hY.out, hasC, ← findI_any, hf]; simp
    rw [hf] at HI
    clear hf hp
    go_enter Try.func45, Try.ntmps45
    go_wp2_with fail
    rw [← hw3]
    clear hw3
    refine (HI.out).mono ?_
    rintro e w4 ⟨rfl, hb4⟩
    have d0 := And.intro (keep hb4 d0.1) (And.intro (keep hb4 d0.2.1) (keep hb4 d0.2.2))
    have e2 : w4.heap[w.heap.size + 1 + 1]? = some (.cells #[.int .i64 0, .int .i64 0, .int .i64 0, .int .i64 0, .int .i64 0] 54 (0, 0)) := (hb4.block _ (by rw [hsz3]; omega)).trans HD1.out
    have hv4 := HV.out.stay hb4
    have HB4 := Lib.hid (HB3.out.trans (hb4.mono HB3.out.size))
    clear hb4 HI
    obtain ⟨d0, d0', d0''⟩ := d0
    have i0 := hv4.chs.index etC i hi
    have u0 : w4.cell? (ad V.ca (i * 5)) = some (.int .i64 X.id.1) := by rw [HXG.out]; exact hv4.chs.field0 i hi (by decide) rfl
    have u1 : w4.cell? ⟨(ad V.ca (i * 5)).block, (ad V.ca (i * 5)).off + 1, none⟩ = some (.int .i64 X.src.1) := by rw [HXG.out]; exact hv4.chs.field i hi 1 (by decide) rfl
    have u2 : w4.cell? ⟨(ad V.ca (i * 5)).block, (ad V.ca (i * 5)).off + 2, none⟩ = some (.int .i64 X.dst.1) := by rw [HXG.out]; exact hv4.chs.field i hi 2 (by decide) rfl
    have u3 : w4.cell? ⟨(ad V.ca (i * 5)).block, (ad V.ca (i * 5)).off + 3, none⟩ = some (.int .i64 X.cap.1) := by rw [HXG.out]; exact hv4.chs.field i hi 3 (by decide) rfl
    have u4 : w4.cell? ⟨(ad V.ca (i * 5)).block, (ad V.ca (i * 5)).off + 4, none⟩ = some (.int .i64 X.size.1) := by rw [HXG.out]; exact hv4.chs.field i hi 4 (by decide) rfl
    have g0 := cells_of e2 0 rfl
    have g1 := cells_of e2 1 rfl
    have g2 := cells_of e2 2 rfl
    have g3 := cells_of e2 3 rfl
    have g4 := cells_of e2 4 rfl
    have f0 : ∀ i, w4.frozen? ⟨w.heap.size + 1 + 1, i, none⟩ = false := frozen_no e2
    clear hv4
    go_wp2_with fail
    refine bodyPost_ret (resB2 rowCh rfl (by rfl) (set5 _ _ _ _ _ e2) rfl) rfl ⟨?_, ?_⟩
    · rw [HYT.out]; rfl
    · exact HB4.out.trans ((set5_save _ _ _ _ _ _ _).below HB4.out.size (fun k hk => by omega))
end Go.Proofs.Ytpnbaapjjchlbaa
