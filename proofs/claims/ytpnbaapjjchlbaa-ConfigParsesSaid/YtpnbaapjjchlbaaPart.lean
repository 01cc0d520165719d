/- slices.Clone of bytes; config.Part, valid.has, the reference's Part, has: walked. -/
import Derived.Test.YtpnbaapjjchlbaaGc
import Derived.Lib.SliceRun
import Derived.WalkSpells
import Derived.Shelf.Abstract
namespace Go.Proofs.Ytpnbaapjjchlbaa
open Go Go.RowKit Go.Cit

theorem btP : ByteTypes Try.prog 41 5 := ⟨Try.underlying41, fun w => by kernel_rfl, by kernel_rfl⟩

set_option maxRecDepth 100000 in
/-- slices.Clone. -/
theorem sclone_calls (w : World) (a : Option Addr) (l : List UInt8) (c : Nat) (h : Row w a l c) (hl : l.length ≤ 1000000000) :
    Calls Try.prog 70 #[.slice a l.length c] w fun e w' => ∃ a' c', e = .returned (.slice a' l.length c') ∧ Cit.Own 5 w.heap.size w' a' l c' ∧ Below w.heap.size w w' := by
  cases a with
  | none =>
    have h0 := h.nil rfl
    have h1 := h.le
    obtain rfl : l = [] := List.eq_nil_of_length_eq_zero (by omega)
    subst h0
    show Calls Try.prog 70 #[.slice none 0 0] w _
    have hq := fun w : World => Lib.run_eql_slice_nil (P := Try.prog) w 41 5 none 0 0 0 0 Try.underlying41
    go_enter Try.func70, Try.ntmps70
    go_wp2_with fail
    go_ret
    exact ⟨none, 0, rfl, Cit.Own.nil _ _ _, Below.refl _ _⟩
  | some x =>
    have hq := fun w : World => Lib.run_eql_slice_nil (P := Try.prog) w 41 5 (some x) l.length c 0 0 Try.underlying41
    have B0 : Below w.heap.size w (w.alloc (.cells #[] 5)) := (Below.refl _ _).alloc (Nat.le_refl _) _
    have O0 := own_lit w #[] 5 [] rfl (by simp)
    have HO := Lib.hid O0
    have HR := Lib.hid (h.stay B0)
    have HB := Lib.hid B0
    clear O0 B0 h
    go_enter Try.func70, Try.ntmps70
    go_wp2_with (first
      | ((with_reducible refine wp_append_row (o := ⟨some 7, .call _, _, _, _, _⟩) btP (.tmp 5) (.tmp 6) (by with_unfolding_all rfl) (by with_unfolding_all rfl) HO.out HR.out (by simp; omega) HB.out.size (by with_unfolding_all rfl) (by with_unfolding_all rfl) ?_); intro a2 c2 w2 hO2 hg2; rw [List.nil_append] at hO2; have HO2 := Lib.hid hO2; have HB2 := Lib.hid (HB.out.trans (grown_below hg2 HB.out.size (fun k hk => (HO.out.blk_ge hk).1))); clear hO2 hg2))
    go_ret
    exact ⟨a2, c2, rfl, HO2.out, HB2.out⟩

theorem idp_calls (W : World) (x : PtV) (B : Nat) (id : Int) (hc : W.cell? ⟨B, 0, none⟩ = some (.int .i64 id)) :
    Calls Try.prog 69 (#[.agg #[.int .i64 x.id.1, .int .i64 x.reg.base.1, .int .i64 x.reg.size.1, .bool x.keep, .slice x.a x.img.length x.c]] ++ #[.pointer (some ⟨B, 0, none⟩)]) W fun e w' => e = .returned (.bool (decide (x.id.1 = id))) ∧ Below W.heap.size W w' := by
  have hB := World.block_lt_of_cell? W _ hc
  have hne : B ≠ W.heap.size := by have : B < W.heap.size := hB; omega
  show Calls Try.prog 69 #[.agg #[.int .i64 x.id.1, .int .i64 x.reg.base.1, .int .i64 x.reg.size.1, .bool x.keep, .slice x.a x.img.length x.c], .pointer (some ⟨B, 0, none⟩)] W _
  obtain ⟨R, HR⟩ : ∃ R, Hid (R = decide (x.id.1 = id)) := ⟨_, rfl⟩
  rw [← HR.out]
  have HBL : Hid (∀ C, Below W.heap.size W (W.alloc (.cells C 43))) := fun C => (Below.refl _ W).alloc (Nat.le_refl _) _
  have c1 := keepA (.cells #[.int .i64 x.id.1, .int .i64 x.reg.base.1, .int .i64 x.reg.size.1, .bool x.keep, .slice x.a x.img.length x.c] 43) hc
  clear hc
  go_enter Try.func69, Try.ntmps69
  go_wp2_with fail
  go_ret
  exact ⟨ret_bool (by rw [HR.out]; rfl), HBL.out _⟩

/-- No more than what is gone through. -/
structure SmallV (V : CfgV) : Prop where
  win : V.ws.length ≤ 100
  pts : V.ps.length ≤ 100
  chs : V.cs.length ≤ 100
  img : ∀ x ∈ V.ps, x.img.length ≤ 10000
def pt0 : Pt := ⟨⟨0, by decide⟩, ⟨⟨0, by decide⟩, ⟨0, by decide⟩⟩, false, []⟩
def hasP (ps : List PtV) (id : Int) : Bool := ps.any fun x => decide (x.id.1 = id)
/-- The first partition of an ID. -/
def getP (ps : List PtV) (id : Int) : Pt := ((ps.find? fun x => decide (x.id.1 = id)).map PtV.pt).getD pt0
theorem getP_none {ps : List PtV} {id : Int} (h : hasP ps id = false) : getP ps id = pt0 := by
  have : ps.find? (fun x => decide (x.id.1 = id)) = none := by
    rw [List.find?_eq_none]
    intro x hx
    have := List.any_eq_false.1 h x hx
    simpa using this
  rw [getP, this]; rfl
theorem findI_get {α : Type} (p : α → Bool) (l : List α) (i : Nat) (hi : i < l.length) (h : findI p l = i) : l.find? p = some l[i] := by
  cases hf : l.findIdx? p with
  | none => rw [findI, hf] at h; simp at h
  | some j =>
    rw [findI, hf] at h
    obtain rfl : j = i := by simp at h; omega
    rw [List.findIdx?_eq_some_iff_getElem] at hf
    obtain ⟨_, hp, hn⟩ := hf
    rw [List.find?_eq_some_iff_getElem]
    exact ⟨hp, j, hi, rfl, fun k hk => by simpa using hn k hk⟩
theorem hasP_find {ps : List PtV} {id : Int} (h : findI (fun x : PtV => decide (x.id.1 = id)) ps = -1) : hasP ps id = false := by
  rw [hasP, ← findI_any, h]; rfl
theorem hasP_at {ps : List PtV} {id : Int} {i : Nat} (h : findI (fun x : PtV => decide (x.id.1 = id)) ps = i) : hasP ps id = true := by
  rw [hasP, ← findI_any, h]; simp
theorem rowP : RowType Try.prog 43 5 := ⟨⟨_, Try.underlying43, rfl⟩, by kernel_rfl⟩
theorem rowCfg : RowType Try.prog 26 3 := ⟨⟨_, Try.underlying26, rfl⟩, by kernel_rfl⟩
theorem set5 {w : World} {b : Nat} {x0 x1 x2 x3 x4 : Value} (y0 y1 y2 y3 y4 : Value) {T : TypeId} {fr : Nat × Nat} (h : w.heap[b]? = some (.cells #[x0, x1, x2, x3, x4] T fr)) :
    (((((w.setCell ⟨b, 0, none⟩ y0).setCell ⟨b, 1, none⟩ y1).setCell ⟨b, 2, none⟩ y2).setCell ⟨b, 3, none⟩ y3).setCell ⟨b, 4, none⟩ y4).heap[b]? = some (.cells #[y0, y1, y2, y3, y4] T fr) := by
  simp [World.setCell, Array.getElem?_modify, h]
theorem set5_save (w : World) (b : Nat) (y0 y1 y2 y3 y4 : Value) : Save (· ≠ b) w (((((w.setCell ⟨b, 0, none⟩ y0).setCell ⟨b, 1, none⟩ y1).setCell ⟨b, 2, none⟩ y2).setCell ⟨b, 3, none⟩ y3).setCell ⟨b, 4, none⟩ y4) :=
  ((((Save.set.trans Save.set).trans Save.set).trans Save.set).trans Save.set)
theorem cells_of {w : World} {b : Nat} {C : Array Value} {T : TypeId} {fr : Nat × Nat} (h : w.heap[b]? = some (.cells C T fr)) (i : Nat) {v : Value} (hv : C[i]? = some v) : w.cell? ⟨b, i, none⟩ = some v := by rw [World.cell?, h]; exact hv
theorem frozen_no {w : World} {b : Nat} {C : Array Value} {T : TypeId} (h : w.heap[b]? = some (.cells C T (0, 0))) (i : Nat) : w.frozen? ⟨b, i, none⟩ = false := by rw [World.frozen?, h]; simp
theorem box3 (w : World) (x y z : Value) (T : TypeId) : (w.alloc (.cells #[x, y, z] T)).cell? ⟨w.heap.size, 0, none⟩ = some x ∧ (w.alloc (.cells #[x, y, z] T)).cell? ⟨w.heap.size, 1, none⟩ = some y ∧ (w.alloc (.cells #[x, y, z] T)).cell? ⟨w.heap.size, 2, none⟩ = some z := by
  refine ⟨?_, ?_, ?_⟩ <;> (rw [World.cell?, heap_alloc_new]; rfl)

set_option maxRecDepth 100000 in
set_option maxHeartbeats 2000000 in
theorem part_get (w : World) (V : CfgV) (h : V.At w) (hs : SmallV V) (id : Int) : Calls Try.prog 31 #[.agg #[.slice V.wa V.ws.length V.wc, .slice V.pa V.ps.length V.pc, .slice V.ca V.cs.length V.cc], .int .i64 id] w fun e w' =>
    ∃ x : PtV, e = .returned (.tuple #[.agg #[.int .i64 x.id.1, .int .i64 x.reg.base.1, .int .i64 x.reg.size.1, .bool x.keep, .slice x.a x.img.length x.c], .bool (hasP V.ps id)]) ∧ x.pt = getP V.ps id ∧ Cit.Own 5 w.heap.size w' x.a x.img x.c ∧ Below w.heap.size w w' := by
  obtain ⟨w3, hw3⟩ : ∃ w3, w3 = ((w.alloc (.cells #[.slice V.wa V.ws.length V.wc, .slice V.pa V.ps.length V.pc, .slice V.ca V.cs.length V.cc] 26)).alloc (.cells #[.int .i64 id] 3)).alloc (.cells #[.int .i64 0, .int .i64 0, .int .i64 0, .bool false, .slice none 0 0] 43) := ⟨_, rfl⟩
  have HB3 : Hid (Below w.heap.size w w3) := by rw [Hid, hw3]; exact (((Below.refl _ w).alloc (Nat.le_refl _) _).alloc (by simp) _).alloc (by simp; omega) _
  have hsz3 : w3.heap.size = w.heap.size + 3 := by rw [hw3]; simp
  have d0 : w3.cell? ⟨w.heap.size, 0, none⟩ = some (.slice V.wa V.ws.length V.wc) ∧ w3.cell? ⟨w.heap.size, 1, none⟩ = some (.slice V.pa V.ps.length V.pc) ∧ w3.cell? ⟨w.heap.size, 2, none⟩ = some (.slice V.ca V.cs.length V.cc) := by
    obtain ⟨a1, a2, a3⟩ := box3 w (.slice V.wa V.ws.length V.wc) (.slice V.pa V.ps.length V.pc) (.slice V.ca V.cs.length V.cc) 26
    rw [hw3]
    exact ⟨keepA _ (keepA _ a1), keepA _ (keepA _ a2), keepA _ (keepA _ a3)⟩
  have d1 : w3.cell? ⟨w.heap.size + 1, 0, none⟩ = some (.int .i64 id) := by
    rw [hw3]
    refine keepA _ ?_
    rw [World.cell?, show w.heap.size + 1 = (w.alloc (.cells #[.slice V.wa V.ws.length V.wc, .slice V.pa V.ps.length V.pc, .slice V.ca V.cs.length V.cc] 26)).heap.size by simp, heap_alloc_new]; rfl
  have d2 : w3.heap[w.heap.size + 1 + 1]? = some (.cells #[.int .i64 0, .int .i64 0, .int .i64 0, .bool false, .slice none 0 0] 43 (0, 0)) := by
    rw [hw3, show w.heap.size + 1 + 1 = ((w.alloc (.cells #[.slice V.wa V.ws.length V.wc, .slice V.pa V.ps.length V.pc, .slice V.ca V.cs.length V.cc] 26)).alloc (.cells #[.int .i64 id] 3)).heap.size by simp, heap_alloc_new]
  have hV := h.stay HB3.out
  have HI := Lib.hid (pts_index (p := fun x => decide (x.id.1 = id)) 69 #[.pointer (some ⟨w.heap.size + 1, 0, none⟩)] (enters_of Try.func69 (by kernel_rfl) rfl) w3 V.pa V.ps V.pc hV.pts
    (fun W i hi hb => (idp_calls W V.ps[i] (w.heap.size + 1) id (keep hb d1)).mono fun e w' ⟨he, hb'⟩ => ⟨he, hb.trans (hb'.mono hb.size)⟩))
  have HV := Lib.hid hV
  have HD1 := Lib.hid d2
  clear h hV d1 d2
  rcases findI_range (fun x : PtV => decide (x.id.1 = id)) V.ps with hf | ⟨i, hi, hf, hp⟩
  · have HH := hasP_find hf
    have HG := Lib.hid (getP_none HH)
    rw [HH]
    rw [hf] at HI
    clear hf HH
    go_enter Try.func31, Try.ntmps31
    go_wp2_with fail
    rw [← hw3]
    clear hw3
    refine (HI.out).mono ?_
    rintro e w4 ⟨rfl, hb4⟩
    have d0 := And.intro (keep hb4 d0.1) (And.intro (keep hb4 d0.2.1) (keep hb4 d0.2.2))
    have e2 : w4.heap[w.heap.size + 1 + 1]? = some (.cells #[.int .i64 0, .int .i64 0, .int .i64 0, .bool false, .slice none 0 0] 43 (0, 0)) := (hb4.block _ (by rw [hsz3]; omega)).trans HD1.out
    have HV4 := Lib.hid (HV.out.stay hb4)
    have HB4 := Lib.hid (HB3.out.trans (hb4.mono HB3.out.size))
    have hsz4 : w.heap.size + 3 ≤ w4.heap.size := by rw [← hsz3]; exact hb4.size
    clear hb4 HI
    obtain ⟨d0, d0', d0''⟩ := d0
    have g0 := cells_of e2 0 rfl
    have g1 := cells_of e2 1 rfl
    have g2 := cells_of e2 2 rfl
    have g3 := cells_of e2 3 rfl
    have g4 := cells_of e2 4 rfl
    have f0 : ∀ i, w4.frozen? ⟨w.heap.size + 1 + 1, i, none⟩ = false := frozen_no e2
    go_wp2_with fail
    refine bodyPost_ret (resB2 rowP rfl (by rfl) (set5 _ _ _ _ _ e2) rfl) rfl ⟨⟨⟨0, by decide⟩, ⟨⟨0, by decide⟩, ⟨0, by decide⟩⟩, false, none, [], 0⟩, rfl, ?_, Cit.Own.nil _ _ _, ?_⟩
    · rw [HG.out]; rfl
    · exact HB4.out.trans ((set5_save _ _ _ _ _ _ _).below HB4.out.size (fun k hk => by omega))
  · have HH := hasP_at hf
    have HX := HV.out.img V.ps[i] (List.getElem_mem hi)
    have HG : Hid (getP V.ps id = V.ps[i].pt) := by rw [Hid, getP, findI_get _ V.ps i hi hf]; rfl
    have HL : V.ps[i].img.length ≤ 10000 := hs.img _ (List.getElem_mem hi)
    have HPL := HV.out.pts.len_le
    rw [HH]
    rw [hf] at HI
    clear hf HH hp
    go_enter Try.func31, Try.ntmps31
    go_wp2_with fail
    rw [← hw3]
    clear hw3
    refine (HI.out).mono ?_
    rintro e w4 ⟨rfl, hb4⟩
    have d0 := And.intro (keep hb4 d0.1) (And.intro (keep hb4 d0.2.1) (keep hb4 d0.2.2))
    have e2 : w4.heap[w.heap.size + 1 + 1]? = some (.cells #[.int .i64 0, .int .i64 0, .int .i64 0, .bool false, .slice none 0 0] 43 (0, 0)) := (hb4.block _ (by rw [hsz3]; omega)).trans HD1.out
    have HV4 := Lib.hid (HV.out.stay hb4)
    have HB4 := Lib.hid (HB3.out.trans (hb4.mono HB3.out.size))
    have hsz4 : w.heap.size + 3 ≤ w4.heap.size := by rw [← hsz3]; exact hb4.size
    clear hb4 HI
    obtain ⟨d0, d0', d0''⟩ := d0
    have HX := Lib.hid (HV4.out.img V.ps[i] (List.getElem_mem hi))
    have i0 := HV4.out.pts.index etP i hi
    obtain ⟨u0, u1, u2, u3, u4⟩ := pts_cells HV4.out.pts (Below.refl _ _) i hi
    obtain ⟨x, hx⟩ : ∃ x : PtV, Hid (x = V.ps[i]) := ⟨V.ps[i], rfl⟩
    rw [← hx.out] at u0 u1 u2 u3 u4 HX HL HG
    have HN : Hid ((w4.alloc (.cells #[.int .i64 0, .int .i64 0, .int .i64 0, .bool false, .slice none 0 0] 43)).heap[w4.heap.size]? = some (.cells #[.int .i64 0, .int .i64 0, .int .i64 0, .bool false, .slice none 0 0] 43 (0, 0))) := heap_alloc_new _ _
    have HE2 := Lib.hid e2
    clear e2
    go_wp2_with ((with_reducible refine wpList_storeB (o := ⟨none, .store _ (.tmp 7) (.tmp 19), _, _, _, _⟩) rowP (.tmp 7) (.tmp 19) (by with_unfolding_all rfl) (by with_unfolding_all rfl) (by with_unfolding_all rfl) (by with_unfolding_all rfl) (by with_unfolding_all rfl) HN.out (by with_unfolding_all rfl) (by with_unfolding_all rfl) (by with_unfolding_all rfl) ?_); intro w5 hb5 hS5; have k4 := cells_of hb5 4 rfl; have HB5 := Lib.hid hb5; have HS5 := Lib.hid hS5; clear hb5 hS5)
    have hsz5 : w4.heap.size + 1 ≤ w5.heap.size := by have := HS5.out.size; rwa [World.size_alloc] at this
    have B45 : Below w4.heap.size w4 w5 := ((Below.refl _ w4).alloc (Nat.le_refl _) _).trans (HS5.out.below (by simp) (fun k hk => by omega))
    have HCL := Lib.hid (sclone_calls w5 x.a x.img x.c (HX.out.stay B45) (by omega))
    have HB45 := Lib.hid B45
    clear B45
    go_wp2_with fail
    refine (HCL.out).mono ?_
    rintro e w6 ⟨a6, c6, rfl, hO6, hb6⟩
    have hsz6 := hb6.size
    have e6 : w6.heap[w4.heap.size]? = _ := (hb6.block _ (by omega)).trans HB5.out
    have r6 : w6.heap[w.heap.size + 1 + 1]? = some (.cells #[.int .i64 0, .int .i64 0, .int .i64 0, .bool false, .slice none 0 0] 43 (0, 0)) := (hb6.block _ (by omega)).trans ((HB45.out.block _ (by omega)).trans HE2.out)
    have k0 := cells_of e6 0 rfl
    have k1 := cells_of e6 1 rfl
    have k2 := cells_of e6 2 rfl
    have k3 := cells_of e6 3 rfl
    have k4 := cells_of e6 4 rfl
    have f6 := frozen_no e6
    have HO6 := Lib.hid hO6
    have HB6 := Lib.hid (HB4.out.trans ((HB45.out.mono HB4.out.size).trans (hb6.mono (by have := HB4.out.size; have := HB45.out.size; omega))))
    have HR7 : Hid ((w6.setCell ⟨w4.heap.size, 4, none⟩ (.slice a6 x.img.length c6)).heap[w.heap.size + 1 + 1]? = some (.cells #[.int .i64 0, .int .i64 0, .int .i64 0, .bool false, .slice none 0 0] 43 (0, 0))) := (Below.heap_setCell _ _ _ _ (by show w.heap.size + 1 + 1 ≠ w4.heap.size; omega)).trans r6
    clear hO6 hb6 e6 r6 HCL
    go_wp2_with ((with_reducible refine wpList_storeB (o := ⟨none, .store _ (.tmp 4) (.tmp 24), _, _, _, _⟩) rowP (.tmp 4) (.tmp 24) (by with_unfolding_all rfl) (by with_unfolding_all rfl) (by with_unfolding_all rfl) (by with_unfolding_all rfl) (by with_unfolding_all rfl) HR7.out (by with_unfolding_all rfl) (by with_unfolding_all rfl) (by with_unfolding_all rfl) ?_); intro w7 hb7 hS7; have HB7 := Lib.hid hb7; have HS7 := Lib.hid hS7; clear hb7 hS7)
    refine bodyPost_ret (resB2 rowP rfl (by rfl) HB7.out rfl) rfl ⟨⟨x.id, x.reg, x.keep, a6, x.img, c6⟩, rfl, ?_, ?_, ?_⟩
    · rw [HG.out]; rfl
    · refine ((HO6.out.save (S := (· ≠ w4.heap.size)) Save.set (fun g hg => ?_)).save HS7.out (fun g hg => ?_)).low (by have := HB4.out.size; omega)
      · have := (HO6.out.blk_ge hg).1; omega
      · have := (HO6.out.blk_ge hg).1; omega
    · exact (HB6.out.setCell (p := ⟨w4.heap.size, 4, none⟩) (by have := HB4.out.size; exact this) _).trans (HS7.out.below (by simp [World.setCell]; exact HB6.out.size) (fun k hk => by omega))

theorem wp_refBox (w : World) (V : CfgV) (T : TypeId) : (w.alloc (.cells #[.slice V.wa V.ws.length V.wc, .slice V.pa V.ps.length V.pc, .slice V.ca V.cs.length V.cc] T)).cell? ⟨w.heap.size, 0, none⟩ = some (.slice V.wa V.ws.length V.wc) ∧ (w.alloc (.cells #[.slice V.wa V.ws.length V.wc, .slice V.pa V.ps.length V.pc, .slice V.ca V.cs.length V.cc] T)).cell? ⟨w.heap.size, 1, none⟩ = some (.slice V.pa V.ps.length V.pc) ∧ (w.alloc (.cells #[.slice V.wa V.ws.length V.wc, .slice V.pa V.ps.length V.pc, .slice V.ca V.cs.length V.cc] T)).cell? ⟨w.heap.size, 2, none⟩ = some (.slice V.ca V.cs.length V.cc) := box3 w _ _ _ T

set_option maxRecDepth 100000 in
set_option maxHeartbeats 1000000 in
theorem has_calls (w : World) (V : CfgV) (h : V.At w) (hs : SmallV V) (id : Int) : Calls Try.prog 165 #[.agg #[.slice V.wa V.ws.length V.wc, .slice V.pa V.ps.length V.pc, .slice V.ca V.cs.length V.cc], .int .i64 id] w fun e w' =>
    e = .returned (.bool (hasP V.ps id)) ∧ Below w.heap.size w w' := by
  have B0 : Below w.heap.size w (w.alloc (.cells #[.slice V.wa V.ws.length V.wc, .slice V.pa V.ps.length V.pc, .slice V.ca V.cs.length V.cc] 26)) := (Below.refl _ w).alloc (Nat.le_refl _) _
  have HC := Lib.hid (part_get _ V (h.stay B0) hs id)
  have HB0 := Lib.hid B0
  obtain ⟨R, HR⟩ : ∃ R, Hid (R = hasP V.ps id) := ⟨_, rfl⟩
  rw [← HR.out] at HC ⊢
  clear h B0
  go_enter Try.func165, Try.ntmps165
  go_wp2_with fail
  refine (HC.out).mono ?_
  rintro e w2 ⟨x, rfl, hx, hO, hb2⟩
  have HB2 := Lib.hid (HB0.out.trans (hb2.mono HB0.out.size))
  clear hx hO hb2 HC
  go_wp2_with fail
  go_ret
  exact ⟨rfl, HB2.out.alloc HB2.out.size _⟩


set_option maxRecDepth 100000 in
set_option maxHeartbeats 1000000 in
theorem refpart_calls (w : World) (V : CfgV) (h : V.At w) (id : Int) : Calls Try.prog 53 #[.agg #[.slice V.wa V.ws.length V.wc, .slice V.pa V.ps.length V.pc, .slice V.ca V.cs.length V.cc], .int .i64 id] w fun e w' =>
    e = .returned (.int .i64 (findI (fun x : PtV => decide (x.id.1 = id)) V.ps)) ∧ Below w.heap.size w w' := by
  obtain ⟨R, HR⟩ : ∃ R, Hid (R = findI (fun x : PtV => decide (x.id.1 = id)) V.ps) := ⟨_, rfl⟩
  rw [← HR.out]
  obtain ⟨w0, hw0⟩ : ∃ w0, w0 = w.alloc (.cells #[.slice V.wa V.ws.length V.wc, .slice V.pa V.ps.length V.pc, .slice V.ca V.cs.length V.cc] 26) := ⟨_, rfl⟩
  have B0 : Below w.heap.size w w0 := by rw [hw0]; exact (Below.refl _ w).alloc (Nat.le_refl _) _
  obtain ⟨d0, d1, d2⟩ := box3 w (.slice V.wa V.ws.length V.wc) (.slice V.pa V.ps.length V.pc) (.slice V.ca V.cs.length V.cc) 26
  rw [← hw0] at d0 d1 d2
  have HB0 := Lib.hid B0
  have HV := Lib.hid (h.stay B0)
  have hlen := h.pts.len_le
  clear h B0
  go_enter Try.func53, Try.ntmps53
  go_wp2_with fail
  rw [← hw0]
  clear hw0
  go_loopw [5] (fun i wr => ∃ (k : Nat), Hid (∀ j (hj : j < V.ps.length), j < k → decide (V.ps[j].id.1 = id) = false) ∧ k ≤ V.ps.length ∧ i = .int .i64 k ∧ Below w0.heap.size w0 wr) (fun i _ => V.ps.length - (intOf i).toNat)
  case atStart => exact ⟨0, fun j hj h => by omega, by omega, rfl, Below.refl _ _⟩
  case round =>
    obtain ⟨k, ha, hk, rfl, B⟩ := hrel
    have d0 := keep B d0
    have d1 := keep B d1
    have d2 := keep B d2
    by_cases hlt : k < V.ps.length
    · have i0 := HV.out.pts.index etP k hlt
      obtain ⟨u0, u1, u2, u3, u4⟩ := pts_cells HV.out.pts B k hlt
      have HB := Lib.hid B
      clear B
      by_cases hq : V.ps[k].id.1 = id
      · have HF : Hid (R = k) := by rw [Hid, HR.out]; exact findI_hit _ _ k hlt ha.out (by simpa using hq)
        go_wp2_with fail
        all_goals
          go_ret
          exact ⟨ret_int HF.out.symm, HB0.out.trans (HB.out.mono HB0.out.size)⟩
      · have HN : Hid (∀ j (hj : j < V.ps.length), j < k + 1 → decide (V.ps[j].id.1 = id) = false) := fun j hj h => by
          rcases Nat.lt_or_ge j k with h1 | h1
          · exact ha.out j hj h1
          · obtain rfl : j = k := by omega
            simpa using hq
        go_wp2_with fail
        go_roundw
        case rel => exact ⟨k + 1, HN.out, by omega, by go_num, HB.out⟩
        case measure => simp [intOf]; omega
    · have HF : Hid (R = -1) := by rw [Hid, HR.out]; exact findI_none _ _ (fun j hj => ha.out j hj (by omega))
      go_wp2_with fail
      go_ret
      exact ⟨ret_int HF.out.symm, HB0.out.trans (B.mono HB0.out.size)⟩
theorem refhas_calls (w : World) (V : CfgV) (h : V.At w) (id : Int) : Calls Try.prog 60 #[.agg #[.slice V.wa V.ws.length V.wc, .slice V.pa V.ps.length V.pc, .slice V.ca V.cs.length V.cc], .int .i64 id] w fun e w' =>
    e = .returned (.bool (hasP V.ps id)) ∧ Below w.heap.size w w' := by
  have B0 : Below w.heap.size w (w.alloc (.cells #[.slice V.wa V.ws.length V.wc, .slice V.pa V.ps.length V.pc, .slice V.ca V.cs.length V.cc] 26)) := (Below.refl _ w).alloc (Nat.le_refl _) _
  have HC := Lib.hid (refpart_calls _ V (h.stay B0) id)
  have HB0 := Lib.hid B0
  obtain ⟨S, HS⟩ : ∃ S, Hid (S = hasP V.ps id) := ⟨_, rfl⟩
  obtain ⟨R, HR⟩ : ∃ R, Hid (R = findI (fun x : PtV => decide (x.id.1 = id)) V.ps) := ⟨_, rfl⟩
  rw [← HR.out] at HC
  rw [← HS.out]
  clear h B0
  go_enter Try.func60, Try.ntmps60
  go_wp2_with fail
  refine (HC.out).mono ?_
  rintro e w2 ⟨rfl, hb2⟩
  go_wp2_with fail
  go_ret
  exact ⟨ret_bool (by rw [HS.out, hasP, ← findI_any, ← HR.out]), HB0.out.trans (hb2.mono HB0.out.size)⟩
end Go.Proofs.Ytpnbaapjjchlbaa
