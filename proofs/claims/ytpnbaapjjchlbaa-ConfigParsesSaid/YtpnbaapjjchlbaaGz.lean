/- Texts of the proof, one behind the other: Parse1, Parse2, Clone, Copy, Parse. No condition but those that each names. -/
import Derived.Test.YtpnbaapjjchlbaaGx
import Derived.Test.YtpnbaapjjchlbaaGy
import Derived.Test.YtpnbaapjjchlbaaCfgLem
import Derived.Test.YtpnbaapjjchlbaaGe
import Derived.Test.YtpnbaapjjchlbaaSet
/- config.Parse: its closures: walked. -/
namespace Go.Proofs.Ytpnbaapjjchlbaa
open Go Go.RowKit Go.Cit

/-- What is read, and what is left of the reader. -/
def St.int (s : St) : I64 × St := (mkI (s.read 8 fInt 0).1, (s.read 8 fInt 0).2)
def readWin (s : St) : Win × St := (⟨s.int.1, s.int.2.int.1⟩, s.int.2.int.2)
def readCh (s : St) : Ch × St := (⟨s.int.1, s.int.2.int.1, s.int.2.int.2.int.1, s.int.2.int.2.int.2.int.1, s.int.2.int.2.int.2.int.2.int.1⟩, s.int.2.int.2.int.2.int.2.int.2)
def readPt (s : St) : Pt × St := (⟨s.int.1, ⟨s.int.2.int.1, s.int.2.int.2.int.1⟩, (s.int.2.int.2.int.2.read 1 fFlag false).1, (s.int.2.int.2.int.2.read 1 fFlag false).2.bytes.1⟩, (s.int.2.int.2.int.2.read 1 fFlag false).2.bytes.2)
theorem wrap_range (n : Int) : -9223372036854775808 ≤ wrap64 n ∧ wrap64 n ≤ 9223372036854775807 := by unfold wrap64; omega
theorem int_range (s : St) : -9223372036854775808 ≤ (s.read 8 fInt 0).1 ∧ (s.read 8 fInt 0).1 ≤ 9223372036854775807 := by
  unfold St.read
  split
  · split
    · exact wrap_range _
    · exact ⟨by show (-9223372036854775808 : Int) ≤ 0; decide, by show (0 : Int) ≤ 9223372036854775807; decide⟩
  · exact ⟨by show (-9223372036854775808 : Int) ≤ 0; decide, by show (0 : Int) ≤ 9223372036854775807; decide⟩
theorem int_val (s : St) : s.int.1.1 = (s.read 8 fInt 0).1 := mkI_val (int_range s)
theorem int_st (s : St) : s.int.2 = (s.read 8 fInt 0).2 := rfl
theorem rdint_calls {base top w b s} (h : RdAt base top w b s) : Calls Try.prog 106 #[.pointer (some ⟨b, 0, none⟩)] w fun r w' => r = .returned (.int .i64 s.int.1.1) ∧ RdAt base top w' b s.int.2 ∧ Save (· ≠ b) w w' := by
  obtain ⟨a, c, h⟩ := h
  have := rint_calls h
  rw [int_val]
  exact this
theorem rdflag_calls {base top w b s} (h : RdAt base top w b s) : Calls Try.prog 109 #[.pointer (some ⟨b, 0, none⟩)] w fun r w' => r = .returned (.bool (s.read 1 fFlag false).1) ∧ RdAt base top w' b (s.read 1 fFlag false).2 ∧ Save (· ≠ b) w w' := by
  obtain ⟨a, c, h⟩ := h
  exact rflag_calls h
theorem rdbytes_calls {base top w b s} (h : RdAt base top w b s) : Calls Try.prog 110 #[.pointer (some ⟨b, 0, none⟩)] w (Got base top w b s.bytes) := by
  obtain ⟨a, c, h⟩ := h
  exact rbytes_calls h
theorem rdcount_calls {base top w b s} (h : RdAt base top w b s) (most : Int) : Calls Try.prog 147 #[.pointer (some ⟨b, 0, none⟩), .int .i64 most] w fun r w' => r = .returned (.int .i64 (s.count most).1) ∧ RdAt base top w' b (s.count most).2 ∧ Save (· ≠ b) w w' := by
  obtain ⟨a, c, h⟩ := h
  exact rcount_calls h most
theorem rdend_calls {base top w b s} (h : RdAt base top w b s) : Calls Try.prog 113 #[.pointer (some ⟨b, 0, none⟩)] w fun r w' => r = .returned (.int .i64 s.fin) ∧ w = w' := by
  obtain ⟨a, c, h⟩ := h
  exact wrend_calls h
theorem RdAt.lt {base top w b s} (h : RdAt base top w b s) : b < w.heap.size := by obtain ⟨_, _, h⟩ := h; exact h.lt
theorem rowW2 : RowType Try.prog 52 2 := ⟨⟨_, Try.underlying52, rfl⟩, by kernel_rfl⟩
/-- A variable that holds the reader. -/
def RdVar (w : World) (g b : Nat) : Prop := w.heap[g]? = some (.cells #[.pointer (some ⟨b, 0, none⟩)] 121 (0, 0))
theorem RdVar.ne {base top w b s g} (h : RdVar w g b) (k : RdAt base top w b s) : g ≠ b := by
  rintro rfl
  obtain ⟨_, _, k⟩ := k
  have := k.blk
  rw [h] at this; simp at this
theorem RdVar.save {w w' : World} {g b : Nat} (h : RdVar w g b) (hs : Save (· ≠ b) w w') (hne : g ≠ b) : RdVar w' g b := (hs.block g (Array.getElem?_eq_some_iff.1 h).1 hne).trans h
theorem RdVar.cell {w : World} {g b : Nat} (h : RdVar w g b) : w.cell? ⟨g, 0, none⟩ = some (.pointer (some ⟨b, 0, none⟩)) := cells_of h 0 rfl

theorem save_newer {b p : Nat} {w w3 w4 : World} (h1 : Save (· ≠ b) w w3) (h2 : Save (· ≠ p) w3 w4) (hp : w.heap.size ≤ p) : Save (· ≠ b) w w4 :=
  ⟨h2.os.trans h1.os, h2.tape.trans h1.tape, h2.output.trans h1.output, Nat.le_trans h1.size h2.size, fun k hk hs => (h2.block k (Nat.lt_of_lt_of_le hk h1.size) (by omega)).trans (h1.block k hk hs)⟩
theorem RdAt.newer {base top w w' b s p} (h : RdAt base top w b s) (hs : Save (· ≠ p) w w') (hp : top ≤ p) (hb : b ≠ p) : RdAt base top w' b s := h.save hs hb fun g _ hg => by omega
theorem RdVar.newer {w w' : World} {g b p : Nat} (h : RdVar w g b) (hs : Save (· ≠ p) w w') (hne : g ≠ p) : RdVar w' g b := (hs.block g (Array.getElem?_eq_some_iff.1 h).1 hne).trans h
theorem RdVar.lt {w : World} {g b : Nat} (h : RdVar w g b) : g < w.heap.size := (Array.getElem?_eq_some_iff.1 h).1
def readN {α : Type} (f : St → α × St) : Nat → St → List α × St
  | 0, s => ([], s)
  | n + 1, s => ((readN f n s).1 ++ [(f (readN f n s).2).1], (f (readN f n s).2).2)
def readL {α : Type} (f : St → α × St) (most : Int) (s : St) : List α × St := readN f (s.count most).1.toNat (s.count most).2
theorem readN_len {α : Type} (f : St → α × St) : ∀ (n : Nat) (s : St), (readN f n s).1.length = n
  | 0, _ => rfl
  | n + 1, s => by rw [readN, List.length_append, readN_len f n s]; rfl
theorem count_range (s : St) (most : Int) (h : 0 ≤ most) : 0 ≤ (s.count most).1 ∧ (s.count most).1 ≤ most := by
  unfold St.count
  split
  · split
    · exact ⟨by omega, by omega⟩
    · exact ⟨Int.le_refl _, h⟩
  · exact ⟨Int.le_refl _, h⟩
set_option maxRecDepth 100000 in
set_option maxHeartbeats 4000000 in
theorem paw_calls {base top w b s} (h : RdAt base top w b s) (htop : top ≤ w.heap.size) (g : Nat) (hg : RdVar w g b) : Calls Try.prog 105 (#[] ++ #[.pointer (some ⟨g, 0, none⟩)]) w fun e w' => e = .returned (.agg #[.int .i64 (readWin s).1.len.1, .int .i64 (readWin s).1.part.1]) ∧ RdAt base top w' b (readWin s).2 ∧ Save (· ≠ b) w w' := by
  show Calls Try.prog 105 #[.pointer (some ⟨g, 0, none⟩)] w _
  have hgb := hg.ne h
  obtain ⟨w1, hw1⟩ : ∃ w1, w1 = w.alloc (.cells #[.int .i64 0, .int .i64 0] 52) := ⟨_, rfl⟩
  obtain ⟨p, hp⟩ : ∃ p, p = w.heap.size := ⟨_, rfl⟩
  have hb1 : Below w.heap.size w w1 := by rw [hw1]; exact (Below.refl _ w).alloc (Nat.le_refl _) _
  have hx : w1.heap[p]? = some (.cells #[.int .i64 0, .int .i64 0] 52 (0, 0)) := by rw [hw1, hp]; exact heap_alloc_new _ _
  have hblt := h.lt
  have hpb : p ≠ b := by omega
  have hpw : w.heap.size ≤ p := by omega
  have hg1 : RdVar w1 g b := blk_stay hg hb1
  have c0 := hg1.cell
  have HK := Lib.hid (rdint_calls (h.stay hb1))
  have HS := Lib.hid (And.intro hb1 (And.intro hx hg1))
  obtain ⟨n, hn⟩ : ∃ n, Hid (n = s.int.1.1) := ⟨_, rfl⟩
  obtain ⟨n2, hn2⟩ : ∃ n, Hid (n = s.int.2.int.1.1) := ⟨_, rfl⟩
  rw [← hn.out] at HK
  clear h hg hb1 hx hg1
  go_enter Try.func105, Try.ntmps105
  go_upto_region 1 with fail
  rw [← hw1, ← hp]
  have HPP := Lib.hid hp
  clear hw1 hp
  go_wp2_with fail
  refine (HK.out).mono ?_
  rintro e w2 ⟨rfl, hR, hS⟩
  have hg2 : RdVar w2 g b := HS.out.2.2.save hS hgb
  have HK2 := Lib.hid (rdint_calls hR)
  rw [← hn2.out] at HK2
  have hx2 := (hS.block p (Array.getElem?_eq_some_iff.1 HS.out.2.1).1 hpb).trans HS.out.2.1
  have HS2 := Lib.hid (And.intro hS (And.intro hx2 hg2))
  have c0 := hg2.cell
  clear hR hS hg2 hx2 HK
  go_wp2_with fail
  refine (HK2.out).mono ?_
  rintro e w3 ⟨rfl, hR, hS⟩
  have hx3 := (hS.block p (Array.getElem?_eq_some_iff.1 HS2.out.2.1).1 hpb).trans HS2.out.2.1
  have HS3 := Lib.hid (And.intro hR (And.intro ((Save.of HS.out.1).trans (HS2.out.1.trans hS)) hx3))
  clear hR hS hx3 HK2 c0
  go_wp2_with ((with_reducible refine wpList_storeB (o := ⟨none, .store _ (.tmp 1) _, _, _, _, _⟩) rowW2 (.tmp 1) (.tmp 8) (by with_unfolding_all rfl) (by with_unfolding_all rfl) (by with_unfolding_all rfl) (by with_unfolding_all rfl) (by with_unfolding_all rfl) HS3.out.2.2 (by with_unfolding_all rfl) (by with_unfolding_all rfl) (by with_unfolding_all rfl) ?_); intro w4 hg4 hs4)
  refine bodyPost_ret (resB1 rowW2 rfl (by rfl) hg4 rfl) rfl ⟨by rw [hn.out, hn2.out]; rfl, HS3.out.1.newer hs4 (Nat.le_trans htop hpw) (by omega), save_newer HS3.out.2.1 hs4 hpw⟩
set_option maxRecDepth 100000 in
set_option maxHeartbeats 8000000 in
theorem pap_calls {base top w b s} (h : RdAt base top w b s) (htop : top ≤ w.heap.size) (g : Nat) (hg : RdVar w g b) : Calls Try.prog 108 (#[] ++ #[.pointer (some ⟨g, 0, none⟩)]) w fun e w' => ∃ x : PtV, e = .returned (.agg (cA x)) ∧ x.pt = (readPt s).1 ∧ Row w' x.a x.img x.c ∧ (x.img ≠ [] → ∀ g, blk x.a = some g → w.heap.size ≤ g) ∧ RdAt base top w' b (readPt s).2 ∧ Save (· ≠ b) w w' := by
  show Calls Try.prog 108 #[.pointer (some ⟨g, 0, none⟩)] w _
  have hgb := hg.ne h
  have hglt := hg.lt
  have hblt := h.lt
  obtain ⟨w1, hw1⟩ : ∃ w1, w1 = w.alloc (.cells #[.int .i64 0, .int .i64 0, .int .i64 0, .bool false, .slice none 0 0] 43) := ⟨_, rfl⟩
  obtain ⟨p, hp⟩ : ∃ p, p = w.heap.size := ⟨_, rfl⟩
  have hb1 : Below w.heap.size w w1 := by rw [hw1]; exact (Below.refl _ w).alloc (Nat.le_refl _) _
  have hx : w1.heap[p]? = some (.cells #[.int .i64 0, .int .i64 0, .int .i64 0, .bool false, .slice none 0 0] 43 (0, 0)) := by rw [hw1, hp]; exact heap_alloc_new _ _
  have hpb : p ≠ b := by omega
  have hpw : w.heap.size ≤ p := by omega
  have hg1 : RdVar w1 g b := blk_stay hg hb1
  have hR := h.stay hb1
  have HS1 := Lib.hid (And.intro (Save.of (S := (· ≠ b)) hb1) (And.intro hx hg1))
  clear h hg hb1 hx hg1
  go_enter Try.func108, Try.ntmps108
  go_upto_region 1 with fail
  rw [← hw1, ← hp]
  have HPP := Lib.hid hp
  clear hw1 hp
  obtain ⟨n0, hn0⟩ : ∃ n, Hid (n = (s).int.1.1) := ⟨_, rfl⟩
  obtain ⟨n1, hn1⟩ : ∃ n, Hid (n = ((s).int.2).int.1.1) := ⟨_, rfl⟩
  obtain ⟨n2, hn2⟩ : ∃ n, Hid (n = (((s).int.2).int.2).int.1.1) := ⟨_, rfl⟩
  obtain ⟨n3, hn3⟩ : ∃ n, Hid (n = (((((s).int.2).int.2).int.2).read 1 fFlag false).1) := ⟨_, rfl⟩
  have c0 := HS1.out.2.2.cell
  have HK := Lib.hid (rdint_calls hR)
  rw [← hn0.out] at HK
  clear hR
  go_wp2_with fail
  refine (HK.out).mono ?_
  rintro e v0 ⟨rfl, hR, hS⟩
  have hx := (hS.block p (Array.getElem?_eq_some_iff.1 HS1.out.2.1).1 hpb).trans HS1.out.2.1
  have hgv : RdVar v0 g b := HS1.out.2.2.save hS hgb
  have hSS := HS1.out.1.trans hS
  obtain ⟨p2, hp2⟩ : ∃ p2, p2 = v0.heap.size := ⟨_, rfl⟩
  obtain ⟨x0, hx0⟩ : ∃ x0, x0 = v0.alloc (.cells #[.int .i64 n0, .int .i64 0, .int .i64 0, .bool false, .slice none 0 0] 43) := ⟨_, rfl⟩
  have hb0 : Below v0.heap.size v0 x0 := by rw [hx0]; exact (Below.refl _ _).alloc (Nat.le_refl _) _
  have hq : x0.heap[p2]? = some (.cells #[.int .i64 n0, .int .i64 0, .int .i64 0, .bool false, .slice none 0 0] 43 (0, 0)) := by rw [hx0, hp2]; exact heap_alloc_new _ _
  have hp2w : w.heap.size ≤ p2 := by rw [hp2]; exact hSS.size
  have hp2p : p2 ≠ p := by have := (Array.getElem?_eq_some_iff.1 hx).1; omega
  have hR := hR.stay hb0
  have HS2 := Lib.hid (And.intro (hSS.trans (Save.of hb0)) (And.intro (blk_stay hx hb0) (And.intro (show RdVar x0 g b from blk_stay hgv hb0) hq)))
  clear hx hgv hSS hS hb0 hq HS1 HK c0
  go_upto_region 2 with fail
  rw [← hx0, ← hp2]
  have HPQ := Lib.hid hp2
  clear hx0 hp2
  have c0 := HS2.out.2.2.1.cell
  have HK := Lib.hid (rdint_calls hR)
  rw [← hn1.out] at HK
  clear hR
  go_wp2_with fail
  refine (HK.out).mono ?_
  rintro e v1 ⟨rfl, hR, hS⟩
  have hx := (hS.block p (Array.getElem?_eq_some_iff.1 HS2.out.2.1).1 hpb).trans HS2.out.2.1
  have hgv : RdVar v1 g b := HS2.out.2.2.1.save hS hgb
  have hSS := HS2.out.1.trans hS
  have hq := (hS.block p2 (Array.getElem?_eq_some_iff.1 HS2.out.2.2.2).1 (by omega)).trans HS2.out.2.2.2
  have d0 := cells_of hq 1 rfl
  have f0 := frozen_no hq 1
  obtain ⟨x1, hx1⟩ : ∃ x, x = v1.setCell ⟨p2, 1, none⟩ (.int .i64 n1) := ⟨_, rfl⟩
  have hs : Save (· ≠ p2) v1 x1 := by rw [hx1]; exact Save.set
  have hq2 : x1.heap[p2]? = some (.cells #[.int .i64 n0, .int .i64 n1, .int .i64 0, .bool false, .slice none 0 0] 43 (0, 0)) := by rw [hx1]; exact setCell_blk _ hq
  have hR := hR.newer hs (Nat.le_trans htop hp2w) (by omega)
  have HS3 := Lib.hid (And.intro (save_newer hSS hs hp2w) (And.intro ((hs.block p (Array.getElem?_eq_some_iff.1 hx).1 (by omega)).trans hx) (And.intro (hgv.newer hs (by omega)) hq2)))
  clear hx hgv hSS hS hs hq hq2 HS2 HK c0
  go_upto_region 3 with fail
  rw [← hx1]
  clear hx1 d0 f0
  have c0 := HS3.out.2.2.1.cell
  have HK := Lib.hid (rdint_calls hR)
  rw [← hn2.out] at HK
  clear hR
  go_wp2_with fail
  refine (HK.out).mono ?_
  rintro e v2 ⟨rfl, hR, hS⟩
  have hx := (hS.block p (Array.getElem?_eq_some_iff.1 HS3.out.2.1).1 hpb).trans HS3.out.2.1
  have hgv : RdVar v2 g b := HS3.out.2.2.1.save hS hgb
  have hSS := HS3.out.1.trans hS
  have hq := (hS.block p2 (Array.getElem?_eq_some_iff.1 HS3.out.2.2.2).1 (by omega)).trans HS3.out.2.2.2
  have d0 := cells_of hq 2 rfl
  have f0 := frozen_no hq 2
  obtain ⟨x2, hx2⟩ : ∃ x, x = v2.setCell ⟨p2, 2, none⟩ (.int .i64 n2) := ⟨_, rfl⟩
  have hs : Save (· ≠ p2) v2 x2 := by rw [hx2]; exact Save.set
  have hq2 : x2.heap[p2]? = some (.cells #[.int .i64 n0, .int .i64 n1, .int .i64 n2, .bool false, .slice none 0 0] 43 (0, 0)) := by rw [hx2]; exact setCell_blk _ hq
  have hR := hR.newer hs (Nat.le_trans htop hp2w) (by omega)
  have HS4 := Lib.hid (And.intro (save_newer hSS hs hp2w) (And.intro ((hs.block p (Array.getElem?_eq_some_iff.1 hx).1 (by omega)).trans hx) (And.intro (hgv.newer hs (by omega)) hq2)))
  clear hx hgv hSS hS hs hq hq2 HS3 HK c0
  go_upto_region 4 with fail
  rw [← hx2]
  clear hx2 d0 f0
  have c0 := HS4.out.2.2.1.cell
  have HK := Lib.hid (rdflag_calls hR)
  rw [← hn3.out] at HK
  clear hR
  go_wp2_with fail
  refine (HK.out).mono ?_
  rintro e v3 ⟨rfl, hR, hS⟩
  have hx := (hS.block p (Array.getElem?_eq_some_iff.1 HS4.out.2.1).1 hpb).trans HS4.out.2.1
  have hgv : RdVar v3 g b := HS4.out.2.2.1.save hS hgb
  have hSS := HS4.out.1.trans hS
  have hq := (hS.block p2 (Array.getElem?_eq_some_iff.1 HS4.out.2.2.2).1 (by omega)).trans HS4.out.2.2.2
  have d0 := cells_of hq 3 rfl
  have f0 := frozen_no hq 3
  obtain ⟨x3, hx3⟩ : ∃ x, x = v3.setCell ⟨p2, 3, none⟩ (.bool n3) := ⟨_, rfl⟩
  have hs : Save (· ≠ p2) v3 x3 := by rw [hx3]; exact Save.set
  have hq2 : x3.heap[p2]? = some (.cells #[.int .i64 n0, .int .i64 n1, .int .i64 n2, .bool n3, .slice none 0 0] 43 (0, 0)) := by rw [hx3]; exact setCell_blk _ hq
  have hR := hR.newer hs (Nat.le_trans htop hp2w) (by omega)
  have HS5 := Lib.hid (And.intro (save_newer hSS hs hp2w) (And.intro ((hs.block p (Array.getElem?_eq_some_iff.1 hx).1 (by omega)).trans hx) (And.intro (hgv.newer hs (by omega)) hq2)))
  clear hx hgv hSS hS hs hq hq2 HS4 HK c0
  go_upto_region 5 with fail
  rw [← hx3]
  clear hx3 d0 f0
  have c0 := HS5.out.2.2.1.cell
  have HK := Lib.hid (rdbytes_calls hR)
  clear hR
  go_wp2_with fail
  refine (HK.out).mono ?_
  rintro e v4 ⟨aY, Y, cY, HY, rfl, hM, hR, hS⟩
  have hx := (hS.block p (Array.getElem?_eq_some_iff.1 HS5.out.2.1).1 hpb).trans HS5.out.2.1
  have hgv : RdVar v4 g b := HS5.out.2.2.1.save hS hgb
  have hSS := HS5.out.1.trans hS
  have hq := (hS.block p2 (Array.getElem?_eq_some_iff.1 HS5.out.2.2.2).1 (by omega)).trans HS5.out.2.2.2
  have d0 := cells_of hq 4 rfl
  have f0 := frozen_no hq 4
  obtain ⟨x4, hx4⟩ : ∃ x, x = v4.setCell ⟨p2, 4, none⟩ (.slice aY Y.length cY) := ⟨_, rfl⟩
  have hs : Save (· ≠ p2) v4 x4 := by rw [hx4]; exact Save.set
  have hq2 : x4.heap[p2]? = some (.cells #[.int .i64 n0, .int .i64 n1, .int .i64 n2, .bool n3, .slice aY Y.length cY] 43 (0, 0)) := by rw [hx4]; exact setCell_blk _ hq
  have hR := hR.newer hs (Nat.le_trans htop hp2w) (by omega)
  have HS6 := Lib.hid (And.intro (save_newer hSS hs hp2w) (And.intro ((hs.block p (Array.getElem?_eq_some_iff.1 hx).1 (by omega)).trans hx) (And.intro (hgv.newer hs (by omega)) hq2)))
  have HM : Hid (Row x4 aY Y cY ∧ (Y ≠ [] → ∀ g, blk aY = some g → p2 < g)) := by
    have hnew : ∀ g, blk aY = some g → p2 < g := fun g hg => by have := hM.new g hg; have := (Array.getElem?_eq_some_iff.1 HS5.out.2.2.2).1; omega
    exact ⟨hM.row.save hs (fun g hg => by have := hnew g hg; omega), fun _ => hnew⟩
  clear hM
  clear hx hgv hSS hS hs hq hq2 HS5 HK c0
  have HR := Lib.hid hR
  clear hR
  go_upto_region 6 with fail
  rw [← hx4]
  clear hx4 d0 f0
  have e0 := cells_of HS6.out.2.2.2 0 rfl
  have e1 := cells_of HS6.out.2.2.2 1 rfl
  have e2 := cells_of HS6.out.2.2.2 2 rfl
  have e3 := cells_of HS6.out.2.2.2 3 rfl
  have e4 := cells_of HS6.out.2.2.2 4 rfl
  go_wp2_with ((with_reducible refine wpList_storeB (o := ⟨none, .store _ (.tmp 1) _, _, _, _, _⟩) rowP (.tmp 1) (.tmp 20) (by with_unfolding_all rfl) (by with_unfolding_all rfl) (by with_unfolding_all rfl) (by with_unfolding_all rfl) (by with_unfolding_all rfl) HS6.out.2.1 (by with_unfolding_all rfl) (by with_unfolding_all rfl) (by with_unfolding_all rfl) ?_); intro w9 hg9 hs9)
  refine bodyPost_ret (resB1 rowP rfl (by rfl) hg9 rfl) rfl ⟨⟨⟨n0, ?_⟩, ⟨⟨n1, ?_⟩, ⟨n2, ?_⟩⟩, n3, aY, Y, cY⟩, rfl, ?_, HM.out.1.save' hs9 (fun h g hg => by have := HM.out.2 h g hg; have := HPQ.out; have := HPP.out; omega), (fun h g hg => Nat.le_trans hp2w (Nat.le_of_lt (HM.out.2 h g hg))), HR.out.newer hs9 (Nat.le_trans htop hpw) (by omega), save_newer HS6.out.1 hs9 hpw⟩
  · rw [hn0.out]; exact s.int.1.2
  · rw [hn1.out]; exact s.int.2.int.1.2
  · rw [hn2.out]; exact s.int.2.int.2.int.1.2
  · simp only [PtV.pt, readPt, Pt.mk.injEq, Reg.mk.injEq]
    exact ⟨Subtype.ext hn0.out, ⟨Subtype.ext hn1.out, Subtype.ext hn2.out⟩, hn3.out, HY.out⟩
set_option maxRecDepth 100000 in
set_option maxHeartbeats 8000000 in
theorem pac_calls {base top w b s} (h : RdAt base top w b s) (htop : top ≤ w.heap.size) (g : Nat) (hg : RdVar w g b) : Calls Try.prog 112 (#[] ++ #[.pointer (some ⟨g, 0, none⟩)]) w fun e w' => e = .returned (.agg (cA5 (readCh s).1)) ∧ RdAt base top w' b (readCh s).2 ∧ Save (· ≠ b) w w' := by
  show Calls Try.prog 112 #[.pointer (some ⟨g, 0, none⟩)] w _
  have hgb := hg.ne h
  have hglt := hg.lt
  have hblt := h.lt
  obtain ⟨w1, hw1⟩ : ∃ w1, w1 = w.alloc (.cells #[.int .i64 0, .int .i64 0, .int .i64 0, .int .i64 0, .int .i64 0] 54) := ⟨_, rfl⟩
  obtain ⟨p, hp⟩ : ∃ p, p = w.heap.size := ⟨_, rfl⟩
  have hb1 : Below w.heap.size w w1 := by rw [hw1]; exact (Below.refl _ w).alloc (Nat.le_refl _) _
  have hx : w1.heap[p]? = some (.cells #[.int .i64 0, .int .i64 0, .int .i64 0, .int .i64 0, .int .i64 0] 54 (0, 0)) := by rw [hw1, hp]; exact heap_alloc_new _ _
  have hpb : p ≠ b := by omega
  have hpw : w.heap.size ≤ p := by omega
  have hg1 : RdVar w1 g b := blk_stay hg hb1
  have hR := h.stay hb1
  have HS1 := Lib.hid (And.intro (Save.of (S := (· ≠ b)) hb1) (And.intro hx hg1))
  clear h hg hb1 hx hg1
  go_enter Try.func112, Try.ntmps112
  go_upto_region 1 with fail
  rw [← hw1, ← hp]
  have HPP := Lib.hid hp
  clear hw1 hp
  obtain ⟨n0, hn0⟩ : ∃ n, Hid (n = (s).int.1.1) := ⟨_, rfl⟩
  obtain ⟨n1, hn1⟩ : ∃ n, Hid (n = ((s).int.2).int.1.1) := ⟨_, rfl⟩
  obtain ⟨n2, hn2⟩ : ∃ n, Hid (n = (((s).int.2).int.2).int.1.1) := ⟨_, rfl⟩
  obtain ⟨n3, hn3⟩ : ∃ n, Hid (n = ((((s).int.2).int.2).int.2).int.1.1) := ⟨_, rfl⟩
  obtain ⟨n4, hn4⟩ : ∃ n, Hid (n = (((((s).int.2).int.2).int.2).int.2).int.1.1) := ⟨_, rfl⟩
  have c0 := HS1.out.2.2.cell
  have HK := Lib.hid (rdint_calls hR)
  rw [← hn0.out] at HK
  clear hR
  go_wp2_with fail
  refine (HK.out).mono ?_
  rintro e v0 ⟨rfl, hR, hS⟩
  have hx := (hS.block p (Array.getElem?_eq_some_iff.1 HS1.out.2.1).1 hpb).trans HS1.out.2.1
  have hgv : RdVar v0 g b := HS1.out.2.2.save hS hgb
  have hSS := HS1.out.1.trans hS
  obtain ⟨p2, hp2⟩ : ∃ p2, p2 = v0.heap.size := ⟨_, rfl⟩
  obtain ⟨x0, hx0⟩ : ∃ x0, x0 = v0.alloc (.cells #[.int .i64 n0, .int .i64 0, .int .i64 0, .int .i64 0, .int .i64 0] 54) := ⟨_, rfl⟩
  have hb0 : Below v0.heap.size v0 x0 := by rw [hx0]; exact (Below.refl _ _).alloc (Nat.le_refl _) _
  have hq : x0.heap[p2]? = some (.cells #[.int .i64 n0, .int .i64 0, .int .i64 0, .int .i64 0, .int .i64 0] 54 (0, 0)) := by rw [hx0, hp2]; exact heap_alloc_new _ _
  have hp2w : w.heap.size ≤ p2 := by rw [hp2]; exact hSS.size
  have hp2p : p2 ≠ p := by have := (Array.getElem?_eq_some_iff.1 hx).1; omega
  have hR := hR.stay hb0
  have HS2 := Lib.hid (And.intro (hSS.trans (Save.of hb0)) (And.intro (blk_stay hx hb0) (And.intro (show RdVar x0 g b from blk_stay hgv hb0) hq)))
  clear hx hgv hSS hS hb0 hq HS1 HK c0
  go_upto_region 2 with fail
  rw [← hx0, ← hp2]
  have HPQ := Lib.hid hp2
  clear hx0 hp2
  have c0 := HS2.out.2.2.1.cell
  have HK := Lib.hid (rdint_calls hR)
  rw [← hn1.out] at HK
  clear hR
  go_wp2_with fail
  refine (HK.out).mono ?_
  rintro e v1 ⟨rfl, hR, hS⟩
  have hx := (hS.block p (Array.getElem?_eq_some_iff.1 HS2.out.2.1).1 hpb).trans HS2.out.2.1
  have hgv : RdVar v1 g b := HS2.out.2.2.1.save hS hgb
  have hSS := HS2.out.1.trans hS
  have hq := (hS.block p2 (Array.getElem?_eq_some_iff.1 HS2.out.2.2.2).1 (by omega)).trans HS2.out.2.2.2
  have d0 := cells_of hq 1 rfl
  have f0 := frozen_no hq 1
  obtain ⟨x1, hx1⟩ : ∃ x, x = v1.setCell ⟨p2, 1, none⟩ (.int .i64 n1) := ⟨_, rfl⟩
  have hs : Save (· ≠ p2) v1 x1 := by rw [hx1]; exact Save.set
  have hq2 : x1.heap[p2]? = some (.cells #[.int .i64 n0, .int .i64 n1, .int .i64 0, .int .i64 0, .int .i64 0] 54 (0, 0)) := by rw [hx1]; exact setCell_blk _ hq
  have hR := hR.newer hs (Nat.le_trans htop hp2w) (by omega)
  have HS3 := Lib.hid (And.intro (save_newer hSS hs hp2w) (And.intro ((hs.block p (Array.getElem?_eq_some_iff.1 hx).1 (by omega)).trans hx) (And.intro (hgv.newer hs (by omega)) hq2)))
  clear hx hgv hSS hS hs hq hq2 HS2 HK c0
  go_upto_region 3 with fail
  rw [← hx1]
  clear hx1 d0 f0
  have c0 := HS3.out.2.2.1.cell
  have HK := Lib.hid (rdint_calls hR)
  rw [← hn2.out] at HK
  clear hR
  go_wp2_with fail
  refine (HK.out).mono ?_
  rintro e v2 ⟨rfl, hR, hS⟩
  have hx := (hS.block p (Array.getElem?_eq_some_iff.1 HS3.out.2.1).1 hpb).trans HS3.out.2.1
  have hgv : RdVar v2 g b := HS3.out.2.2.1.save hS hgb
  have hSS := HS3.out.1.trans hS
  have hq := (hS.block p2 (Array.getElem?_eq_some_iff.1 HS3.out.2.2.2).1 (by omega)).trans HS3.out.2.2.2
  have d0 := cells_of hq 2 rfl
  have f0 := frozen_no hq 2
  obtain ⟨x2, hx2⟩ : ∃ x, x = v2.setCell ⟨p2, 2, none⟩ (.int .i64 n2) := ⟨_, rfl⟩
  have hs : Save (· ≠ p2) v2 x2 := by rw [hx2]; exact Save.set
  have hq2 : x2.heap[p2]? = some (.cells #[.int .i64 n0, .int .i64 n1, .int .i64 n2, .int .i64 0, .int .i64 0] 54 (0, 0)) := by rw [hx2]; exact setCell_blk _ hq
  have hR := hR.newer hs (Nat.le_trans htop hp2w) (by omega)
  have HS4 := Lib.hid (And.intro (save_newer hSS hs hp2w) (And.intro ((hs.block p (Array.getElem?_eq_some_iff.1 hx).1 (by omega)).trans hx) (And.intro (hgv.newer hs (by omega)) hq2)))
  clear hx hgv hSS hS hs hq hq2 HS3 HK c0
  go_upto_region 4 with fail
  rw [← hx2]
  clear hx2 d0 f0
  have c0 := HS4.out.2.2.1.cell
  have HK := Lib.hid (rdint_calls hR)
  rw [← hn3.out] at HK
  clear hR
  go_wp2_with fail
  refine (HK.out).mono ?_
  rintro e v3 ⟨rfl, hR, hS⟩
  have hx := (hS.block p (Array.getElem?_eq_some_iff.1 HS4.out.2.1).1 hpb).trans HS4.out.2.1
  have hgv : RdVar v3 g b := HS4.out.2.2.1.save hS hgb
  have hSS := HS4.out.1.trans hS
  have hq := (hS.block p2 (Array.getElem?_eq_some_iff.1 HS4.out.2.2.2).1 (by omega)).trans HS4.out.2.2.2
  have d0 := cells_of hq 3 rfl
  have f0 := frozen_no hq 3
  obtain ⟨x3, hx3⟩ : ∃ x, x = v3.setCell ⟨p2, 3, none⟩ (.int .i64 n3) := ⟨_, rfl⟩
  have hs : Save (· ≠ p2) v3 x3 := by rw [hx3]; exact Save.set
  have hq2 : x3.heap[p2]? = some (.cells #[.int .i64 n0, .int .i64 n1, .int .i64 n2, .int .i64 n3, .int .i64 0] 54 (0, 0)) := by rw [hx3]; exact setCell_blk _ hq
  have hR := hR.newer hs (Nat.le_trans htop hp2w) (by omega)
  have HS5 := Lib.hid (And.intro (save_newer hSS hs hp2w) (And.intro ((hs.block p (Array.getElem?_eq_some_iff.1 hx).1 (by omega)).trans hx) (And.intro (hgv.newer hs (by omega)) hq2)))
  clear hx hgv hSS hS hs hq hq2 HS4 HK c0
  go_upto_region 5 with fail
  rw [← hx3]
  clear hx3 d0 f0
  have c0 := HS5.out.2.2.1.cell
  have HK := Lib.hid (rdint_calls hR)
  rw [← hn4.out] at HK
  clear hR
  go_wp2_with fail
  refine (HK.out).mono ?_
  rintro e v4 ⟨rfl, hR, hS⟩
  have hx := (hS.block p (Array.getElem?_eq_some_iff.1 HS5.out.2.1).1 hpb).trans HS5.out.2.1
  have hgv : RdVar v4 g b := HS5.out.2.2.1.save hS hgb
  have hSS := HS5.out.1.trans hS
  have hq := (hS.block p2 (Array.getElem?_eq_some_iff.1 HS5.out.2.2.2).1 (by omega)).trans HS5.out.2.2.2
  have d0 := cells_of hq 4 rfl
  have f0 := frozen_no hq 4
  obtain ⟨x4, hx4⟩ : ∃ x, x = v4.setCell ⟨p2, 4, none⟩ (.int .i64 n4) := ⟨_, rfl⟩
  have hs : Save (· ≠ p2) v4 x4 := by rw [hx4]; exact Save.set
  have hq2 : x4.heap[p2]? = some (.cells #[.int .i64 n0, .int .i64 n1, .int .i64 n2, .int .i64 n3, .int .i64 n4] 54 (0, 0)) := by rw [hx4]; exact setCell_blk _ hq
  have hR := hR.newer hs (Nat.le_trans htop hp2w) (by omega)
  have HS6 := Lib.hid (And.intro (save_newer hSS hs hp2w) (And.intro ((hs.block p (Array.getElem?_eq_some_iff.1 hx).1 (by omega)).trans hx) (And.intro (hgv.newer hs (by omega)) hq2)))
  clear hx hgv hSS hS hs hq hq2 HS5 HK c0
  have HR := Lib.hid hR
  clear hR
  go_upto_region 6 with fail
  rw [← hx4]
  clear hx4 d0 f0
  have e0 := cells_of HS6.out.2.2.2 0 rfl
  have e1 := cells_of HS6.out.2.2.2 1 rfl
  have e2 := cells_of HS6.out.2.2.2 2 rfl
  have e3 := cells_of HS6.out.2.2.2 3 rfl
  have e4 := cells_of HS6.out.2.2.2 4 rfl
  go_wp2_with ((with_reducible refine wpList_storeB (o := ⟨none, .store _ (.tmp 1) _, _, _, _, _⟩) rowCh (.tmp 1) (.tmp 18) (by with_unfolding_all rfl) (by with_unfolding_all rfl) (by with_unfolding_all rfl) (by with_unfolding_all rfl) (by with_unfolding_all rfl) HS6.out.2.1 (by with_unfolding_all rfl) (by with_unfolding_all rfl) (by with_unfolding_all rfl) ?_); intro w9 hg9 hs9)
  refine bodyPost_ret (resB1 rowCh rfl (by rfl) hg9 rfl) rfl ⟨by rw [hn0.out, hn1.out, hn2.out, hn3.out, hn4.out]; rfl, HR.out.newer hs9 (Nat.le_trans htop hpw) (by omega), save_newer HS6.out.1 hs9 hpw⟩
end Go.Proofs.Ytpnbaapjjchlbaa

/- config.read: walked, at the three types. -/
namespace Go.Proofs.Ytpnbaapjjchlbaa
open Go Go.RowKit Go.Cit

set_option maxRecDepth 100000 in
set_option maxHeartbeats 8000000 in
theorem readw_calls {base top w b s} (h : RdAt base top w b s) (htop : top ≤ w.heap.size) (g : Nat) (hg : RdVar w g b) (most : Int) (hm : 0 ≤ most ∧ most ≤ 100) : Calls Try.prog 104 #[.pointer (some ⟨b, 0, none⟩), .int .i64 most, .func (.func 105) #[] #[.pointer (some ⟨g, 0, none⟩)]] w fun e w' => ∃ a c, e = .returned (.slice a (readL readWin most s).1.length c) ∧ VOwn cWin 2 52 w.heap.size w' a (readL readWin most s).1 c ∧ RdAt base top w' b (readL readWin most s).2 ∧ Save (· ≠ b) w w' := by
  have hgb := hg.ne h
  have hglt := hg.lt
  have hblt := h.lt
  obtain ⟨n, hn⟩ : ∃ n : Nat, Hid ((s.count most).1 = (n : Int)) := ⟨(s.count most).1.toNat, by have := (count_range s most hm.1).1; rw [Hid]; omega⟩
  have hn9 : n ≤ 100 := by have := (count_range s most hm.1).2; have := hn.out; omega
  obtain ⟨s1, hs1⟩ : ∃ s1, Hid (s1 = (s.count most).2) := ⟨_, rfl⟩
  have hk := rdcount_calls h most
  rw [hn.out, ← hs1.out] at hk
  have HK := Lib.hid hk
  have HG := Lib.hid hg
  have HRD : Hid (readL readWin most s = readN readWin n s1) := by rw [Hid, readL, hn.out, hs1.out]; rfl
  rw [HRD.out]
  clear h hg hk
  go_enter Try.func104, Try.ntmps104
  go_wp2_with fail
  refine (HK.out).mono ?_
  rintro e w1 ⟨rfl, hR, hS⟩
  have HS1 := Lib.hid (And.intro hR (And.intro (HG.out.save hS hgb) hS))
  clear hR hS HK
  go_wp2_with fail
  go_loopw [7, 11] (fun v i wr => ∃ (k : Nat) (a : Option Addr) (L : List Win) (c : Nat), v = .slice a L.length c ∧ i = .int .i64 (k : Int) ∧ k ≤ n ∧ Hid (L = (readN readWin k s1).1) ∧ VOwn cWin 2 52 w.heap.size wr a L c ∧ RdAt base top wr b (readN readWin k s1).2 ∧ RdVar wr g b ∧ Save (· ≠ b) w wr) (fun _ i _ => n - (intOf i).toNat)
  case atStart => exact ⟨0, none, [], 0, rfl, rfl, Nat.zero_le _, rfl, VOwn.nil_ _ _ _ _ _, HS1.out.1, HS1.out.2.1, HS1.out.2.2⟩
  case round =>
    obtain ⟨k, a, L, c, rfl, rfl, hk, HL, hO, hR, hgv, hS⟩ := hrel
    by_cases hlt : k < n
    · obtain ⟨s2, hs2⟩ : ∃ s2, Hid (s2 = (readN readWin k s1).2) := ⟨_, rfl⟩
      rw [← hs2.out] at hR
      have HKC := Lib.hid (paw_calls hR (Nat.le_trans htop hS.size) g hgv)
      have HL9 : Hid (L.length ≤ 100) := by
        have := readN_len readWin k s1
        have h2 := HL.out
        rw [Hid]
        rw [← h2] at this; omega
      have HW := Lib.hid (And.intro hO (And.intro hgv hS))
      clear hO hR hgv hS
      go_wp2_with fail
      refine (HKC.out).mono ?_
      rintro e w5 ⟨rfl, hR5, hS5⟩
      have hO5 := HW.out.1.save hS5 (fun g' hg' => by have := (HW.out.1.blk_ge hg').1; omega)
      have HW5 := Lib.hid (And.intro hO5 (And.intro hR5 (And.intro (HW.out.2.1.save hS5 hgb) (HW.out.2.2.trans hS5))))
      have hsz : w.heap.size ≤ w5.heap.size := Nat.le_trans HW.out.2.2.size hS5.size
      clear hO5 hR5 hS5 HKC
      go_wp2_with (first
        | ((with_reducible refine wpList_value (o := ⟨some 16, .buildSlice _ _ _, _, _, _, _⟩) (by with_unfolding_all rfl) (build1c etW (.tmp 15) (.agg (#[.int .i64 (readWin s2).1.len.1, .int .i64 (readWin s2).1.part.1])) (#[.int .i64 (readWin s2).1.len.1, .int .i64 (readWin s2).1.part.1]) rfl (by with_unfolding_all rfl) (by with_unfolding_all rfl) (by with_unfolding_all rfl) (by decide) _) ?_))
        | ((with_reducible refine wpList_vapp1 (o := ⟨some 17, .call _, _, _, _, _⟩) etW cWin_len cWin_one (y := (readWin s2).1) (.tmp 13) (.tmp 16) (by with_unfolding_all rfl) (by with_unfolding_all rfl) HW5.out.1 (by with_unfolding_all rfl) (by have := HL9.out; omega) hsz (by with_unfolding_all rfl) (by with_unfolding_all rfl) ?_); intro a4 k4 w6 hO4 hg4 hn4; have HO4 := Lib.hid (And.intro hO4 (And.intro hg4 hn4)); clear hO4 hg4 hn4))
      have hB6 := HW5.out.1.grown HO4.out.2.1 hsz
      have hs6 : Save (· < w.heap.size) w5 w6 := ⟨hB6.os, hB6.tape, hB6.output, hB6.size, fun j _ hj => hB6.block j hj⟩
      have HN : Hid (L ++ [(readWin s2).1] = (readN readWin (k + 1) s1).1) := by rw [Hid, HL.out, readN, ← hs2.out]
      go_roundw
      case rel => exact ⟨k + 1, a4, L ++ [(readWin s2).1], k4, by simp, by go_num, by omega, HN.out, HO4.out.1, by rw [readN, ← hs2.out]; exact HW5.out.2.1.save hs6 hblt (fun g hg ht => by omega), (hs6.block g (Array.getElem?_eq_some_iff.1 HW5.out.2.2.1).1 hglt).trans HW5.out.2.2.1, ⟨hB6.os.trans HW5.out.2.2.2.os, hB6.tape.trans HW5.out.2.2.2.tape, hB6.output.trans HW5.out.2.2.2.output, Nat.le_trans HW5.out.2.2.2.size hB6.size, fun j hj hs => (hB6.block j hj).trans (HW5.out.2.2.2.block j hj hs)⟩⟩
      case measure => simp [intOf]; omega
    · have hk2 : k = n := by omega
      have HF := Lib.hid (And.intro hO (And.intro hR (And.intro hgv hS)))
      clear hO hR hgv hS
      subst hk2
      go_wp2_with fail
      go_ret
      exact ⟨a, c, by rw [← HL.out]; rfl, by rw [← HL.out]; exact HF.out.1, HF.out.2.1, HF.out.2.2.2⟩
set_option maxRecDepth 100000 in
set_option maxHeartbeats 8000000 in
theorem readp_calls {base top w b s} (h : RdAt base top w b s) (htop : top ≤ w.heap.size) (g : Nat) (hg : RdVar w g b) (most : Int) (hm : 0 ≤ most ∧ most ≤ 100) : Calls Try.prog 107 #[.pointer (some ⟨b, 0, none⟩), .int .i64 most, .func (.func 108) #[] #[.pointer (some ⟨g, 0, none⟩)]] w fun e w' => ∃ a c, ∃ L : List PtV, e = .returned (.slice a L.length c) ∧ L.map PtV.pt = (readL readPt most s).1 ∧ VOwn cPt 5 43 w.heap.size w' a L c ∧ (∀ x ∈ L, Row w' x.a x.img x.c ∧ (x.img ≠ [] → ∀ g, blk x.a = some g → w.heap.size ≤ g ∧ blk a ≠ some g)) ∧ RdAt base top w' b (readL readPt most s).2 ∧ Save (· ≠ b) w w' := by
  have hgb := hg.ne h
  have hglt := hg.lt
  have hblt := h.lt
  obtain ⟨n, hn⟩ : ∃ n : Nat, Hid ((s.count most).1 = (n : Int)) := ⟨(s.count most).1.toNat, by have := (count_range s most hm.1).1; rw [Hid]; omega⟩
  have hn9 : n ≤ 100 := by have := (count_range s most hm.1).2; have := hn.out; omega
  obtain ⟨s1, hs1⟩ : ∃ s1, Hid (s1 = (s.count most).2) := ⟨_, rfl⟩
  have hk := rdcount_calls h most
  rw [hn.out, ← hs1.out] at hk
  have HK := Lib.hid hk
  have HG := Lib.hid hg
  have HRD : Hid (readL readPt most s = readN readPt n s1) := by rw [Hid, readL, hn.out, hs1.out]; rfl
  rw [HRD.out]
  clear h hg hk
  go_enter Try.func107, Try.ntmps107
  go_wp2_with fail
  refine (HK.out).mono ?_
  rintro e w1 ⟨rfl, hR, hS⟩
  have HS1 := Lib.hid (And.intro hR (And.intro (HG.out.save hS hgb) hS))
  clear hR hS HK
  go_wp2_with fail
  go_loopw [7, 11] (fun v i wr => ∃ (k : Nat) (a : Option Addr) (L : List PtV) (c : Nat), v = .slice a L.length c ∧ i = .int .i64 (k : Int) ∧ k ≤ n ∧ Hid (L.map PtV.pt = (readN readPt k s1).1) ∧ VOwn cPt 5 43 w.heap.size wr a L c ∧ (∀ x ∈ L, Row wr x.a x.img x.c ∧ (x.img ≠ [] → ∀ g, blk x.a = some g → w.heap.size ≤ g ∧ blk a ≠ some g)) ∧ RdAt base top wr b (readN readPt k s1).2 ∧ RdVar wr g b ∧ Save (· ≠ b) w wr) (fun _ i _ => n - (intOf i).toNat)
  case atStart => exact ⟨0, none, [], 0, rfl, rfl, Nat.zero_le _, rfl, VOwn.nil_ _ _ _ _ _, fun x hx => by simp at hx, HS1.out.1, HS1.out.2.1, HS1.out.2.2⟩
  case round =>
    obtain ⟨k, a, L, c, rfl, rfl, hk, HL, hO, hIm, hR, hgv, hS⟩ := hrel
    by_cases hlt : k < n
    · obtain ⟨s2, hs2⟩ : ∃ s2, Hid (s2 = (readN readPt k s1).2) := ⟨_, rfl⟩
      rw [← hs2.out] at hR
      have HKC := Lib.hid (pap_calls hR (Nat.le_trans htop hS.size) g hgv)
      have HL9 : Hid (L.length ≤ 100) := by
        have := readN_len readPt k s1
        have h2 := HL.out
        rw [Hid]
        rw [← h2, List.length_map] at this; omega
      have HW := Lib.hid (And.intro hO (And.intro hgv hS))
      have HIM := Lib.hid hIm
      clear hO hR hgv hS hIm
      go_wp2_with fail
      refine (HKC.out).mono ?_
      rintro e w5 ⟨x, rfl, hx, hrow, hnew, hR5, hS5⟩
      have hO5 := HW.out.1.save hS5 (fun g' hg' => by have := (HW.out.1.blk_ge hg').1; omega)
      have HW5 := Lib.hid (And.intro hO5 (And.intro hR5 (And.intro (HW.out.2.1.save hS5 hgb) (HW.out.2.2.trans hS5))))
      have hsz : w.heap.size ≤ w5.heap.size := Nat.le_trans HW.out.2.2.size hS5.size
      have HX := Lib.hid (And.intro hx (And.intro hrow (And.intro hnew hS5)))
      clear hx hrow hnew
      clear hO5 hR5 hS5 HKC
      go_wp2_with (first
        | ((with_reducible refine wpList_value (o := ⟨some 16, .buildSlice _ _ _, _, _, _, _⟩) (by with_unfolding_all rfl) (build1c etP (.tmp 15) (.agg (cA x)) (cA x) rfl (by with_unfolding_all rfl) (by with_unfolding_all rfl) (by with_unfolding_all rfl) (by decide) _) ?_))
        | ((with_reducible refine wpList_vapp1 (o := ⟨some 17, .call _, _, _, _, _⟩) etP cPt_len cPt_one (y := x) (.tmp 13) (.tmp 16) (by with_unfolding_all rfl) (by with_unfolding_all rfl) HW5.out.1 (by with_unfolding_all rfl) (by have := HL9.out; omega) hsz (by with_unfolding_all rfl) (by with_unfolding_all rfl) ?_); intro a4 k4 w6 hO4 hg4 hn4; have HO4 := Lib.hid (And.intro hO4 (And.intro hg4 hn4)); clear hO4 hg4 hn4))
      have hB6 := HW5.out.1.grown HO4.out.2.1 hsz
      have hs6 : Save (· < w.heap.size) w5 w6 := ⟨hB6.os, hB6.tape, hB6.output, hB6.size, fun j _ hj => hB6.block j hj⟩
      have HN : Hid ((L ++ [x]).map PtV.pt = (readN readPt (k + 1) s1).1) := by rw [Hid, List.map_append, HL.out, readN, ← hs2.out, List.map_cons, List.map_nil, HX.out.1]
      have HIM2 : Hid (∀ y ∈ L ++ [x], Row w6 y.a y.img y.c ∧ (y.img ≠ [] → ∀ g, blk y.a = some g → w.heap.size ≤ g ∧ blk a4 ≠ some g)) := fun y hy => by
        have hrow5 : Row w5 y.a y.img y.c ∧ (y.img ≠ [] → ∀ g, blk y.a = some g → w.heap.size ≤ g ∧ blk a ≠ some g) := by
          rcases List.mem_append.1 hy with hy | hy
          · have hyy := HIM.out y hy
            exact ⟨hyy.1.save' HX.out.2.2.2 (fun h g' hg' => by have := (hyy.2 h g' hg').1; omega), hyy.2⟩
          · obtain rfl : y = x := by simpa using hy
            refine ⟨HX.out.2.1, fun h g' hg' => ?_⟩
            have h1 := HX.out.2.2.1 h g' hg'
            refine ⟨Nat.le_trans HW.out.2.2.size h1, fun e => ?_⟩
            have := (HW.out.1.blk_ge e).2
            omega
        refine ⟨hrow5.1.save' (Save.grown HO4.out.2.1) (fun h g' hg' e => (hrow5.2 h g' hg').2 e.symm), fun h g' hg' => ⟨(hrow5.2 h g' hg').1, fun e => ?_⟩⟩
        rcases HO4.out.2.2 g' e with h1 | h1
        · exact (hrow5.2 h g' hg').2 h1
        · obtain ⟨g2, off, e2⟩ := hrow5.1.spot h
          have h2 := hrow5.1.cell 0 (List.length_pos_iff.2 h)
          have h3 := World.block_lt_of_cell? w5 _ h2
          rw [e2] at hg' h3
          simp [blk] at hg'
          simp [ad] at h3
          omega
      go_roundw
      case rel => exact ⟨k + 1, a4, L ++ [x], k4, by simp, by go_num, by omega, HN.out, HO4.out.1, HIM2.out, by rw [readN, ← hs2.out]; exact HW5.out.2.1.save hs6 hblt (fun g hg ht => by omega), (hs6.block g (Array.getElem?_eq_some_iff.1 HW5.out.2.2.1).1 hglt).trans HW5.out.2.2.1, ⟨hB6.os.trans HW5.out.2.2.2.os, hB6.tape.trans HW5.out.2.2.2.tape, hB6.output.trans HW5.out.2.2.2.output, Nat.le_trans HW5.out.2.2.2.size hB6.size, fun j hj hs => (hB6.block j hj).trans (HW5.out.2.2.2.block j hj hs)⟩⟩
      case measure => simp [intOf]; omega
    · have hk2 : k = n := by omega
      have HF := Lib.hid (And.intro hO (And.intro hR (And.intro hgv hS)))
      have HIM := Lib.hid hIm
      clear hO hR hgv hS hIm
      subst hk2
      go_wp2_with fail
      go_ret
      exact ⟨a, c, L, rfl, HL.out, HF.out.1, HIM.out, HF.out.2.1, HF.out.2.2.2⟩
set_option maxRecDepth 100000 in
set_option maxHeartbeats 8000000 in
theorem readc_calls {base top w b s} (h : RdAt base top w b s) (htop : top ≤ w.heap.size) (g : Nat) (hg : RdVar w g b) (most : Int) (hm : 0 ≤ most ∧ most ≤ 100) : Calls Try.prog 111 #[.pointer (some ⟨b, 0, none⟩), .int .i64 most, .func (.func 112) #[] #[.pointer (some ⟨g, 0, none⟩)]] w fun e w' => ∃ a c, e = .returned (.slice a (readL readCh most s).1.length c) ∧ VOwn cCh 5 54 w.heap.size w' a (readL readCh most s).1 c ∧ RdAt base top w' b (readL readCh most s).2 ∧ Save (· ≠ b) w w' := by
  have hgb := hg.ne h
  have hglt := hg.lt
  have hblt := h.lt
  obtain ⟨n, hn⟩ : ∃ n : Nat, Hid ((s.count most).1 = (n : Int)) := ⟨(s.count most).1.toNat, by have := (count_range s most hm.1).1; rw [Hid]; omega⟩
  have hn9 : n ≤ 100 := by have := (count_range s most hm.1).2; have := hn.out; omega
  obtain ⟨s1, hs1⟩ : ∃ s1, Hid (s1 = (s.count most).2) := ⟨_, rfl⟩
  have hk := rdcount_calls h most
  rw [hn.out, ← hs1.out] at hk
  have HK := Lib.hid hk
  have HG := Lib.hid hg
  have HRD : Hid (readL readCh most s = readN readCh n s1) := by rw [Hid, readL, hn.out, hs1.out]; rfl
  rw [HRD.out]
  clear h hg hk
  go_enter Try.func111, Try.ntmps111
  go_wp2_with fail
  refine (HK.out).mono ?_
  rintro e w1 ⟨rfl, hR, hS⟩
  have HS1 := Lib.hid (And.intro hR (And.intro (HG.out.save hS hgb) hS))
  clear hR hS HK
  go_wp2_with fail
  go_loopw [7, 11] (fun v i wr => ∃ (k : Nat) (a : Option Addr) (L : List Ch) (c : Nat), v = .slice a L.length c ∧ i = .int .i64 (k : Int) ∧ k ≤ n ∧ Hid (L = (readN readCh k s1).1) ∧ VOwn cCh 5 54 w.heap.size wr a L c ∧ RdAt base top wr b (readN readCh k s1).2 ∧ RdVar wr g b ∧ Save (· ≠ b) w wr) (fun _ i _ => n - (intOf i).toNat)
  case atStart => exact ⟨0, none, [], 0, rfl, rfl, Nat.zero_le _, rfl, VOwn.nil_ _ _ _ _ _, HS1.out.1, HS1.out.2.1, HS1.out.2.2⟩
  case round =>
    obtain ⟨k, a, L, c, rfl, rfl, hk, HL, hO, hR, hgv, hS⟩ := hrel
    by_cases hlt : k < n
    · obtain ⟨s2, hs2⟩ : ∃ s2, Hid (s2 = (readN readCh k s1).2) := ⟨_, rfl⟩
      rw [← hs2.out] at hR
      have HKC := Lib.hid (pac_calls hR (Nat.le_trans htop hS.size) g hgv)
      have HL9 : Hid (L.length ≤ 100) := by
        have := readN_len readCh k s1
        have h2 := HL.out
        rw [Hid]
        rw [← h2] at this; omega
      have HW := Lib.hid (And.intro hO (And.intro hgv hS))
      clear hO hR hgv hS
      go_wp2_with fail
      refine (HKC.out).mono ?_
      rintro e w5 ⟨rfl, hR5, hS5⟩
      have hO5 := HW.out.1.save hS5 (fun g' hg' => by have := (HW.out.1.blk_ge hg').1; omega)
      have HW5 := Lib.hid (And.intro hO5 (And.intro hR5 (And.intro (HW.out.2.1.save hS5 hgb) (HW.out.2.2.trans hS5))))
      have hsz : w.heap.size ≤ w5.heap.size := Nat.le_trans HW.out.2.2.size hS5.size
      clear hO5 hR5 hS5 HKC
      go_wp2_with (first
        | ((with_reducible refine wpList_value (o := ⟨some 16, .buildSlice _ _ _, _, _, _, _⟩) (by with_unfolding_all rfl) (build1c etC (.tmp 15) (.agg (cA5 (readCh s2).1)) (cA5 (readCh s2).1) rfl (by with_unfolding_all rfl) (by with_unfolding_all rfl) (by with_unfolding_all rfl) (by decide) _) ?_))
        | ((with_reducible refine wpList_vapp1 (o := ⟨some 17, .call _, _, _, _, _⟩) etC cCh_len cCh_one (y := (readCh s2).1) (.tmp 13) (.tmp 16) (by with_unfolding_all rfl) (by with_unfolding_all rfl) HW5.out.1 (by with_unfolding_all rfl) (by have := HL9.out; omega) hsz (by with_unfolding_all rfl) (by with_unfolding_all rfl) ?_); intro a4 k4 w6 hO4 hg4 hn4; have HO4 := Lib.hid (And.intro hO4 (And.intro hg4 hn4)); clear hO4 hg4 hn4))
      have hB6 := HW5.out.1.grown HO4.out.2.1 hsz
      have hs6 : Save (· < w.heap.size) w5 w6 := ⟨hB6.os, hB6.tape, hB6.output, hB6.size, fun j _ hj => hB6.block j hj⟩
      have HN : Hid (L ++ [(readCh s2).1] = (readN readCh (k + 1) s1).1) := by rw [Hid, HL.out, readN, ← hs2.out]
      go_roundw
      case rel => exact ⟨k + 1, a4, L ++ [(readCh s2).1], k4, by simp, by go_num, by omega, HN.out, HO4.out.1, by rw [readN, ← hs2.out]; exact HW5.out.2.1.save hs6 hblt (fun g hg ht => by omega), (hs6.block g (Array.getElem?_eq_some_iff.1 HW5.out.2.2.1).1 hglt).trans HW5.out.2.2.1, ⟨hB6.os.trans HW5.out.2.2.2.os, hB6.tape.trans HW5.out.2.2.2.tape, hB6.output.trans HW5.out.2.2.2.output, Nat.le_trans HW5.out.2.2.2.size hB6.size, fun j hj hs => (hB6.block j hj).trans (HW5.out.2.2.2.block j hj hs)⟩⟩
      case measure => simp [intOf]; omega
    · have hk2 : k = n := by omega
      have HF := Lib.hid (And.intro hO (And.intro hR (And.intro hgv hS)))
      clear hO hR hgv hS
      subst hk2
      go_wp2_with fail
      go_ret
      exact ⟨a, c, by rw [← HL.out]; rfl, by rw [← HL.out]; exact HF.out.1, HF.out.2.1, HF.out.2.2.2⟩
end Go.Proofs.Ytpnbaapjjchlbaa

/- slices.Clone at windows, channels, partitions: walked. -/
namespace Go.Proofs.Ytpnbaapjjchlbaa
open Go Go.RowKit Go.Cit

theorem cbuild0p (ρ : Operand → Value) (o : Oper) (w : World) (h : o.op = .buildSlice 23 0 #[]) : (execOp ρ o).run Try.prog w = .ok (.value (.slice (some ⟨w.heap.size, 0, none⟩) 0 0)) (w.alloc (.cells #[] 43)) := by
  unfold execOp; rw [h]; kernel_rfl
set_option maxRecDepth 100000 in
theorem cloneW_calls (w : World) (a : Option Addr) (l : List Win) (c : Nat) (h : Vec cWin 2 w a l c) (hl : l.length ≤ 1000) :
    Calls Try.prog 125 #[.slice a l.length c] w fun e w' => ∃ a' c', e = .returned (.slice a' l.length c') ∧ VOwn cWin 2 52 w.heap.size w' a' l c' ∧ Below w.heap.size w w' := by
  cases a with
  | none =>
    have h0 := h.nil rfl
    have h1 := h.le
    obtain rfl : l = [] := List.eq_nil_of_length_eq_zero (by omega)
    subst h0
    show Calls Try.prog 125 #[.slice none 0 0] w _
    have hq := fun w : World => Lib.run_eql_slice_nil (P := Try.prog) w 22 52 none 0 0 0 0 Try.underlying22
    go_enter Try.func125, Try.ntmps125
    go_wp2_with fail
    go_ret
    exact ⟨none, 0, rfl, VOwn.nil_ _ _ _ _ _, Below.refl _ _⟩
  | some x =>
    have hq := fun w : World => Lib.run_eql_slice_nil (P := Try.prog) w 22 52 (some x) l.length c 0 0 Try.underlying22
    have B0 : Below w.heap.size w (w.alloc (.cells #[] 52)) := (Below.refl _ _).alloc (Nat.le_refl _) _
    have O0 := (vown_lit w #[] 52 2 ([] : List Win) cWin_len rfl (by simp))
    obtain ⟨a', c', w', hr, ho, hb⟩ := run_vapp0 etW cWin_len cWin_one 22 O0 (h.stay cWin_len B0) (by omega) B0.size
    have HR := Lib.hid hr
    have HO := Lib.hid (And.intro ho (B0.trans (hb.mono B0.size)))
    clear hr ho hb O0 B0 h
    go_enter Try.func125, Try.ntmps125
    go_wp2_with (first
      | ((with_reducible refine wpList_value (o := ⟨some 5, .buildSlice _ _ _, _, _, _, _⟩) (by with_unfolding_all rfl) (cbuild0 _ _ _ rfl) ?_))
      | ((with_reducible refine wpList_value (o := ⟨some 7, .call _, _, _, _, _⟩) (by with_unfolding_all rfl) (exec_append rfl (by with_unfolding_all rfl) (by with_unfolding_all rfl) HR.out) ?_)))
    go_ret
    exact ⟨a', c', rfl, HO.out.1, HO.out.2⟩
set_option maxRecDepth 100000 in
theorem cloneC_calls (w : World) (a : Option Addr) (l : List Ch) (c : Nat) (h : Vec cCh 5 w a l c) (hl : l.length ≤ 1000) :
    Calls Try.prog 126 #[.slice a l.length c] w fun e w' => ∃ a' c', e = .returned (.slice a' l.length c') ∧ VOwn cCh 5 54 w.heap.size w' a' l c' ∧ Below w.heap.size w w' := by
  cases a with
  | none =>
    have h0 := h.nil rfl
    have h1 := h.le
    obtain rfl : l = [] := List.eq_nil_of_length_eq_zero (by omega)
    subst h0
    show Calls Try.prog 126 #[.slice none 0 0] w _
    have hq := fun w : World => Lib.run_eql_slice_nil (P := Try.prog) w 24 54 none 0 0 0 0 Try.underlying24
    go_enter Try.func126, Try.ntmps126
    go_wp2_with fail
    go_ret
    exact ⟨none, 0, rfl, VOwn.nil_ _ _ _ _ _, Below.refl _ _⟩
  | some x =>
    have hq := fun w : World => Lib.run_eql_slice_nil (P := Try.prog) w 24 54 (some x) l.length c 0 0 Try.underlying24
    have B0 : Below w.heap.size w (w.alloc (.cells #[] 54)) := (Below.refl _ _).alloc (Nat.le_refl _) _
    have O0 := (vown_lit w #[] 54 5 ([] : List Ch) cCh_len rfl (by simp))
    obtain ⟨a', c', w', hr, ho, hb⟩ := run_vapp0 etC cCh_len cCh_one 24 O0 (h.stay cCh_len B0) (by omega) B0.size
    have HR := Lib.hid hr
    have HO := Lib.hid (And.intro ho (B0.trans (hb.mono B0.size)))
    clear hr ho hb O0 B0 h
    go_enter Try.func126, Try.ntmps126
    go_wp2_with (first
      | ((with_reducible refine wpList_value (o := ⟨some 5, .buildSlice _ _ _, _, _, _, _⟩) (by with_unfolding_all rfl) (cbuild0c _ _ _ rfl) ?_))
      | ((with_reducible refine wpList_value (o := ⟨some 7, .call _, _, _, _, _⟩) (by with_unfolding_all rfl) (exec_append rfl (by with_unfolding_all rfl) (by with_unfolding_all rfl) HR.out) ?_)))
    go_ret
    exact ⟨a', c', rfl, HO.out.1, HO.out.2⟩
set_option maxRecDepth 100000 in
theorem cloneP_calls (w : World) (a : Option Addr) (l : List PtV) (c : Nat) (h : Vec cPt 5 w a l c) (hl : l.length ≤ 1000) :
    Calls Try.prog 127 #[.slice a l.length c] w fun e w' => ∃ a' c', e = .returned (.slice a' l.length c') ∧ VOwn cPt 5 43 w.heap.size w' a' l c' ∧ Below w.heap.size w w' := by
  cases a with
  | none =>
    have h0 := h.nil rfl
    have h1 := h.le
    obtain rfl : l = [] := List.eq_nil_of_length_eq_zero (by omega)
    subst h0
    show Calls Try.prog 127 #[.slice none 0 0] w _
    have hq := fun w : World => Lib.run_eql_slice_nil (P := Try.prog) w 23 43 none 0 0 0 0 Try.underlying23
    go_enter Try.func127, Try.ntmps127
    go_wp2_with fail
    go_ret
    exact ⟨none, 0, rfl, VOwn.nil_ _ _ _ _ _, Below.refl _ _⟩
  | some x =>
    have hq := fun w : World => Lib.run_eql_slice_nil (P := Try.prog) w 23 43 (some x) l.length c 0 0 Try.underlying23
    have B0 : Below w.heap.size w (w.alloc (.cells #[] 43)) := (Below.refl _ _).alloc (Nat.le_refl _) _
    have O0 := (vown_lit w #[] 43 5 ([] : List PtV) cPt_len rfl (by simp))
    obtain ⟨a', c', w', hr, ho, hb⟩ := run_vapp0 etP cPt_len cPt_one 23 O0 (h.stay cPt_len B0) (by omega) B0.size
    have HR := Lib.hid hr
    have HO := Lib.hid (And.intro ho (B0.trans (hb.mono B0.size)))
    clear hr ho hb O0 B0 h
    go_enter Try.func127, Try.ntmps127
    go_wp2_with (first
      | ((with_reducible refine wpList_value (o := ⟨some 5, .buildSlice _ _ _, _, _, _, _⟩) (by with_unfolding_all rfl) (cbuild0p _ _ _ rfl) ?_))
      | ((with_reducible refine wpList_value (o := ⟨some 7, .call _, _, _, _, _⟩) (by with_unfolding_all rfl) (exec_append rfl (by with_unfolding_all rfl) (by with_unfolding_all rfl) HR.out) ?_)))
    go_ret
    exact ⟨a', c', rfl, HO.out.1, HO.out.2⟩
end Go.Proofs.Ytpnbaapjjchlbaa

/- config.Copy: walked. -/
namespace Go.Proofs.Ytpnbaapjjchlbaa
open Go Go.RowKit Go.Cit

/-- The image of partition k of a slice is copied, in a region that draws its order. -/
def cyT (B g k : Nat) (L : List PtV) (pc : Nat) (x : PtV) (N : Nat) : Nat → Value → World → Prop
  | 22, v, _ => v = .pointer (some ⟨B, 1, none⟩)
  | 23, v, _ => v = .slice (some ⟨g, 0, none⟩) L.length pc
  | 24, v, _ => v = .int .i64 (k : Int)
  | 25, v, _ => v = .pointer (some ⟨B, 1, none⟩)
  | 26, v, _ => v = .slice (some ⟨g, 0, none⟩) L.length pc
  | 27, v, _ => v = .int .i64 (k : Int)
  | 28, v, _ => v = .pointer (some ⟨g, k * 5, none⟩)
  | 29, v, _ => v = .pointer (some ⟨g, k * 5 + 4, none⟩)
  | 30, v, _ => v = .slice x.a x.img.length x.c
  | 31, v, w => ∃ a c, v = .slice a x.img.length c ∧ Cit.Own 5 N w a x.img c
  | 32, v, _ => v = .pointer (some ⟨g, k * 5, none⟩)
  | 33, v, _ => v = .pointer (some ⟨g, k * 5 + 4, none⟩)
  | _, _, _ => True
def cyFin (W : World) (g k : Nat) (L : List PtV) (pc : Nat) (x : PtV) (N : Nat) (wx : World) : Prop := ∃ a c, Held cPt 5 43 wx g (L.set k ⟨x.id, x.reg, x.keep, a, x.img, c⟩) pc ∧ Cit.Own 5 N wx a x.img c ∧ Save (· ≠ g) W wx
def cyC (W : World) (g k : Nat) (L : List PtV) (pc : Nat) (x : PtV) (N : Nat) (δ : Nat → Bool) (wx : World) : Prop := (δ 12 = false → Below W.heap.size W wx) ∧ (δ 12 = true → cyFin W g k L pc x N wx)
def cyG (g i : Nat) (wx w' : World) : Prop := (i ≠ 12 ∧ Below wx.heap.size wx w') ∨ (i = 12 ∧ Save (· ≠ g) wx w' ∧ ∃ cs, wx.heap[g]? = some (.cells cs 43 (0, 0)))
theorem cyT_stay {B g k : Nat} {L : List PtV} {pc : Nat} {x : PtV} {N d i : Nat} {v : Value} {wx w' : World} (hG : cyG g i wx w') (h : cyT B g k L pc x N d v wx) : cyT B g k L pc x N d v w' := by
  unfold cyT at *
  split at h
  all_goals first
    | exact h
    | (obtain ⟨a, c, e, h⟩ := h
       refine ⟨a, c, e, ?_⟩
       rcases hG with ⟨_, hb⟩ | ⟨_, hs, cs, hg⟩
       · exact h.stay hb
       · exact h.save hs (fun j hj => ownb_bx h hg neUP j hj))
    | trivial

/-- A configuration in memory of its own, whose cells may be written over. -/
structure FreshV (B : Nat) (w : World) (V : CfgV) : Prop where
  win : Vec cWin 2 w V.wa V.ws V.wc
  pts : Vec cPt 5 w V.pa V.ps V.pc
  chs : Vec cCh 5 w V.ca V.cs V.cc
  wb : ∀ g, blk V.wa = some g → B ≤ g ∧ ∃ cs, w.heap[g]? = some (.cells cs 52 (0, 0))
  pb : ∀ g, blk V.pa = some g → B ≤ g ∧ ∃ cs, w.heap[g]? = some (.cells cs 43 (0, 0))
  cb : ∀ g, blk V.ca = some g → B ≤ g ∧ ∃ cs, w.heap[g]? = some (.cells cs 54 (0, 0))
  img : ∀ x ∈ V.ps, Cit.Own 5 B w x.a x.img x.c
theorem FreshV.at {B : Nat} {w : World} {V : CfgV} (h : FreshV B w V) : V.At w := ⟨h.win, h.pts, h.chs, fun x hx => (h.img x hx).isRow⟩
theorem OwnedV.fresh {B : Nat} {w : World} {V : CfgV} (h : OwnedV B w V) : FreshV B w V :=
  ⟨h.at.win, h.at.pts, h.at.chs, fun _ hg => ⟨(h.win.blk_ge hg).1, vown_block h.win hg⟩, fun _ hg => ⟨(h.pts.blk_ge hg).1, vown_block h.pts hg⟩, fun _ hg => ⟨(h.chs.blk_ge hg).1, vown_block h.chs hg⟩, h.img⟩
theorem FreshV.stay {B : Nat} {w w' : World} {V : CfgV} (h : FreshV B w V) (hb : Below w.heap.size w w') : FreshV B w' V :=
  ⟨h.win.stay cWin_len hb, h.pts.stay cPt_len hb, h.chs.stay cCh_len hb, fun g hg => ⟨(h.wb g hg).1, let ⟨cs, hc⟩ := (h.wb g hg).2; ⟨cs, blk_stay hc hb⟩⟩, fun g hg => ⟨(h.pb g hg).1, let ⟨cs, hc⟩ := (h.pb g hg).2; ⟨cs, blk_stay hc hb⟩⟩, fun g hg => ⟨(h.cb g hg).1, let ⟨cs, hc⟩ := (h.cb g hg).2; ⟨cs, blk_stay hc hb⟩⟩, fun x hx => (h.img x hx).stay hb⟩
theorem FreshV.low {B B' : Nat} {w : World} {V : CfgV} (h : FreshV B w V) (hb : B' ≤ B) : FreshV B' w V :=
  ⟨h.win, h.pts, h.chs, fun g hg => ⟨Nat.le_trans hb (h.wb g hg).1, (h.wb g hg).2⟩, fun g hg => ⟨Nat.le_trans hb (h.pb g hg).1, (h.pb g hg).2⟩, fun g hg => ⟨Nat.le_trans hb (h.cb g hg).1, (h.cb g hg).2⟩, fun x hx => (h.img x hx).low hb⟩
theorem cy_copied {V : CfgV} {L : List PtV} {k : Nat} (h : L.map PtV.pt = V.ps.map PtV.pt) (hk : k < L.length) (a : Option Addr) (c : Nat) : (L.set k ⟨L[k].id, L[k].reg, L[k].keep, a, L[k].img, c⟩).map PtV.pt = V.ps.map PtV.pt := by
  rw [set_map PtV.pt L k ⟨L[k].id, L[k].reg, L[k].keep, a, L[k].img, c⟩ hk rfl, h]
set_option maxRecDepth 100000 in
set_option maxHeartbeats 8000000 in
theorem ccopy_calls (w : World) (V : CfgV) (h : V.At w) (hs : SmallV V) : Calls Try.prog 57 #[.agg #[.slice V.wa V.ws.length V.wc, .slice V.pa V.ps.length V.pc, .slice V.ca V.cs.length V.cc]] w fun e w' => ∃ U : CfgV, e = .returned (.agg #[.slice U.wa U.ws.length U.wc, .slice U.pa U.ps.length U.pc, .slice U.ca U.cs.length U.cc]) ∧ U.cfg = V.cfg ∧ FreshV w.heap.size w' U ∧ Below w.heap.size w w' := by
  obtain ⟨B, hB⟩ : ∃ B, B = w.heap.size := ⟨_, rfl⟩
  obtain ⟨w0, hw0⟩ : ∃ w0, w0 = (w.alloc (.cells #[.slice V.wa V.ws.length V.wc, .slice V.pa V.ps.length V.pc, .slice V.ca V.cs.length V.cc] 26)).alloc (.cells #[.slice none 0 0, .slice none 0 0, .slice none 0 0] 26) := ⟨_, rfl⟩
  have B0 : Below w.heap.size w w0 := by rw [hw0]; exact ((Below.refl _ w).alloc (Nat.le_refl _) _).alloc (by simp) _
  have hx1 : w0.heap[B]? = some (.cells #[.slice V.wa V.ws.length V.wc, .slice V.pa V.ps.length V.pc, .slice V.ca V.cs.length V.cc] 26 (0, 0)) := by rw [hw0, hB]; exact (Below.heap_alloc _ _ _ (by simp)).trans (heap_alloc_new w _)
  have hx2 : w0.heap[B + 1]? = some (.cells #[.slice none 0 0, .slice none 0 0, .slice none 0 0] 26 (0, 0)) := by
    have := heap_alloc_new (w.alloc (.cells #[.slice V.wa V.ws.length V.wc, .slice V.pa V.ps.length V.pc, .slice V.ca V.cs.length V.cc] 26)) (.cells #[.slice none 0 0, .slice none 0 0, .slice none 0 0] 26)
    rw [World.size_alloc] at this
    rw [hw0, hB]; exact this
  have HV := Lib.hid (h.stay B0)
  have HVW := Lib.hid h
  have H0 := Lib.hid (And.intro hx1 (And.intro hx2 B0))
  have HK := Lib.hid (cloneW_calls w0 V.wa V.ws V.wc HV.out.win (Nat.le_trans hs.win (by decide)))
  have hl2 := h.pts.len_le
  have c0 := cells_of hx1 0 rfl
  clear h hx1 hx2 B0
  go_enter Try.func57, Try.ntmps57
  go_upto_region 1 with fail
  rw [← hw0, ← hB]
  have HBB := Lib.hid hB
  clear hw0 hB
  go_wp2_with fail
  refine (HK.out).mono ?_
  rintro e w1 ⟨a1, k1, rfl, hO1, hb1⟩
  have hx1 := blk_stay H0.out.1 hb1
  have c0 := cells_of hx1 0 rfl
  have f0 := frozen_no hx1 0
  obtain ⟨x1, hx⟩ : ∃ x, x = w1.setCell ⟨B, 0, none⟩ (.slice a1 V.ws.length k1) := ⟨_, rfl⟩
  have s1 : Save (· ≠ B) w1 x1 := by rw [hx]; exact Save.set
  have hq1 : x1.heap[B]? = some (.cells #[.slice a1 V.ws.length k1, .slice V.pa V.ps.length V.pc, .slice V.ca V.cs.length V.cc] 26 (0, 0)) := by rw [hx]; exact setCell_blk _ hx1
  have hr1 : x1.heap[B + 1]? = _ := (s1.block (B + 1) (Array.getElem?_eq_some_iff.1 (blk_stay H0.out.2.1 hb1)).1 (by omega)).trans (blk_stay H0.out.2.1 hb1)
  have o1 := hO1.save s1 (fun g hg => vown_ne hO1 hx1 neW g hg)
  have t1 : Save (· ≠ B) w0 x1 := (Save.of hb1).trans s1
  have H1 := Lib.hid (And.intro o1 (And.intro hq1 (And.intro hr1 t1)))
  clear hO1 hb1 hx1 HK s1 hq1 hr1 o1 t1
  go_upto_region 2 with fail
  rw [← hx]
  clear hx c0 f0
  have HVN : Hid (∀ {wx : World}, Save (· ≠ B) w0 wx → V.At wx) := fun {wx} hsv => HVW.out.stay (H0.out.2.2.trans (hsv.below H0.out.2.2.size (fun k hk => by have := HBB.out; omega)))
  have HBN : Hid (∀ {wx : World}, Save (· ≠ B) w0 wx → w.heap.size ≤ wx.heap.size) := fun {wx} hsv => Nat.le_trans H0.out.2.2.size hsv.size
  have c2 := cells_of H1.out.2.1 2 rfl
  have HK := Lib.hid (cloneC_calls x1 V.ca V.cs V.cc (HVN.out H1.out.2.2.2).chs (Nat.le_trans hs.chs (by decide)))
  go_wp2_with fail
  refine (HK.out).mono ?_
  rintro e w2 ⟨a2, k2, rfl, hO2, hb2⟩
  have hx1 := blk_stay H1.out.2.1 hb2
  have c2 := cells_of hx1 2 rfl
  have f2 := frozen_no hx1 2
  obtain ⟨x2, hx⟩ : ∃ x, x = w2.setCell ⟨B, 2, none⟩ (.slice a2 V.cs.length k2) := ⟨_, rfl⟩
  have s1 : Save (· ≠ B) w2 x2 := by rw [hx]; exact Save.set
  have hq1 : x2.heap[B]? = some (.cells #[.slice a1 V.ws.length k1, .slice V.pa V.ps.length V.pc, .slice a2 V.cs.length k2] 26 (0, 0)) := by rw [hx]; exact setCell_blk _ hx1
  have hr1 : x2.heap[B + 1]? = _ := (s1.block (B + 1) (Array.getElem?_eq_some_iff.1 (blk_stay H1.out.2.2.1 hb2)).1 (by omega)).trans (blk_stay H1.out.2.2.1 hb2)
  have o0 := H1.out.1.stay hb2
  have o1 := o0.save s1 (fun g hg => vown_ne o0 hx1 neW g hg)
  have o2 := (hO2.low (HBN.out H1.out.2.2.2)).save s1 (fun g hg => vown_ne hO2 hx1 neC g hg)
  have t1 : Save (· ≠ B) w0 x2 := H1.out.2.2.2.trans ((Save.of hb2).trans s1)
  have H2 := Lib.hid (And.intro (o1.low H0.out.2.2.size) (And.intro o2 (And.intro hq1 (And.intro hr1 t1))))
  clear hO2 hb2 hx1 HK s1 hq1 hr1 o0 o1 o2 t1
  go_upto_region 3 with fail
  rw [← hx]
  clear hx c2 f2
  have c1 := cells_of H2.out.2.2.1 1 rfl
  have HK := Lib.hid (cloneP_calls x2 V.pa V.ps V.pc (HVN.out H2.out.2.2.2.2).pts (Nat.le_trans hs.pts (by decide)))
  go_wp2_with fail
  refine (HK.out).mono ?_
  rintro e w3 ⟨a3, k3, rfl, hO3, hb3⟩
  have hx1 := blk_stay H2.out.2.2.1 hb3
  have c1 := cells_of hx1 1 rfl
  have f1 := frozen_no hx1 1
  obtain ⟨x3, hx⟩ : ∃ x, x = w3.setCell ⟨B, 1, none⟩ (.slice a3 V.ps.length k3) := ⟨_, rfl⟩
  have s1 : Save (· ≠ B) w3 x3 := by rw [hx]; exact Save.set
  have hq1 : x3.heap[B]? = some (.cells #[.slice a1 V.ws.length k1, .slice a3 V.ps.length k3, .slice a2 V.cs.length k2] 26 (0, 0)) := by rw [hx]; exact setCell_blk _ hx1
  have hr1 : x3.heap[B + 1]? = _ := (s1.block (B + 1) (Array.getElem?_eq_some_iff.1 (blk_stay H2.out.2.2.2.1 hb3)).1 (by omega)).trans (blk_stay H2.out.2.2.2.1 hb3)
  have o0 := H2.out.1.stay hb3
  have o1 := o0.save s1 (fun g hg => vown_ne o0 hx1 neW g hg)
  have o9 := H2.out.2.1.stay hb3
  have o2 := o9.save s1 (fun g hg => vown_ne o9 hx1 neC g hg)
  have o3 := (hO3.low (HBN.out H2.out.2.2.2.2)).save s1 (fun g hg => vown_ne hO3 hx1 neP g hg)
  have hgt : V.ps ≠ [] → ∀ g, blk a3 = some g → x2.heap.size ≤ g := fun _ g hg => (hO3.blk_ge hg).1
  have t1 : Save (· ≠ B) w0 x3 := H2.out.2.2.2.2.trans ((Save.of hb3).trans s1)
  have H3 := Lib.hid (And.intro o1 (And.intro o2 (And.intro o3 (And.intro hq1 (And.intro hr1 t1)))))
  clear hO3 hb3 hx1 HK s1 hq1 hr1 o0 o1 o2 o3 o9 t1
  go_upto_region 4 with fail
  rw [← hx]
  clear hx c1 f1 H1 H2
  have c1 := cells_of H3.out.2.2.2.1 1 rfl
  by_cases h0 : V.ps = []
  · have h00 : V.ps.length = 0 := by rw [h0]; rfl
    have o3 := H3.out.2.2.1
    rw [h0] at o3
    have HO3 := Lib.hid o3
    have HXR := Lib.hid H3.out.2.2.2.2.1
    have hxB := H3.out.2.2.2.1
    rw [h00] at hxB c1
    have c0 := cells_of hxB 0 rfl
    have c2 := cells_of hxB 2 rfl
    have HBE : Hid (Below w.heap.size w x3) := H0.out.2.2.trans (H3.out.2.2.2.2.2.below H0.out.2.2.size (fun k hk => by have := HBB.out; omega))
    rw [h00]
    clear hxB o3
    go_wp2_with fail
    go_loopw [19] (fun i wr => i = .int .i64 0 ∧ wr = x3) (fun i _ => 0)
    case atStart => exact ⟨rfl, rfl⟩
    case round =>
      obtain ⟨rfl, rfl⟩ := hrel
      go_wp2_with ((with_reducible refine wpList_storeB (o := ⟨none, .store _ (.tmp 2) _, _, _, _, _⟩) rowCfg (.tmp 2) (.tmp 35) (by with_unfolding_all rfl) (by with_unfolding_all rfl) (by with_unfolding_all rfl) (by with_unfolding_all rfl) (by with_unfolding_all rfl) HXR.out (by with_unfolding_all rfl) (by with_unfolding_all rfl) (by with_unfolding_all rfl) ?_); intro w9 hg9 hs9)
      have ow9 := H3.out.1.save hs9 (fun j hj => vown_ne H3.out.1 HXR.out neW j hj)
      have oc9 := H3.out.2.1.save hs9 (fun j hj => vown_ne H3.out.2.1 HXR.out neC j hj)
      have op9 := HO3.out.save hs9 (fun j hj => vown_ne HO3.out HXR.out neP j hj)
      refine bodyPost_ret (resB1 rowCfg rfl (by rfl) hg9 rfl) rfl ⟨⟨a1, V.ws, k1, a3, [], k3, a2, V.cs, k2⟩, rfl, ?_, ⟨ow9.vec cWin_len, op9.vec cPt_len, oc9.vec cCh_len, fun j hj => ⟨(ow9.blk_ge hj).1, vown_block ow9 hj⟩, fun j hj => ⟨(op9.blk_ge hj).1, vown_block op9 hj⟩, fun j hj => ⟨(oc9.blk_ge hj).1, vown_block oc9 hj⟩, fun x hx => by simp at hx⟩, HBE.out.trans (hs9.below HBE.out.size (fun j hj => by have := HBB.out; omega))⟩
      simp [CfgV.cfg, h0]
  · obtain ⟨g, ha3, hgB, hg3⟩ := own_addr H3.out.2.2.1 h0
    have hgne : g ≠ B := fun e => by
      obtain ⟨C, hC⟩ := vown_block H3.out.2.2.1 (g := g) (by rw [ha3]; rfl)
      rw [e, H3.out.2.2.2.1] at hC; simp at hC
    have hgne2 : g ≠ B + 1 := fun e => by
      obtain ⟨C, hC⟩ := vown_block H3.out.2.2.1 (g := g) (by rw [ha3]; rfl)
      rw [e, H3.out.2.2.2.2.1] at hC; simp at hC
    subst ha3
    have HH3 : Hid (Held cPt 5 43 x3 g V.ps k3) := H3.out.2.2.1.held cPt_len
    have HGG := Lib.hid (And.intro hgB (And.intro hgne hgne2))
    have HBX : Hid (∀ {wx : World}, Save (· ≠ g) x3 wx → Below w.heap.size w wx) := fun {wx} hsv => (H0.out.2.2.trans (H3.out.2.2.2.2.2.below H0.out.2.2.size (fun k hk => by have := HBB.out; omega))).trans (hsv.below (HBN.out H3.out.2.2.2.2.2) (fun k hk => by omega))
    clear hgB hgne hgne2
    go_wp2_with fail
    go_loopw [19] (fun i wr => ∃ (k : Nat) (L : List PtV), i = .int .i64 (k : Int) ∧ k ≤ V.ps.length ∧ L.length = V.ps.length ∧ Hid (L.map PtV.pt = V.ps.map PtV.pt) ∧ Hid (∀ j (hj : j < L.length), j < k → Cit.Own 5 w.heap.size wr L[j].a L[j].img L[j].c) ∧ Hid (∀ j (hj : j < L.length) (hv : j < V.ps.length), k ≤ j → L[j] = V.ps[j]) ∧ Held cPt 5 43 wr g L k3 ∧ Save (· ≠ g) x3 wr) (fun i _ => V.ps.length - (intOf i).toNat)
    case atStart => exact ⟨0, V.ps, rfl, Nat.zero_le _, rfl, rfl, fun j hj h => by omega, fun j hj hv h => rfl, HH3.out, Save.refl _ _⟩
    case round =>
      obtain ⟨k, L, rfl, hk, hLl, HLM, HLO, HLV, hH, hS⟩ := hrel
      have HLH := Lib.hid (And.intro hH hS)
      have c1 : wr.cell? ⟨B, 1, none⟩ = some (.slice (some ⟨g, 0, none⟩) L.length k3) := by
        rw [hLl]
        exact (hS.cell (p := ⟨B, 1, none⟩) (Array.getElem?_eq_some_iff.1 H3.out.2.2.2.1).1 (by have := HGG.out.2.1; show B ≠ g; omega)).trans (cells_of H3.out.2.2.2.1 1 rfl)
      by_cases hlt : k < V.ps.length
      · have hltL : k < L.length := by rw [hLl]; exact hlt
        have i0 : ∀ w, (Instr.indexAt 23 (.slice (some ⟨g, 0, none⟩) L.length k3) (.int .i64 (k : Int))).run Try.prog w = .ok (.pointer (some ⟨g, k * 5, none⟩)) w := by
          have := hH.vec.index etP k hltL
          rwa [ad_some] at this
        obtain ⟨x, hx⟩ : ∃ x, Hid (x = L[k]) := ⟨L[k], rfl⟩
        have HXE := hx
        have u4 : wr.cell? ⟨g, k * 5 + 4, none⟩ = some (.slice x.a x.img.length x.c) := by
          have := (pts_cells hH.vec (Below.refl _ wr) k hltL).2.2.2.2
          rw [← hx.out] at this
          rw [ad_some] at this
          exact this
        have HXR : Hid (Row wr x.a x.img x.c ∧ x.img.length ≤ 1000000000) := by
          have e : x = V.ps[k] := by rw [hx.out]; exact HLV.out k hltL hlt (Nat.le_refl _)
          have hm : x ∈ V.ps := by rw [e]; exact List.getElem_mem hlt
          exact ⟨(HVW.out.img x hm).stay (HBX.out hS), Nat.le_trans (hs.img x hm) (by decide)⟩
        have HNR : Hid (w.heap.size ≤ wr.heap.size) := (HBX.out hS).size
        clear hH hS
        go_upto_region 7 with fail
        refine wp_region_ph (cyC wr g k L k3 x w.heap.size) (cyG g) (cyT B g k L k3 x w.heap.size) (by kernel_rfl) (by kernel_rfl) (fun w' hb hh => ⟨fun _ => hb, fun h => absurd h (by simp)⟩) ?_ ?_ ?_
        · intro δ i j o v wx w' ho hij hcl hj hi hc hG hT
          rcases hd : o.dst with _ | d
          · exact tyP_none hd _ _
          · rw [tyP_some hd] at hT ⊢
            exact cyT_stay hG hT
        · refine opsAll_cons ?_ (opsAll_cons ?_ (opsAll_cons ?_ (opsAll_cons ?_ (opsAll_cons ?_ (opsAll_cons ?_ (opsAll_cons ?_ (opsAll_cons ?_ (opsAll_cons ?_ (opsAll_cons ?_ (opsAll_cons ?_ (opsAll_cons ?_ (opsAll_cons ?_ opsAll_nil))))))))))))
          all_goals intro δ wa wx hk
          · have hy := hk.closed.yet 14 12 0 (by kernel_rfl) hk.yet
            have hb := hk.inv.1 hy
            exact ⟨wanted_free rfl, gp_field (.tmp 1) rfl (hk.old 1 (by kernel_rfl)) (v := .pointer (some ⟨B, 1, none⟩)) (fun w => by kernel_rfl) ⟨.inl ⟨by decide, Below.refl _ _⟩, ⟨fun _ => hb, fun h => absurd h (by rw [upd_other _ (by decide), hy]; decide)⟩, rfl⟩⟩
          · have hy := hk.closed.yet 14 12 1 (by kernel_rfl) hk.yet
            have hb := hk.inv.1 hy
            exact ⟨wanted_free rfl, gp_load (.tmp 22) rfl (hk.slot 22 (by kernel_rfl)) (v := .slice (some ⟨g, 0, none⟩) L.length k3) (load_at (fun w => by kernel_rfl) (keep hb c1)) ⟨.inl ⟨by decide, Below.refl _ _⟩, ⟨fun _ => hb, fun h => absurd h (by rw [upd_other _ (by decide), hy]; decide)⟩, rfl⟩⟩
          · have hy := hk.closed.yet 14 12 2 (by kernel_rfl) hk.yet
            have hb := hk.inv.1 hy
            exact ⟨wanted_free rfl, gp_move (.tmp 3) rfl ⟨.inl ⟨by decide, Below.refl _ _⟩, ⟨fun _ => hb, fun h => absurd h (by rw [upd_other _ (by decide), hy]; decide)⟩, hk.old 3 (by kernel_rfl)⟩⟩
          · have hy := hk.closed.yet 14 12 3 (by kernel_rfl) hk.yet
            have hb := hk.inv.1 hy
            exact ⟨wanted_free rfl, gp_field (.tmp 1) rfl (hk.old 1 (by kernel_rfl)) (v := .pointer (some ⟨B, 1, none⟩)) (fun w => by kernel_rfl) ⟨.inl ⟨by decide, Below.refl _ _⟩, ⟨fun _ => hb, fun h => absurd h (by rw [upd_other _ (by decide), hy]; decide)⟩, rfl⟩⟩
          · have hy := hk.closed.yet 14 12 4 (by kernel_rfl) hk.yet
            have hb := hk.inv.1 hy
            exact ⟨wanted_free rfl, gp_load (.tmp 25) rfl (hk.slot 25 (by kernel_rfl)) (v := .slice (some ⟨g, 0, none⟩) L.length k3) (load_at (fun w => by kernel_rfl) (keep hb c1)) ⟨.inl ⟨by decide, Below.refl _ _⟩, ⟨fun _ => hb, fun h => absurd h (by rw [upd_other _ (by decide), hy]; decide)⟩, rfl⟩⟩
          · have hy := hk.closed.yet 14 12 5 (by kernel_rfl) hk.yet
            have hb := hk.inv.1 hy
            exact ⟨wanted_free rfl, gp_move (.tmp 3) rfl ⟨.inl ⟨by decide, Below.refl _ _⟩, ⟨fun _ => hb, fun h => absurd h (by rw [upd_other _ (by decide), hy]; decide)⟩, hk.old 3 (by kernel_rfl)⟩⟩
          · have hy := hk.closed.yet 14 12 6 (by kernel_rfl) hk.yet
            have hb := hk.inv.1 hy
            exact ⟨wanted_free rfl, gp_index (.tmp 26) (.tmp 27) rfl (hk.slot 26 (by kernel_rfl)) (hk.slot 27 (by kernel_rfl)) (v := .pointer (some ⟨g, k * 5, none⟩)) (i0 wx) ⟨.inl ⟨by decide, Below.refl _ _⟩, ⟨fun _ => hb, fun h => absurd h (by rw [upd_other _ (by decide), hy]; decide)⟩, rfl⟩⟩
          · have hy := hk.closed.yet 14 12 7 (by kernel_rfl) hk.yet
            have hb := hk.inv.1 hy
            exact ⟨wanted_free rfl, gp_field (.tmp 28) rfl (hk.slot 28 (by kernel_rfl)) (v := .pointer (some ⟨g, k * 5 + 4, none⟩)) (fun w => by kernel_rfl) ⟨.inl ⟨by decide, Below.refl _ _⟩, ⟨fun _ => hb, fun h => absurd h (by rw [upd_other _ (by decide), hy]; decide)⟩, rfl⟩⟩
          · have hy := hk.closed.yet 14 12 8 (by kernel_rfl) hk.yet
            have hb := hk.inv.1 hy
            exact ⟨wanted_free rfl, gp_load (.tmp 29) rfl (hk.slot 29 (by kernel_rfl)) (v := .slice x.a x.img.length x.c) (load_at (fun w => by kernel_rfl) (keep hb u4)) ⟨.inl ⟨by decide, Below.refl _ _⟩, ⟨fun _ => hb, fun h => absurd h (by rw [upd_other _ (by decide), hy]; decide)⟩, rfl⟩⟩
          · have hy := hk.closed.yet 14 12 9 (by kernel_rfl) hk.yet
            have hb := hk.inv.1 hy
            refine ⟨wanted_free rfl, gp_call rfl (hk.fn _) #[.slice x.a x.img.length x.c] (fun w => by kernel_rfl) (by simp only [List.map_toArray, List.map_cons, List.map_nil, show wa.eval (.tmp 30) = _ from hk.slot 30 (by kernel_rfl)]) ((sclone_calls wx x.a x.img x.c (HXR.out.1.stay hb) HXR.out.2).mono ?_)⟩
            rintro e w9 ⟨a9, c9, he, ho, hb9⟩
            exact ⟨_, he, .inl ⟨by decide, hb9⟩, ⟨fun _ => hb.trans (hb9.mono hb.size), fun h => absurd h (by rw [upd_other _ (by decide), hy]; decide)⟩, a9, c9, rfl, ho.low (Nat.le_trans HNR.out hb.size)⟩
          · have hy := hk.closed.yet 14 12 10 (by kernel_rfl) hk.yet
            have hb := hk.inv.1 hy
            exact ⟨wanted_free rfl, gp_index (.tmp 23) (.tmp 24) rfl (hk.slot 23 (by kernel_rfl)) (hk.slot 24 (by kernel_rfl)) (v := .pointer (some ⟨g, k * 5, none⟩)) (i0 wx) ⟨.inl ⟨by decide, Below.refl _ _⟩, ⟨fun _ => hb, fun h => absurd h (by rw [upd_other _ (by decide), hy]; decide)⟩, rfl⟩⟩
          · have hy := hk.closed.yet 14 12 11 (by kernel_rfl) hk.yet
            have hb := hk.inv.1 hy
            exact ⟨wanted_free rfl, gp_field (.tmp 32) rfl (hk.slot 32 (by kernel_rfl)) (v := .pointer (some ⟨g, k * 5 + 4, none⟩)) (fun w => by kernel_rfl) ⟨.inl ⟨by decide, Below.refl _ _⟩, ⟨fun _ => hb, fun h => absurd h (by rw [upd_other _ (by decide), hy]; decide)⟩, rfl⟩⟩
          · have hb := hk.inv.1 hk.yet
            obtain ⟨a9, c9, e31, o31⟩ := hk.slot 31 (by kernel_rfl)
            have hH := HLH.out.1.stay cPt_len hb
            obtain ⟨cs, hcs⟩ := hH.blk
            refine ⟨wanted_free rfl, gp_store (.tmp 33) (.tmp 31) rfl (hk.slot 33 (by kernel_rfl)) e31 (store_slice (fun w => by kernel_rfl) (keep hb u4) (hH.free _)) ⟨.inr ⟨rfl, Save.set, cs, hcs⟩, ⟨fun h => absurd h (by rw [upd_same]; decide), fun _ => ⟨a9, c9, ?_, o31.save Save.set (fun j hj => ownb_bx o31 hcs neUP j hj), (Save.of hb).trans Save.set⟩⟩, trivial⟩⟩
            refine hH.set cPt_len hltL (by decide) ?_
            rw [← HXE.out]; rfl
        intro δ a wz hall hC hsame hT
        obtain ⟨a9, c9, hH9, hO9, hS9⟩ := hC.2 (hall 12 (by decide))
        have he := act_same hsame [22, 23, 24, 25, 26, 27, 28, 29, 30, 31, 32, 33] (by kernel_rfl)
        simp only [List.foldl_cons, List.foldl_nil] at he
        generalize a.eval (.tmp 22) = y22 at he
        generalize a.eval (.tmp 23) = y23 at he
        generalize a.eval (.tmp 24) = y24 at he
        generalize a.eval (.tmp 25) = y25 at he
        generalize a.eval (.tmp 26) = y26 at he
        generalize a.eval (.tmp 27) = y27 at he
        generalize a.eval (.tmp 28) = y28 at he
        generalize a.eval (.tmp 29) = y29 at he
        generalize a.eval (.tmp 30) = y30 at he
        generalize a.eval (.tmp 31) = y31 at he
        generalize a.eval (.tmp 32) = y32 at he
        generalize a.eval (.tmp 33) = y33 at he
        simp only [put_lit] at he
        dsimp only [List.set_cons_zero, List.set_cons_succ] at he
        subst he
        clear hsame hT hall
        have HF := Lib.hid (And.intro hH9 (And.intro hO9 hS9))
        clear hH9 hO9 hS9 hC
        have hset : ∀ j (hj : j < (L.set k ⟨x.id, x.reg, x.keep, a9, x.img, c9⟩).length), (L.set k ⟨x.id, x.reg, x.keep, a9, x.img, c9⟩)[j] = if k = j then ⟨x.id, x.reg, x.keep, a9, x.img, c9⟩ else L[j]'(by rw [List.length_set] at hj; exact hj) := fun j hj => List.getElem_set _
        have HM2 : Hid ((L.set k ⟨x.id, x.reg, x.keep, a9, x.img, c9⟩).map PtV.pt = V.ps.map PtV.pt) := by
          have := cy_copied HLM.out hltL a9 c9
          rw [← HXE.out] at this
          exact this
        have HO2 : Hid (∀ j (hj : j < (L.set k ⟨x.id, x.reg, x.keep, a9, x.img, c9⟩).length), j < k + 1 → Cit.Own 5 w.heap.size wz (L.set k ⟨x.id, x.reg, x.keep, a9, x.img, c9⟩)[j].a (L.set k ⟨x.id, x.reg, x.keep, a9, x.img, c9⟩)[j].img (L.set k ⟨x.id, x.reg, x.keep, a9, x.img, c9⟩)[j].c) := fun j hj hjk => by
          rw [hset j hj]
          split
          · exact HF.out.2.1
          · have ho := HLO.out j (by rw [List.length_set] at hj; exact hj) (by omega)
            obtain ⟨cs, hcs⟩ := HLH.out.1.blk
            exact ho.save HF.out.2.2 (fun i hi => ownb_bx ho hcs neUP i hi)
        have HV2 : Hid (∀ j (hj : j < (L.set k ⟨x.id, x.reg, x.keep, a9, x.img, c9⟩).length) (hv : j < V.ps.length), k + 1 ≤ j → (L.set k ⟨x.id, x.reg, x.keep, a9, x.img, c9⟩)[j] = V.ps[j]) := fun j hj hv hjk => by
          rw [hset j hj, if_neg (by omega)]
          exact HLV.out j _ hv (by omega)
        clear c1 u4 i0 hset
        go_wp2_with fail
        go_roundw
        case rel => exact ⟨k + 1, L.set k ⟨x.id, x.reg, x.keep, a9, x.img, c9⟩, by go_num, by omega, by rw [List.length_set]; exact hLl, HM2.out, HO2.out, HV2.out, HF.out.1, HLH.out.2.trans HF.out.2.2⟩
        case measure => simp [intOf]; omega
      · have hk2 : k = V.ps.length := by omega
        have hxB := (hS.block B (Array.getElem?_eq_some_iff.1 H3.out.2.2.2.1).1 (by have := HGG.out.2.1; omega)).trans H3.out.2.2.2.1
        have hxR := (hS.block (B + 1) (Array.getElem?_eq_some_iff.1 H3.out.2.2.2.2.1).1 (by have := HGG.out.2.2; omega)).trans H3.out.2.2.2.2.1
        have HXR := Lib.hid hxR
        have HBE := Lib.hid (HBX.out hS)
        clear c1
        have c0 := cells_of hxB 0 rfl
        have c1 := cells_of hxB 1 rfl
        have c2 := cells_of hxB 2 rfl
        clear hH hS hxB hxR
        subst hk2
        go_wp2_with ((with_reducible refine wpList_storeB (o := ⟨none, .store _ (.tmp 2) _, _, _, _, _⟩) rowCfg (.tmp 2) (.tmp 35) (by with_unfolding_all rfl) (by with_unfolding_all rfl) (by with_unfolding_all rfl) (by with_unfolding_all rfl) (by with_unfolding_all rfl) HXR.out (by with_unfolding_all rfl) (by with_unfolding_all rfl) (by with_unfolding_all rfl) ?_); intro w9 hg9 hs9)
        have hH := HLH.out.1
        have hS := HLH.out.2
        obtain ⟨cs, hcs⟩ := HH3.out.blk
        have ow := H3.out.1.save hS (fun j hj => vown_ne H3.out.1 hcs neWP j hj)
        have ow9 := ow.save hs9 (fun j hj => vown_ne ow HXR.out neW j hj)
        have oc := H3.out.2.1.save hS (fun j hj => vown_ne H3.out.2.1 hcs neCP j hj)
        have oc9 := oc.save hs9 (fun j hj => vown_ne oc HXR.out neC j hj)
        have hH9 := hH.save cPt_len hs9 HGG.out.2.2
        refine bodyPost_ret (resB1 rowCfg rfl (by rfl) hg9 rfl) rfl ⟨⟨a1, V.ws, k1, some ⟨g, 0, none⟩, L, k3, a2, V.cs, k2⟩, by rw [hLl], ?_, ⟨ow9.vec cWin_len, hH9.vec, oc9.vec cCh_len, fun j hj => ⟨(ow9.blk_ge hj).1, vown_block ow9 hj⟩, fun j hj => ?_, fun j hj => ⟨(oc9.blk_ge hj).1, vown_block oc9 hj⟩, fun x hx => ?_⟩, HBE.out.trans (hs9.below HBE.out.size (fun j hj => by have := HBB.out; omega))⟩
        · simp only [CfgV.cfg, HLM.out]
        · obtain rfl : g = j := by simpa [blk] using hj
          exact ⟨HGG.out.1, hH9.blk⟩
        · obtain ⟨j, hj, rfl⟩ := List.getElem_of_mem hx
          have hj2 : j < L.length := hj
          have ho := HLO.out j hj (by omega)
          exact ho.save hs9 (fun i hi => ownb_bx ho HXR.out neU i hi)
end Go.Proofs.Ytpnbaapjjchlbaa

/- config.Parse: walked. -/
namespace Go.Proofs.Ytpnbaapjjchlbaa
open Go Go.RowKit Go.Cit

def canC (K : Cfg) : Bool := ((decide (K.wins.length ≤ 12) && decide (K.parts.length ≤ 6)) && decide (K.chans.length ≤ 8)) && !K.parts.any fun p => decide (512 < p.img.length)
theorem canV_cfg (V : CfgV) : canV V = canC V.cfg := by
  unfold canV canC CfgV.cfg
  simp only [List.length_map, List.any_map]
  rfl
/-- What bytes are read as. -/
def par1 (l : List UInt8) : List Win × St := readL readWin 12 (St.new l)
def par2 (l : List UInt8) : List Pt × St := readL readPt 6 (par1 l).2
def par3 (l : List UInt8) : List Ch × St := readL readCh 8 (par2 l).2
def parC (l : List UInt8) : Cfg := ⟨(par1 l).1, (par2 l).1, (par3 l).1⟩
def parOk (l : List UInt8) : Bool := decide ((par3 l).2.fin = 0) && canC (parC l)
def parK (l : List UInt8) : Cfg := if parOk l then parC l else ⟨[], [], []⟩
def parE (l : List UInt8) : Int := if parOk l then 0 else 110
theorem FreshV.off {B k : Nat} {w w' : World} {V : CfgV} {C : Array Value} {fr : Nat × Nat} (h : FreshV B w V) (hs : Save (· ≠ k) w w') (hk : w.heap[k]? = some (.cells C 26 fr)) : FreshV B w' V := by
  have e : ∀ {E : TypeId} {g : Nat}, (∃ cs, w.heap[g]? = some (.cells cs E (0, 0))) → (E : Nat) ≠ 26 → g ≠ k := by
    rintro E g ⟨cs, hg⟩ hE rfl
    rw [hk] at hg; injection hg with hg; injection hg with _ h2; exact hE h2.symm
  have s : ∀ {E : TypeId} {g : Nat}, (∃ cs, w.heap[g]? = some (.cells cs E (0, 0))) → (E : Nat) ≠ 26 → ∃ cs, w'.heap[g]? = some (.cells cs E (0, 0)) := by
    rintro E g ⟨cs, hg⟩ hE
    exact ⟨cs, (hs.block g (Array.getElem?_eq_some_iff.1 hg).1 (e ⟨cs, hg⟩ hE)).trans hg⟩
  exact ⟨h.win.save cWin_len hs (fun _ j hj => e (h.wb j hj).2 neW), h.pts.save cPt_len hs (fun _ j hj => e (h.pb j hj).2 neP), h.chs.save cCh_len hs (fun _ j hj => e (h.cb j hj).2 neC),
    fun g hg => ⟨(h.wb g hg).1, s (h.wb g hg).2 neW⟩, fun g hg => ⟨(h.pb g hg).1, s (h.pb g hg).2 neP⟩, fun g hg => ⟨(h.cb g hg).1, s (h.cb g hg).2 neC⟩, fun x hx => (h.img x hx).save hs (fun j hj => ownb_bx (h.img x hx) hk neU j hj)⟩
theorem fresh_nil (B : Nat) (w : World) : FreshV B w ⟨none, [], 0, none, [], 0, none, [], 0⟩ :=
  ⟨Vec.nil_ _, Vec.nil_ _, Vec.nil_ _, fun g h => by simp [blk] at h, fun g h => by simp [blk] at h, fun g h => by simp [blk] at h, fun x hx => by simp at hx⟩
theorem save_lt {N : Nat} {S : Nat → Prop} {w w' : World} (h : Save S w w') (hN : N ≤ w.heap.size) (hS : ∀ k, k < N → S k) : Below N w w' := h.below hN hS
set_option maxRecDepth 100000 in
set_option maxHeartbeats 8000000 in
theorem parse_calls (w : World) {a : Option Addr} {l : List UInt8} {c : Nat} (h : Row w a l c) : Calls Try.prog 50 #[.slice a l.length c] w fun e w' => ∃ U : CfgV, e = .returned (.tuple #[.agg (cU U), .int .i64 (parE l)]) ∧ U.cfg = parK l ∧ FreshV w.heap.size w' U ∧ Below w.heap.size w w' := by
  obtain ⟨w0, hw0⟩ : ∃ w0, w0 = w.alloc (.cells #[.slice none 0 0, .slice none 0 0, .slice none 0 0] 26) := ⟨_, rfl⟩
  obtain ⟨R, hR⟩ : ∃ R, R = w.heap.size := ⟨_, rfl⟩
  have B0 : Below w.heap.size w w0 := by rw [hw0]; exact (Below.refl _ w).alloc (Nat.le_refl _) _
  have hxR : w0.heap[R]? = some (.cells #[.slice none 0 0, .slice none 0 0, .slice none 0 0] 26 (0, 0)) := by rw [hw0, hR]; exact heap_alloc_new _ _
  have HN := Lib.hid (newreader_calls w0 (h.stay B0))
  have H0 := Lib.hid (And.intro hxR B0)
  obtain ⟨PE, hPE⟩ : ∃ x, Hid (x = parE l) := ⟨_, rfl⟩
  obtain ⟨PK, hPK⟩ : ∃ x, Hid (x = parK l) := ⟨_, rfl⟩
  rw [← hPE.out, ← hPK.out]
  have hl9 := h.len_le
  clear h hxR B0
  go_enter Try.func50, Try.ntmps50
  go_upto_region 1 with fail
  rw [← hw0, ← hR]
  have HRR := Lib.hid hR
  clear hw0 hR
  go_wp2_with fail
  refine (HN.out).mono ?_
  rintro e w1 ⟨rfl, hRd, hb1⟩
  obtain ⟨b, hb⟩ : ∃ b, b = w0.heap.size := ⟨_, rfl⟩
  obtain ⟨T, hT⟩ : ∃ T, T = w1.heap.size := ⟨_, rfl⟩
  obtain ⟨w2, hw2⟩ : ∃ w2, w2 = w1.alloc (.cells #[.pointer (some ⟨b, 0, none⟩)] 121) := ⟨_, rfl⟩
  have hb2 : Below w1.heap.size w1 w2 := by rw [hw2]; exact (Below.refl _ _).alloc (Nat.le_refl _) _
  have hgv : RdVar w2 T b := by rw [hw2, hT]; exact heap_alloc_new _ _
  rw [← hb, ← hT] at hRd
  have hRd2 := hRd.stay hb2
  have hRb : R < b := by have := (Array.getElem?_eq_some_iff.1 H0.out.1).1; omega
  have hwb : w.heap.size ≤ b := by have := HRR.out; omega
  have hTw : T ≤ w2.heap.size := by rw [hT]; exact hb2.size
  have hB2 : Below w0.heap.size w0 w2 := hb1.trans (hb2.mono hb1.size)
  obtain ⟨L1, hL1⟩ : ∃ x, Hid (x = (par1 l).1) := ⟨_, rfl⟩
  obtain ⟨s1, hs1⟩ : ∃ x, Hid (x = (par1 l).2) := ⟨_, rfl⟩
  obtain ⟨L3, hL3⟩ : ∃ x, Hid (x = (par3 l).1) := ⟨_, rfl⟩
  obtain ⟨s2, hs2⟩ : ∃ x, Hid (x = (par2 l).2) := ⟨_, rfl⟩
  obtain ⟨s3, hs3⟩ : ∃ x, Hid (x = (par3 l).2) := ⟨_, rfl⟩
  have HTB : Hid (T ≠ b) := hgv.ne hRd2
  have HBL : Hid (b < w2.heap.size) := hRd2.lt
  have hk : Calls Try.prog 104 _ w2 fun e w' => ∃ a c, e = .returned (.slice a (par1 l).1.length c) ∧ VOwn cWin 2 52 w2.heap.size w' a (par1 l).1 c ∧ RdAt b T w' b (par1 l).2 ∧ Save (· ≠ b) w2 w' := readw_calls hRd2 hTw T hgv 12 (by decide)
  rw [← hL1.out, ← hs1.out] at hk
  have HK := Lib.hid hk
  have c0 := hgv.cell
  have H2 := Lib.hid (And.intro hgv hB2)
  clear hRd hb1 hb2 hRd2 hgv hB2 HN hk
  go_upto_region 2 with fail
  rw [← hb, ← hw2, ← hT]
  have HBB := Lib.hid hb
  clear hb hw2 hT
  go_wp2_with fail
  refine (HK.out).mono ?_
  rintro e w3 ⟨aw, cw, rfl, hOw, hR3, hS3⟩
  have hTb : T ≠ b := HTB.out
  have hg3 : RdVar w3 T b := H2.out.1.save hS3 hTb
  have hx3 : w3.heap[R]? = some (.cells #[.slice none 0 0, .slice none 0 0, .slice none 0 0] 26 (0, 0)) := (hS3.block R (by have := (Array.getElem?_eq_some_iff.1 (blk_stay H0.out.1 H2.out.2)).1; exact this) (by omega)).trans (blk_stay H0.out.1 H2.out.2)
  obtain ⟨w4, hw4⟩ : ∃ w4, w4 = w3.alloc (.cells #[.slice aw L1.length cw, .slice none 0 0, .slice none 0 0] 26) := ⟨_, rfl⟩
  obtain ⟨C, hC⟩ : ∃ C, C = w3.heap.size := ⟨_, rfl⟩
  have hb4 : Below w3.heap.size w3 w4 := by rw [hw4]; exact (Below.refl _ _).alloc (Nat.le_refl _) _
  have hxC : w4.heap[C]? = some (.cells #[.slice aw L1.length cw, .slice none 0 0, .slice none 0 0] 26 (0, 0)) := by rw [hw4, hC]; exact heap_alloc_new _ _
  have hR4 := hR3.stay hb4
  have hg4 : RdVar w4 T b := blk_stay hg3 hb4
  have hCw : w2.heap.size ≤ C := by rw [hC]; exact hS3.size
  have hC4 : C < w4.heap.size := (Array.getElem?_eq_some_iff.1 hxC).1
  have hTC : T ≤ C := Nat.le_trans hTw hCw
  have hRC : R ≠ C := by have := (Array.getElem?_eq_some_iff.1 hx3).1; omega
  have hbC : b ≠ C := by have := hR3.lt; omega
  have hTC' : T ≠ C := by have := hg3.lt; omega
  obtain ⟨N2, hN2⟩ : ∃ N, N = w2.heap.size := ⟨_, rfl⟩
  have H4 := Lib.hid (And.intro hg4 (And.intro hxC (And.intro (blk_stay hx3 hb4) (And.intro (hOw.stay hb4) (hS3.trans (Save.of hb4))))))
  have hN4 : T ≤ w4.heap.size := Nat.le_trans hTw (Nat.le_trans hS3.size hb4.size)
  have hk : Calls Try.prog 107 _ w4 fun e w' => ∃ a c, ∃ L : List PtV, e = .returned (.slice a L.length c) ∧ L.map PtV.pt = (readL readPt 6 s1).1 ∧ VOwn cPt 5 43 w4.heap.size w' a L c ∧ (∀ x ∈ L, Row w' x.a x.img x.c ∧ (x.img ≠ [] → ∀ g, blk x.a = some g → w4.heap.size ≤ g ∧ blk a ≠ some g)) ∧ RdAt b T w' b (readL readPt 6 s1).2 ∧ Save (· ≠ b) w4 w' := readp_calls hR4 hN4 T hg4 6 (by decide)
  have e2 : readL readPt 6 s1 = par2 l := by rw [hs1.out]; rfl
  rw [e2, ← hs2.out] at hk
  have HK := Lib.hid hk
  have c0 := hg4.cell
  clear hOw hR3 hS3 hg3 hx3 hb4 hxC hR4 hg4 hk e2
  go_upto_region 3 with fail
  rw [← hw4, ← hC]
  have HCC := Lib.hid hC
  clear hw4 hC
  go_wp2_with fail
  refine (HK.out).mono ?_
  rintro e w5 ⟨ap, cp, L2, rfl, hL2, hOp, hIm, hR5, hS5⟩
  have hg5 : RdVar w5 T b := H4.out.1.save hS5 hTb
  have hx5 := (hS5.block R (Array.getElem?_eq_some_iff.1 H4.out.2.2.1).1 (by omega)).trans H4.out.2.2.1
  have hc5 := (hS5.block C hC4 (by omega)).trans H4.out.2.1
  have ow5 := H4.out.2.2.2.1.save hS5 (fun g hg => by have := (H4.out.2.2.2.1.blk_ge hg).1; have := HBL.out; omega)
  have c1 := cells_of hc5 1 rfl
  have f1 := frozen_no hc5 1
  obtain ⟨w6, hw6⟩ : ∃ x, x = w5.setCell ⟨C, 1, none⟩ (.slice ap L2.length cp) := ⟨_, rfl⟩
  have hs6 : Save (· ≠ C) w5 w6 := by rw [hw6]; exact Save.set
  have hc6 : w6.heap[C]? = some (.cells #[.slice aw L1.length cw, .slice ap L2.length cp, .slice none 0 0] 26 (0, 0)) := by rw [hw6]; exact setCell_blk _ hc5
  have hx6 := (hs6.block R (Array.getElem?_eq_some_iff.1 hx5).1 hRC).trans hx5
  have ow6 := ow5.save hs6 (fun g hg => vown_ne ow5 hc5 neW g hg)
  have op6 := hOp.save hs6 (fun g hg => vown_ne hOp hc5 neP g hg)
  have hR6 := hR5.newer hs6 hTC hbC
  have hg6 : RdVar w6 T b := hg5.newer hs6 hTC'
  have im6 : Hid (∀ x ∈ L2, Row w6 x.a x.img x.c ∧ (x.img ≠ [] → ∀ g, blk x.a = some g → w4.heap.size ≤ g)) := fun x hx => ⟨(hIm x hx).1.save' hs6 (fun h g hg => by have := ((hIm x hx).2 h g hg).1; omega), fun h g hg => ((hIm x hx).2 h g hg).1⟩
  have H6 := Lib.hid (And.intro hg6 (And.intro hc6 (And.intro hx6 (And.intro ow6 (And.intro op6 ((H4.out.2.2.2.2.trans hS5)))))))
  have H6S := Lib.hid hs6
  have hN6 : T ≤ w6.heap.size := Nat.le_trans hN4 (Nat.le_trans hS5.size hs6.size)
  have hk : Calls Try.prog 111 _ w6 fun e w' => ∃ a c, e = .returned (.slice a (readL readCh 8 s2).1.length c) ∧ VOwn cCh 5 54 w6.heap.size w' a (readL readCh 8 s2).1 c ∧ RdAt b T w' b (readL readCh 8 s2).2 ∧ Save (· ≠ b) w6 w' := readc_calls hR6 hN6 T hg6 8 (by decide)
  have e2 : readL readCh 8 s2 = par3 l := by rw [hs2.out]; rfl
  rw [e2, ← hL3.out, ← hs3.out] at hk
  have HK := Lib.hid hk
  have HL2 := Lib.hid hL2
  have HS56 : Hid (w4.heap.size ≤ w5.heap.size) := hS5.size
  clear hL2 hOp hIm hR5 hS5 hg5 hx5 hc5 ow5 hs6 hc6 hx6 ow6 op6 hR6 hg6 hk e2 c0
  go_upto_region 4 with fail
  rw [← hw6]
  clear hw6 c1 f1
  have c0 := H6.out.1.cell
  go_wp2_with fail
  refine (HK.out).mono ?_
  rintro e w7 ⟨ac, cc, rfl, hOc, hR7, hS7⟩
  have hx7 := (hS7.block R (Array.getElem?_eq_some_iff.1 H6.out.2.2.1).1 (by omega)).trans H6.out.2.2.1
  have hg7 : RdVar w7 T b := H6.out.1.save hS7 hTb
  have hc7 := (hS7.block C (Array.getElem?_eq_some_iff.1 H6.out.2.1).1 (by omega)).trans H6.out.2.1
  have ow7 := H6.out.2.2.2.1.save hS7 (fun g hg => by have := (H6.out.2.2.2.1.blk_ge hg).1; have := HBL.out; omega)
  have hbig : w2.heap.size ≤ w4.heap.size := H4.out.2.2.2.2.size
  have op7 := H6.out.2.2.2.2.1.save hS7 (fun g hg => by have := (H6.out.2.2.2.2.1.blk_ge hg).1; have := HBL.out; omega)
  have c2 := cells_of hc7 2 rfl
  have f2 := frozen_no hc7 2
  obtain ⟨w8, hw8⟩ : ∃ x, x = w7.setCell ⟨C, 2, none⟩ (.slice ac L3.length cc) := ⟨_, rfl⟩
  have hs8 : Save (· ≠ C) w7 w8 := by rw [hw8]; exact Save.set
  have hc8 : w8.heap[C]? = some (.cells #[.slice aw L1.length cw, .slice ap L2.length cp, .slice ac L3.length cc] 26 (0, 0)) := by rw [hw8]; exact setCell_blk _ hc7
  have hx8 := (hs8.block R (Array.getElem?_eq_some_iff.1 hx7).1 hRC).trans hx7
  have ow8 := ow7.save hs8 (fun g hg => vown_ne ow7 hc7 neW g hg)
  have op8 := op7.save hs8 (fun g hg => vown_ne op7 hc7 neP g hg)
  have oc8 := hOc.save hs8 (fun g hg => vown_ne hOc hc7 neC g hg)
  have hR8 := hR7.newer hs8 hTC hbC
  have hg8 : RdVar w8 T b := hg7.newer hs8 hTC'
  have im8 : ∀ x ∈ L2, Row w8 x.a x.img x.c := fun x hx => ((im6.out x hx).1.save' hS7 (fun h g hg => by have := (im6.out x hx).2 h g hg; have := HBL.out; omega)).save' hs8 (fun h g hg => by have := (im6.out x hx).2 h g hg; omega)
  obtain ⟨V, hV⟩ : ∃ V : CfgV, Hid (V = ⟨aw, L1, cw, ap, L2, cp, ac, L3, cc⟩) := ⟨_, rfl⟩
  have HVA : Hid (V.At w8) := by rw [hV.out]; exact ⟨ow8.vec cWin_len, op8.vec cPt_len, oc8.vec cCh_len, im8⟩
  have HVC : Hid (V.cfg = parC l) := by rw [hV.out, Hid]; unfold CfgV.cfg parC; rw [hL1.out, HL2.out, hL3.out]
  have HX8 := Lib.hid (And.intro hx8 (And.intro hc8 hg8))
  have hB8 : Below w.heap.size w w8 := by
    have h2 : Below w.heap.size w w2 := H0.out.2.trans (H2.out.2.mono H0.out.2.size)
    have h4 : Below w.heap.size w w4 := h2.trans (H4.out.2.2.2.2.below h2.size (fun k hk => by omega))
    have h5 : Below w.heap.size w w6 := h2.trans (H6.out.2.2.2.2.2.below h2.size (fun k hk => by omega)) |>.trans (H6S.out.below (Nat.le_trans h4.size HS56.out) (fun k hk => by have := h2.size; omega))
    exact (h5.trans (hS7.below h5.size (fun k hk => by omega))).trans (hs8.below (Nat.le_trans h5.size hS7.size) (fun k hk => by have := h2.size; omega))
  have HB8 := Lib.hid hB8
  have HK := Lib.hid (rdend_calls hR8)
  have hk := can_calls w8 V HVA.out
  rw [canV_cfg, HVC.out] at hk
  obtain ⟨q, hq⟩ : ∃ q, Hid (q = canC (parC l)) := ⟨_, rfl⟩
  obtain ⟨f, hf⟩ : ∃ f, Hid (f = s3.fin) := ⟨_, rfl⟩
  rw [← hq.out, hV.out] at hk
  rw [← hf.out] at HK
  have HKC := Lib.hid hk
  have c0 := hg8.cell
  clear hx7 hg7 hc7 ow7 op7 hs8 hc8 hx8 ow8 op8 oc8 hR8 hg8 im8 hB8 hk hbig hOc hR7 hS7 H6
  go_upto_region 5 with fail
  rw [← hw8]
  clear hw8 c2 f2
  have HOK : Hid (parOk l = (decide (f = 0) && q)) := by rw [Hid, parOk, hf.out, hq.out, hs3.out]
  obtain ⟨d0, d1, d2⟩ : InBox w8 C ⟨aw, L1, cw, ap, L2, cp, ac, L3, cc⟩ := in_of HX8.out.2.1
  by_cases hf0 : f = 0
  · subst hf0
    go_wp2_with fail
    refine (HK.out).mono ?_
    rintro e w9 ⟨rfl, rfl⟩
    go_wp2_with fail
    refine (HKC.out).mono ?_
    rintro e w10 ⟨rfl, hb10⟩
    have hx10 := blk_stay HX8.out.1 hb10
    have hc10 := blk_stay HX8.out.2.1 hb10
    have HX10 := Lib.hid (And.intro hx10 hc10)
    have HB10 := Lib.hid (HB8.out.trans (hb10.mono HB8.out.size))
    have HVA10 := Lib.hid (HVA.out.stay hb10)
    clear hx10 hc10 hb10 d0 d1 d2 c0
    cases q with
    | true =>
      have e1 : Hid (PE = 0) := by rw [Hid, hPE.out, parE, HOK.out]; rfl
      have e2 : Hid (PK = parC l) := by rw [Hid, hPK.out, parK, HOK.out]; rfl
      obtain ⟨d0, d1, d2⟩ : InBox w10 C ⟨aw, L1, cw, ap, L2, cp, ac, L3, cc⟩ := in_of HX10.out.2
      have hsm : SmallV V := by
        have hcan : canV V = true := by rw [canV_cfg, HVC.out]; exact hq.out.symm
        have hsp := can_spec hcan
        refine ⟨by omega, by omega, by omega, fun x hx => ?_⟩
        have := List.any_eq_false.1 hsp.2.2.2 x hx
        simp [longP] at this
        omega
      have hk := ccopy_calls w10 V HVA10.out hsm
      rw [hV.out] at hk
      have HCP := Lib.hid hk
      clear hk
      go_wp2_with fail
      refine (HCP.out).mono ?_
      rintro e w11 ⟨U, rfl, hU, hF, hb11⟩
      have HU := Lib.hid (And.intro hU (And.intro hF hb11))
      have HXR := Lib.hid (blk_stay HX10.out.1 hb11)
      clear hU hF hb11 d0 d1 d2 HCP
      go_wp2_with ((with_reducible refine wpList_storeB (o := ⟨none, .store _ (.tmp 2) _, _, _, _, _⟩) rowCfg (.tmp 2) (.tmp 30) (by with_unfolding_all rfl) (by with_unfolding_all rfl) (by with_unfolding_all rfl) (by with_unfolding_all rfl) (by with_unfolding_all rfl) HXR.out (by with_unfolding_all rfl) (by with_unfolding_all rfl) (by with_unfolding_all rfl) ?_); intro w12 hg12 hs12)
      have hB11 := HB10.out.trans (HU.out.2.2.mono HB10.out.size)
      refine bodyPost_ret (resB2 rowCfg rfl (by rfl) hg12 rfl) rfl ⟨U, ?_, ?_, (HU.out.2.1.off hs12 HXR.out).low HB10.out.size, hB11.trans (hs12.below hB11.size (fun k hk => by have := HRR.out; omega))⟩
      · rw [e1.out]; rfl
      · rw [HU.out.1, e2.out, ← HVC.out, hV.out]
    | false =>
      have e1 : Hid (PE = 110) := by rw [Hid, hPE.out, parE, HOK.out]; rfl
      have e2 : Hid (PK = ⟨[], [], []⟩) := by rw [Hid, hPK.out, parK, HOK.out]; rfl
      go_wp2_with ((with_reducible refine wpList_storeB (o := ⟨none, .store _ (.tmp 2) _, _, _, _, _⟩) rowCfg (.tmp 2) (.tmp 28) (by with_unfolding_all rfl) (by with_unfolding_all rfl) (by with_unfolding_all rfl) (by with_unfolding_all rfl) (by with_unfolding_all rfl) HX10.out.1 (by with_unfolding_all rfl) (by with_unfolding_all rfl) (by with_unfolding_all rfl) ?_); intro w12 hg12 hs12)
      refine bodyPost_ret (resB2 rowCfg rfl (by rfl) hg12 rfl) rfl ⟨⟨none, [], 0, none, [], 0, none, [], 0⟩, ?_, ?_, fresh_nil _ _, HB10.out.trans (hs12.below HB10.out.size (fun k hk => by have := HRR.out; omega))⟩
      · rw [e1.out]; rfl
      · rw [e2.out]; rfl
  · have e1 : Hid (PE = 110) := by rw [Hid, hPE.out, parE, HOK.out, decide_eq_false hf0]; rfl
    have e2 : Hid (PK = ⟨[], [], []⟩) := by rw [Hid, hPK.out, parK, HOK.out, decide_eq_false hf0]; rfl
    have t1 : ((f : Int) != 0) = true := by simpa using hf0
    clear hf0
    go_wp2_with fail
    refine (HK.out).mono ?_
    rintro e w9 ⟨rfl, rfl⟩
    go_wp2_with ((with_reducible refine wpList_storeB (o := ⟨none, .store _ (.tmp 2) _, _, _, _, _⟩) rowCfg (.tmp 2) (.tmp 28) (by with_unfolding_all rfl) (by with_unfolding_all rfl) (by with_unfolding_all rfl) (by with_unfolding_all rfl) (by with_unfolding_all rfl) HX8.out.1 (by with_unfolding_all rfl) (by with_unfolding_all rfl) (by with_unfolding_all rfl) ?_); intro w12 hg12 hs12)
    refine bodyPost_ret (resB2 rowCfg rfl (by rfl) hg12 rfl) rfl ⟨⟨none, [], 0, none, [], 0, none, [], 0⟩, ?_, ?_, fresh_nil _ _, HB8.out.trans (hs12.below HB8.out.size (fun k hk => by have := HRR.out; omega))⟩
    · rw [e1.out]; rfl
    · rw [e2.out]; rfl
end Go.Proofs.Ytpnbaapjjchlbaa

