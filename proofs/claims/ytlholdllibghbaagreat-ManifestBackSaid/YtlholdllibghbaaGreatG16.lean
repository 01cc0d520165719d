/- Texts of the proof, one behind the other: PrintAll, Parse1. No condition but those that each names. -/
import Derived.Test.YtlholdllibghbaaGreatG15
import Derived.Test.YtlholdllibghbaaGreatG06
/- config.Print: walked whole. -/
namespace Go.Proofs.YtlholdllibghbaaGreat
open Go Go.RowKit Go.Cit

def formV (V : CfgV) : List UInt8 := ((int8 V.ws.length ++ V.ws.flatMap bWin) ++ (int8 V.ps.length ++ V.ps.flatMap bPtV)) ++ (int8 V.cs.length ++ V.cs.flatMap bCh)
def printB (V : CfgV) : List UInt8 := if canV V then formV V else []
def printE (V : CfgV) : Int := if canV V then 0 else 2
theorem int8_len (n : Int) : (int8 n).length = 8 := rowB_length _ _
theorem win_flat : ∀ (l : List Win), (l.flatMap bWin).length = 16 * l.length
  | [] => rfl
  | x :: r => by rw [List.flatMap_cons, List.length_append, win_flat r, List.length_cons]; simp [bWin, int8_len]; omega
theorem ch_flat : ∀ (l : List Ch), (l.flatMap bCh).length = 40 * l.length
  | [] => rfl
  | x :: r => by rw [List.flatMap_cons, List.length_append, ch_flat r, List.length_cons]; simp [bCh, int8_len]; omega
theorem pt_flat : ∀ (l : List PtV), l.any longP = false → (l.flatMap bPtV).length ≤ 541 * l.length
  | [], _ => by simp
  | x :: r, h => by
    rw [List.any_cons, Bool.or_eq_false_iff] at h
    have h1 := h.1
    unfold longP at h1
    have h1 := of_decide_eq_false h1
    rw [List.flatMap_cons, List.length_append, List.length_cons]
    have := pt_flat r h.2
    have h2 : (bPtV x).length = 29 + x.img.length := by simp [bPtV, int8_len, flagB, withB_length]; omega
    omega
theorem can_spec {V : CfgV} (h : canV V = true) : V.ws.length ≤ 12 ∧ V.ps.length ≤ 6 ∧ V.cs.length ≤ 8 ∧ V.ps.any longP = false := by
  unfold canV at h
  simp only [Bool.and_eq_true, decide_eq_true_eq, Bool.not_eq_true'] at h
  exact ⟨h.1.1.1, h.1.1.2, h.1.2, h.2⟩
theorem Wr.old {base N : Nat} {w b a l c e} (h : Wr base w b a l c e) (hN : N ≤ base) : ∀ k, k < N → Off b a k := fun k hk => ⟨by have := h.ge; omega, fun e => by have := (h.own.blk_ge e.symm).1; omega⟩
set_option maxRecDepth 100000 in
set_option maxHeartbeats 4000000 in
theorem print_calls (w : World) (V : CfgV) (h : V.At w) (hs : SmallV V) : Calls Tryz.prog 107 #[.agg #[.slice V.wa V.ws.length V.wc, .slice V.pa V.ps.length V.pc, .slice V.ca V.cs.length V.cc]] w fun e w' => ∃ a' c', e = .returned (.tuple #[.slice a' (printB V).length c', .int .i64 (printE V)]) ∧ Mine w.heap.size w' a' (printB V) c' ∧ Below w.heap.size w w' := by
  obtain ⟨w0, hw0⟩ : ∃ w0, w0 = w.alloc (.cells #[.slice V.wa V.ws.length V.wc, .slice V.pa V.ps.length V.pc, .slice V.ca V.cs.length V.cc] 26) := ⟨_, rfl⟩
  have B0 : Below w.heap.size w w0 := by rw [hw0]; exact (Below.refl _ w).alloc (Nat.le_refl _) _
  have hI : InBox w0 w.heap.size V := by rw [hw0]; exact inBox_new w V _
  have HV := Lib.hid (h.stay B0)
  have HI := Lib.hid hI
  have HB0 := Lib.hid B0
  obtain ⟨g, hg⟩ : ∃ g, Hid (g = canV V) := ⟨_, rfl⟩
  have hc := can_calls w0 V (h.stay B0)
  rw [← hg.out] at hc
  have HC := Lib.hid hc
  clear h B0 hI hc
  obtain ⟨c0, c1, c2⟩ := HI.out
  obtain ⟨PB, hPB⟩ : ∃ PB, Hid (PB = printB V) := ⟨_, rfl⟩
  obtain ⟨PE, hPE⟩ : ∃ PE, Hid (PE = printE V) := ⟨_, rfl⟩
  rw [← hPB.out, ← hPE.out]
  go_enter Tryz.func107, Tryz.ntmps107
  go_wp2_with fail
  rw [← hw0]
  clear hw0
  refine (HC.out).mono ?_
  rintro e w1 ⟨rfl, hb1⟩
  have HB1 := Lib.hid hb1
  clear hb1 c0 c1 c2 HC
  cases g with
  | false =>
    have e1 : Hid (PB = []) := by rw [Hid, hPB.out]; unfold printB; rw [← hg.out]; rfl
    have e2 : Hid (PE = 2) := by rw [Hid, hPE.out]; unfold printE; rw [← hg.out]; rfl
    go_wp2_with fail
    go_ret2
    exact ⟨none, 0, by rw [e1.out, e2.out]; rfl, by rw [e1.out]; exact Mine.nil _ _, HB0.out.trans (HB1.out.mono HB0.out.size)⟩
  | true =>
    have e1 : Hid (PB = formV V) := by rw [Hid, hPB.out]; unfold printB; rw [← hg.out]; rfl
    have e2 : Hid (PE = 0) := by rw [Hid, hPE.out]; unfold printE; rw [← hg.out]; rfl
    have hcan := can_spec hg.out.symm
    have hlw := win_flat V.ws
    have hlc := ch_flat V.cs
    have hlp := pt_flat V.ps hcan.2.2.2
    have HL : Hid ((V.ws.flatMap bWin).length ≤ 192 ∧ (V.ps.flatMap bPtV).length ≤ 3246 ∧ (V.cs.flatMap bCh).length ≤ 320) := ⟨by omega, by omega, by omega⟩
    clear hcan hlw hlc hlp
    have HN := Lib.hid (newwriter_calls w1)
    go_wp2_with fail
    refine (HN.out).mono ?_
    rintro e w2 ⟨rfl, hW, hb2⟩
    obtain ⟨b, hb⟩ : ∃ b, b = w1.heap.size := ⟨_, rfl⟩
    rw [← hb] at hW
    have hb02 := HB1.out.trans (hb2.mono HB1.out.size)
    have hNb : w0.heap.size ≤ b := by rw [hb]; exact HB1.out.size
    have hb12 : b ≤ w2.heap.size := by rw [hb]; exact hb2.size
    obtain ⟨w3, hw3⟩ : ∃ w3, w3 = w2.alloc (.cells #[.pointer (some ⟨b, 0, none⟩)] 94) := ⟨_, rfl⟩
    obtain ⟨g, hgg⟩ : ∃ g, g = w2.heap.size := ⟨_, rfl⟩
    have hb3 : Below w2.heap.size w2 w3 := by rw [hw3]; exact (Below.refl _ _).alloc (Nat.le_refl _) _
    have hgx : w3.heap[g]? = some (.cells #[.pointer (some ⟨b, 0, none⟩)] 94 (0, 0)) := by rw [hw3, hgg]; exact heap_alloc_new _ _
    have hW3 := hW.stay hb3
    have hb03 := hb02.trans (hb3.mono hb02.size)
    have HW3 := Lib.hid (And.intro hW3 (And.intro hgx hb03))
    have HNB := Lib.hid (And.intro hNb (Nat.le_trans hb12 hb3.size))
    have hk := listW_calls hW3 (Nat.le_trans hb12 hb3.size) g hgx hb03 hNb HV.out.win (by have := HL.out.1; show 0 + 8 + _ ≤ _; omega)
    have HK := Lib.hid hk
    have hp : w3.cell? ⟨g, 0, none⟩ = some (.pointer (some ⟨b, 0, none⟩)) := cells_of hgx 0 rfl
    obtain ⟨c0, c1, c2⟩ := HI.out.keep hb03
    have HGO : Hid (g < w3.heap.size) := (Array.getElem?_eq_some_iff.1 hgx).1
    clear hW hb2 hb02 hNb hb12 hb3 hgx hW3 hb03 hk HN
    go_upto_region 4 with fail
    rw [← hb, ← hw3, ← hgg]
    have HZ3 : Hid (w1.heap.size ≤ w3.heap.size) := by rw [← hb]; exact HNB.out.2
    have HB9 : Hid (b ≤ w1.heap.size) := by rw [hb]; exact Nat.le_refl _
    clear hb hw3 hgg
    go_wp2_with fail
    refine (HK.out).mono ?_
    rintro e w4 ⟨rfl, a4, X4, k4, H4, hW, hS, hN⟩
    have hBel := HW3.out.1.old HNB.out.1
    have hb4 : Below w0.heap.size w0 w4 := HW3.out.2.2.trans (hS.below HW3.out.2.2.size hBel)
    have hgo : Off b none g := ⟨by rintro rfl; have := HW3.out.1.blk; rw [HW3.out.2.1] at this; simp at this, fun e => own_ne HW3.out.1.own HW3.out.2.1 (by decide) e.symm⟩
    have hg4 : w4.heap[g]? = some (.cells #[.pointer (some ⟨b, 0, none⟩)] 94 (0, 0)) := (hS.block g (Array.getElem?_eq_some_iff.1 HW3.out.2.1).1 hgo).trans HW3.out.2.1
    have HW4 := Lib.hid (And.intro hW (And.intro hg4 hb4))
    have HZ4 : Hid (w1.heap.size ≤ w4.heap.size) := Nat.le_trans HZ3.out hS.size
    have hk := listP_calls hW (Nat.le_trans HB9.out HZ4.out) g hg4 hb4 HNB.out.1 HV.out.pts HV.out.img (by have := HL.out.2.1; rw [H4.out]; simp only [List.length_append, List.length_nil, int8_len]; have := HL.out.1; omega)
    have HK := Lib.hid hk
    have hp : w4.cell? ⟨g, 0, none⟩ = some (.pointer (some ⟨b, 0, none⟩)) := cells_of hg4 0 rfl
    obtain ⟨c0, c1, c2⟩ := HI.out.keep hb4
    clear hW hS hN hBel hb4 hgo hg4 hk HW3
    go_wp2_with fail
    refine (HK.out).mono ?_
    rintro e w5 ⟨rfl, a5, X5, k5, H5, hW, hS, hN⟩
    have hBel := HW4.out.1.old HNB.out.1
    have hb5 : Below w0.heap.size w0 w5 := HW4.out.2.2.trans (hS.below HW4.out.2.2.size hBel)
    have hgo : Off b a4 g := ⟨by rintro rfl; have := HW4.out.1.blk; rw [HW4.out.2.1] at this; simp at this, fun e => own_ne HW4.out.1.own HW4.out.2.1 (by decide) e.symm⟩
    have hg5 : w5.heap[g]? = some (.cells #[.pointer (some ⟨b, 0, none⟩)] 94 (0, 0)) := (hS.block g (Array.getElem?_eq_some_iff.1 HW4.out.2.1).1 hgo).trans HW4.out.2.1
    have HW5 := Lib.hid (And.intro hW (And.intro hg5 hb5))
    have HZ5 : Hid (w1.heap.size ≤ w5.heap.size) := Nat.le_trans HZ4.out hS.size
    have hk := listC_calls hW (Nat.le_trans HB9.out HZ5.out) g hg5 hb5 HNB.out.1 HV.out.chs (by have := HL.out.2.2; rw [H5.out, H4.out]; simp only [List.length_append, List.length_nil, int8_len]; have := HL.out.1; have := HL.out.2.1; omega)
    have HK := Lib.hid hk
    have hp : w5.cell? ⟨g, 0, none⟩ = some (.pointer (some ⟨b, 0, none⟩)) := cells_of hg5 0 rfl
    obtain ⟨c0, c1, c2⟩ := HI.out.keep hb5
    clear hW hS hN hBel hb5 hgo hg5 hk HW4
    go_wp2_with fail
    refine (HK.out).mono ?_
    rintro e w6 ⟨rfl, a6, X6, k6, H6, hW, hS, hN⟩
    have hBel := HW5.out.1.old HNB.out.1
    have hb6 : Below w0.heap.size w0 w6 := HW5.out.2.2.trans (hS.below HW5.out.2.2.size hBel)
    have hgo : Off b a5 g := ⟨by rintro rfl; have := HW5.out.1.blk; rw [HW5.out.2.1] at this; simp at this, fun e => own_ne HW5.out.1.own HW5.out.2.1 (by decide) e.symm⟩
    have hg6 : w6.heap[g]? = some (.cells #[.pointer (some ⟨b, 0, none⟩)] 94 (0, 0)) := (hS.block g (Array.getElem?_eq_some_iff.1 HW5.out.2.1).1 hgo).trans HW5.out.2.1
    have HW6 := Lib.hid (And.intro hW (And.intro hg6 hb6))
    have HZ6 : Hid (w1.heap.size ≤ w6.heap.size) := Nat.le_trans HZ5.out hS.size
    have HX : Hid (X6 = PB) := by rw [Hid, e1.out, H6.out, H5.out, H4.out]; simp [formV]
    have hp : w6.cell? ⟨g, 0, none⟩ = some (.pointer (some ⟨b, 0, none⟩)) := cells_of hg6 0 rfl
    have HD := Lib.hid (done_calls hW)
    have HB6 := Lib.hid hb6
    clear hW hS hN hBel hb6 hgo hg6 HW5 c0 c1 c2
    go_wp2_with fail
    refine (HD.out).mono ?_
    rintro e w7 ⟨a7, X7, c7, H7, rfl, hM, hb7⟩
    have HM := Lib.hid hM
    have HB7 := Lib.hid (HB6.out.trans (hb7.mono HB6.out.size))
    have HX7 : Hid (X7 = PB) := by rw [Hid, H7.out, HX.out]
    clear hM hb7
    go_wp2_with fail
    go_ret2
    exact ⟨a7, c7, by rw [← HX7.out, e2.out]; rfl, by rw [← HX7.out]; exact HM.out.low (Nat.le_trans HB0.out.size (Nat.le_trans HB1.out.size HZ6.out)), HB0.out.trans (HB7.out.mono HB0.out.size)⟩
end Go.Proofs.YtlholdllibghbaaGreat

/- config.Parse: its closures: walked. -/
namespace Go.Proofs.YtlholdllibghbaaGreat
open Go Go.RowKit Go.Cit

def St.int (s : St) : I64 × St := (mkI (s.read 8 fInt 0).1, (s.read 8 fInt 0).2)
def readWin (s : St) : Win × St := (⟨s.int.1, s.int.2.int.1⟩, s.int.2.int.2)
def readCh (s : St) : Ch × St := (⟨s.int.1, s.int.2.int.1, s.int.2.int.2.int.1, s.int.2.int.2.int.2.int.1, s.int.2.int.2.int.2.int.2.int.1⟩, s.int.2.int.2.int.2.int.2.int.2)
def readPt (s : St) : Pt × St := (⟨s.int.1, ⟨s.int.2.int.1, s.int.2.int.2.int.1⟩, (s.int.2.int.2.int.2.read 1 fFlag false).1, (s.int.2.int.2.int.2.read 1 fFlag false).2.bytes.1⟩, (s.int.2.int.2.int.2.read 1 fFlag false).2.bytes.2)
theorem wrap_range (n : Int) : -9223372036854775808 ≤ wrap64 n ∧ wrap64 n ≤ 9223372036854775807 := by unfold wrap64; omega
theorem int_range (s : St) : -9223372036854775808 ≤ (s.read 8 fInt 0).1 ∧ (s.read 8 fInt 0).1 ≤ 9223372036854775807 := by
  unfold St.read
  split
  · split
    · exact wrap_range _
    · exact ⟨by show (-9223372036854775808 : Int) ≤ 0; decide, by show (0 : Int) ≤ 9223372036854775807; decide⟩
  · exact ⟨by show (-9223372036854775808 : Int) ≤ 0; decide, by show (0 : Int) ≤ 9223372036854775807; decide⟩
theorem int_val (s : St) : s.int.1.1 = (s.read 8 fInt 0).1 := mkI_val (int_range s)
theorem rdint_calls {base top w b s} (h : RdAt base top w b s) : Calls Tryz.prog 57 #[.pointer (some ⟨b, 0, none⟩)] w fun r w' => r = .returned (.int .i64 s.int.1.1) ∧ RdAt base top w' b s.int.2 ∧ Save (· ≠ b) w w' := by
  obtain ⟨a, c, h⟩ := h
  have := rint_calls h
  rw [int_val]
  exact this
theorem rdflag_calls {base top w b s} (h : RdAt base top w b s) : Calls Tryz.prog 137 #[.pointer (some ⟨b, 0, none⟩)] w fun r w' => r = .returned (.bool (s.read 1 fFlag false).1) ∧ RdAt base top w' b (s.read 1 fFlag false).2 ∧ Save (· ≠ b) w w' := by
  obtain ⟨a, c, h⟩ := h
  exact rflag_calls h
theorem rdbytes_calls {base top w b s} (h : RdAt base top w b s) : Calls Tryz.prog 60 #[.pointer (some ⟨b, 0, none⟩)] w (Got base top w b s.bytes) := by
  obtain ⟨a, c, h⟩ := h
  exact rbytes_calls h
theorem rdcount_calls {base top w b s} (h : RdAt base top w b s) (most : Int) : Calls Tryz.prog 172 #[.pointer (some ⟨b, 0, none⟩), .int .i64 most] w fun r w' => r = .returned (.int .i64 (s.count most).1) ∧ RdAt base top w' b (s.count most).2 ∧ Save (· ≠ b) w w' := by
  obtain ⟨a, c, h⟩ := h
  exact rcount_calls h most
theorem rdend_calls {base top w b s} (h : RdAt base top w b s) : Calls Tryz.prog 61 #[.pointer (some ⟨b, 0, none⟩)] w fun r w' => r = .returned (.int .i64 s.fin) ∧ w = w' := by
  obtain ⟨a, c, h⟩ := h
  exact wrend_calls h
theorem RdAt.lt {base top w b s} (h : RdAt base top w b s) : b < w.heap.size := by obtain ⟨_, _, h⟩ := h; exact h.lt
theorem rowW2 : RowType Tryz.prog 77 2 := ⟨⟨_, Tryz.underlying77, rfl⟩, by kernel_rfl⟩
def RdVar (w : World) (g b : Nat) : Prop := w.heap[g]? = some (.cells #[.pointer (some ⟨b, 0, none⟩)] 100 (0, 0))
theorem RdVar.ne {base top w b s g} (h : RdVar w g b) (k : RdAt base top w b s) : g ≠ b := by
  rintro rfl
  obtain ⟨_, _, k⟩ := k
  have := k.blk
  rw [h] at this; simp at this
theorem RdVar.save {w w' : World} {g b : Nat} (h : RdVar w g b) (hs : Save (· ≠ b) w w') (hne : g ≠ b) : RdVar w' g b := (hs.block g (Array.getElem?_eq_some_iff.1 h).1 hne).trans h
theorem RdVar.cell {w : World} {g b : Nat} (h : RdVar w g b) : w.cell? ⟨g, 0, none⟩ = some (.pointer (some ⟨b, 0, none⟩)) := cells_of h 0 rfl

theorem save_newer {b p : Nat} {w w3 w4 : World} (h1 : Save (· ≠ b) w w3) (h2 : Save (· ≠ p) w3 w4) (hp : w.heap.size ≤ p) : Save (· ≠ b) w w4 :=
  ⟨h2.os.trans h1.os, h2.tape.trans h1.tape, h2.output.trans h1.output, Nat.le_trans h1.size h2.size, fun k hk hs => (h2.block k (Nat.lt_of_lt_of_le hk h1.size) (by omega)).trans (h1.block k hk hs)⟩
theorem RdAt.newer {base top w w' b s p} (h : RdAt base top w b s) (hs : Save (· ≠ p) w w') (hp : top ≤ p) (hb : b ≠ p) : RdAt base top w' b s := h.save hs hb fun g _ hg => by omega
theorem RdVar.newer {w w' : World} {g b p : Nat} (h : RdVar w g b) (hs : Save (· ≠ p) w w') (hne : g ≠ p) : RdVar w' g b := (hs.block g (Array.getElem?_eq_some_iff.1 h).1 hne).trans h
theorem RdVar.lt {w : World} {g b : Nat} (h : RdVar w g b) : g < w.heap.size := (Array.getElem?_eq_some_iff.1 h).1
def readN {α : Type} (f : St → α × St) : Nat → St → List α × St
  | 0, s => ([], s)
  | n + 1, s => ((readN f n s).1 ++ [(f (readN f n s).2).1], (f (readN f n s).2).2)
def readL {α : Type} (f : St → α × St) (most : Int) (s : St) : List α × St := readN f (s.count most).1.toNat (s.count most).2
theorem readN_len {α : Type} (f : St → α × St) : ∀ (n : Nat) (s : St), (readN f n s).1.length = n
  | 0, _ => rfl
  | n + 1, s => by rw [readN, List.length_append, readN_len f n s]; rfl
theorem count_range (s : St) (most : Int) (h : 0 ≤ most) : 0 ≤ (s.count most).1 ∧ (s.count most).1 ≤ most := by
  unfold St.count
  split
  · split
    · exact ⟨by omega, by omega⟩
    · exact ⟨Int.le_refl _, h⟩
  · exact ⟨Int.le_refl _, h⟩
set_option maxRecDepth 100000 in
set_option maxHeartbeats 4000000 in
theorem paw_calls {base top w b s} (h : RdAt base top w b s) (htop : top ≤ w.heap.size) (g : Nat) (hg : RdVar w g b) : Calls Tryz.prog 134 (#[] ++ #[.pointer (some ⟨g, 0, none⟩)]) w fun e w' => e = .returned (.agg #[.int .i64 (readWin s).1.len.1, .int .i64 (readWin s).1.part.1]) ∧ RdAt base top w' b (readWin s).2 ∧ Save (· ≠ b) w w' := by
  show Calls Tryz.prog 134 #[.pointer (some ⟨g, 0, none⟩)] w _
  have hgb := hg.ne h
  obtain ⟨w1, hw1⟩ : ∃ w1, w1 = w.alloc (.cells #[.int .i64 0, .int .i64 0] 77) := ⟨_, rfl⟩
  obtain ⟨p, hp⟩ : ∃ p, p = w.heap.size := ⟨_, rfl⟩
  have hb1 : Below w.heap.size w w1 := by rw [hw1]; exact (Below.refl _ w).alloc (Nat.le_refl _) _
  have hx : w1.heap[p]? = some (.cells #[.int .i64 0, .int .i64 0] 77 (0, 0)) := by rw [hw1, hp]; exact heap_alloc_new _ _
  have hblt := h.lt
  have hpb : p ≠ b := by omega
  have hpw : w.heap.size ≤ p := by omega
  have hg1 : RdVar w1 g b := blk_stay hg hb1
  have c0 := hg1.cell
  have HK := Lib.hid (rdint_calls (h.stay hb1))
  have HS := Lib.hid (And.intro hb1 (And.intro hx hg1))
  obtain ⟨n, hn⟩ : ∃ n, Hid (n = s.int.1.1) := ⟨_, rfl⟩
  obtain ⟨n2, hn2⟩ : ∃ n, Hid (n = s.int.2.int.1.1) := ⟨_, rfl⟩
  rw [← hn.out] at HK
  clear h hg hb1 hx hg1
  go_enter Tryz.func134, Tryz.ntmps134
  go_upto_region 1 with fail
  rw [← hw1, ← hp]
  have HPP := Lib.hid hp
  clear hw1 hp
  go_wp2_with fail
  refine (HK.out).mono ?_
  rintro e w2 ⟨rfl, hR, hS⟩
  have hg2 : RdVar w2 g b := HS.out.2.2.save hS hgb
  have HK2 := Lib.hid (rdint_calls hR)
  rw [← hn2.out] at HK2
  have hx2 := (hS.block p (Array.getElem?_eq_some_iff.1 HS.out.2.1).1 hpb).trans HS.out.2.1
  have HS2 := Lib.hid (And.intro hS (And.intro hx2 hg2))
  have c0 := hg2.cell
  clear hR hS hg2 hx2 HK
  go_wp2_with fail
  refine (HK2.out).mono ?_
  rintro e w3 ⟨rfl, hR, hS⟩
  have hx3 := (hS.block p (Array.getElem?_eq_some_iff.1 HS2.out.2.1).1 hpb).trans HS2.out.2.1
  have HS3 := Lib.hid (And.intro hR (And.intro ((Save.of HS.out.1).trans (HS2.out.1.trans hS)) hx3))
  clear hR hS hx3 HK2 c0
  go_wp2_with ((with_reducible refine wpList_storeB (o := ⟨none, .store _ (.tmp 1) _, _, _, _, _⟩) rowW2 (.tmp 1) (.tmp 8) (by with_unfolding_all rfl) (by with_unfolding_all rfl) (by with_unfolding_all rfl) (by with_unfolding_all rfl) (by with_unfolding_all rfl) HS3.out.2.2 (by with_unfolding_all rfl) (by with_unfolding_all rfl) (by with_unfolding_all rfl) ?_); intro w4 hg4 hs4)
  refine bodyPost_ret (resB1 rowW2 rfl (by rfl) hg4 rfl) rfl ⟨by rw [hn.out, hn2.out]; rfl, HS3.out.1.newer hs4 (Nat.le_trans htop hpw) (by omega), save_newer HS3.out.2.1 hs4 hpw⟩
set_option maxRecDepth 100000 in
set_option maxHeartbeats 8000000 in
theorem pap_calls {base top w b s} (h : RdAt base top w b s) (htop : top ≤ w.heap.size) (g : Nat) (hg : RdVar w g b) : Calls Tryz.prog 136 (#[] ++ #[.pointer (some ⟨g, 0, none⟩)]) w fun e w' => ∃ x : PtV, e = .returned (.agg (cA x)) ∧ x.pt = (readPt s).1 ∧ Row w' x.a x.img x.c ∧ (x.img ≠ [] → ∀ g, blk x.a = some g → w.heap.size ≤ g) ∧ RdAt base top w' b (readPt s).2 ∧ Save (· ≠ b) w w' := by
  show Calls Tryz.prog 136 #[.pointer (some ⟨g, 0, none⟩)] w _
  have hgb := hg.ne h
  have hglt := hg.lt
  have hblt := h.lt
  obtain ⟨w1, hw1⟩ : ∃ w1, w1 = w.alloc (.cells #[.int .i64 0, .int .i64 0, .int .i64 0, .bool false, .slice none 0 0] 46) := ⟨_, rfl⟩
  obtain ⟨p, hp⟩ : ∃ p, p = w.heap.size := ⟨_, rfl⟩
  have hb1 : Below w.heap.size w w1 := by rw [hw1]; exact (Below.refl _ w).alloc (Nat.le_refl _) _
  have hx : w1.heap[p]? = some (.cells #[.int .i64 0, .int .i64 0, .int .i64 0, .bool false, .slice none 0 0] 46 (0, 0)) := by rw [hw1, hp]; exact heap_alloc_new _ _
  have hpb : p ≠ b := by omega
  have hpw : w.heap.size ≤ p := by omega
  have hg1 : RdVar w1 g b := blk_stay hg hb1
  have hR := h.stay hb1
  have HS1 := Lib.hid (And.intro (Save.of (S := (· ≠ b)) hb1) (And.intro hx hg1))
  clear h hg hb1 hx hg1
  go_enter Tryz.func136, Tryz.ntmps136
  go_upto_region 1 with fail
  rw [← hw1, ← hp]
  have HPP := Lib.hid hp
  clear hw1 hp
  obtain ⟨n0, hn0⟩ : ∃ n, Hid (n = (s).int.1.1) := ⟨_, rfl⟩
  obtain ⟨n1, hn1⟩ : ∃ n, Hid (n = ((s).int.2).int.1.1) := ⟨_, rfl⟩
  obtain ⟨n2, hn2⟩ : ∃ n, Hid (n = (((s).int.2).int.2).int.1.1) := ⟨_, rfl⟩
  obtain ⟨n3, hn3⟩ : ∃ n, Hid (n = (((((s).int.2).int.2).int.2).read 1 fFlag false).1) := ⟨_, rfl⟩
  have c0 := HS1.out.2.2.cell
  have HK := Lib.hid (rdint_calls hR)
  rw [← hn0.out] at HK
  clear hR
  go_wp2_with fail
  refine (HK.out).mono ?_
  rintro e v0 ⟨rfl, hR, hS⟩
  have hx := (hS.block p (Array.getElem?_eq_some_iff.1 HS1.out.2.1).1 hpb).trans HS1.out.2.1
  have hgv : RdVar v0 g b := HS1.out.2.2.save hS hgb
  have hSS := HS1.out.1.trans hS
  obtain ⟨p2, hp2⟩ : ∃ p2, p2 = v0.heap.size := ⟨_, rfl⟩
  obtain ⟨x0, hx0⟩ : ∃ x0, x0 = v0.alloc (.cells #[.int .i64 n0, .int .i64 0, .int .i64 0, .bool false, .slice none 0 0] 46) := ⟨_, rfl⟩
  have hb0 : Below v0.heap.size v0 x0 := by rw [hx0]; exact (Below.refl _ _).alloc (Nat.le_refl _) _
  have hq : x0.heap[p2]? = some (.cells #[.int .i64 n0, .int .i64 0, .int .i64 0, .bool false, .slice none 0 0] 46 (0, 0)) := by rw [hx0, hp2]; exact heap_alloc_new _ _
  have hp2w : w.heap.size ≤ p2 := by rw [hp2]; exact hSS.size
  have hp2p : p2 ≠ p := by have := (Array.getElem?_eq_some_iff.1 hx).1; omega
  have hR := hR.stay hb0
  have HS2 := Lib.hid (And.intro (hSS.trans (Save.of hb0)) (And.intro (blk_stay hx hb0) (And.intro (show RdVar x0 g b from blk_stay hgv hb0) hq)))
  clear hx hgv hSS hS hb0 hq HS1 HK c0
  go_upto_region 2 with fail
  rw [← hx0, ← hp2]
  have HPQ := Lib.hid hp2
  clear hx0 hp2
  have c0 := HS2.out.2.2.1.cell
  have HK := Lib.hid (rdint_calls hR)
  rw [← hn1.out] at HK
  clear hR
  go_wp2_with fail
  refine (HK.out).mono ?_
  rintro e v1 ⟨rfl, hR, hS⟩
  have hx := (hS.block p (Array.getElem?_eq_some_iff.1 HS2.out.2.1).1 hpb).trans HS2.out.2.1
  have hgv : RdVar v1 g b := HS2.out.2.2.1.save hS hgb
  have hSS := HS2.out.1.trans hS
  have hq := (hS.block p2 (Array.getElem?_eq_some_iff.1 HS2.out.2.2.2).1 (by omega)).trans HS2.out.2.2.2
  have d0 := cells_of hq 1 rfl
  have f0 := frozen_no hq 1
  obtain ⟨x1, hx1⟩ : ∃ x, x = v1.setCell ⟨p2, 1, none⟩ (.int .i64 n1) := ⟨_, rfl⟩
  have hs : Save (· ≠ p2) v1 x1 := by rw [hx1]; exact Save.set
  have hq2 : x1.heap[p2]? = some (.cells #[.int .i64 n0, .int .i64 n1, .int .i64 0, .bool false, .slice none 0 0] 46 (0, 0)) := by rw [hx1]; exact setCell_blk _ hq
  have hR := hR.newer hs (Nat.le_trans htop hp2w) (by omega)
  have HS3 := Lib.hid (And.intro (save_newer hSS hs hp2w) (And.intro ((hs.block p (Array.getElem?_eq_some_iff.1 hx).1 (by omega)).trans hx) (And.intro (hgv.newer hs (by omega)) hq2)))
  clear hx hgv hSS hS hs hq hq2 HS2 HK c0
  go_upto_region 3 with fail
  rw [← hx1]
  clear hx1 d0 f0
  have c0 := HS3.out.2.2.1.cell
  have HK := Lib.hid (rdint_calls hR)
  rw [← hn2.out] at HK
  clear hR
  go_wp2_with fail
  refine (HK.out).mono ?_
  rintro e v2 ⟨rfl, hR, hS⟩
  have hx := (hS.block p (Array.getElem?_eq_some_iff.1 HS3.out.2.1).1 hpb).trans HS3.out.2.1
  have hgv : RdVar v2 g b := HS3.out.2.2.1.save hS hgb
  have hSS := HS3.out.1.trans hS
  have hq := (hS.block p2 (Array.getElem?_eq_some_iff.1 HS3.out.2.2.2).1 (by omega)).trans HS3.out.2.2.2
  have d0 := cells_of hq 2 rfl
  have f0 := frozen_no hq 2
  obtain ⟨x2, hx2⟩ : ∃ x, x = v2.setCell ⟨p2, 2, none⟩ (.int .i64 n2) := ⟨_, rfl⟩
  have hs : Save (· ≠ p2) v2 x2 := by rw [hx2]; exact Save.set
  have hq2 : x2.heap[p2]? = some (.cells #[.int .i64 n0, .int .i64 n1, .int .i64 n2, .bool false, .slice none 0 0] 46 (0, 0)) := by rw [hx2]; exact setCell_blk _ hq
  have hR := hR.newer hs (Nat.le_trans htop hp2w) (by omega)
  have HS4 := Lib.hid (And.intro (save_newer hSS hs hp2w) (And.intro ((hs.block p (Array.getElem?_eq_some_iff.1 hx).1 (by omega)).trans hx) (And.intro (hgv.newer hs (by omega)) hq2)))
  clear hx hgv hSS hS hs hq hq2 HS3 HK c0
  go_upto_region 4 with fail
  rw [← hx2]
  clear hx2 d0 f0
  have c0 := HS4.out.2.2.1.cell
  have HK := Lib.hid (rdflag_calls hR)
  rw [← hn3.out] at HK
  clear hR
  go_wp2_with fail
  refine (HK.out).mono ?_
  rintro e v3 ⟨rfl, hR, hS⟩
  have hx := (hS.block p (Array.getElem?_eq_some_iff.1 HS4.out.2.1).1 hpb).trans HS4.out.2.1
  have hgv : RdVar v3 g b := HS4.out.2.2.1.save hS hgb
  have hSS := HS4.out.1.trans hS
  have hq := (hS.block p2 (Array.getElem?_eq_some_iff.1 HS4.out.2.2.2).1 (by omega)).trans HS4.out.2.2.2
  have d0 := cells_of hq 3 rfl
  have f0 := frozen_no hq 3
  obtain ⟨x3, hx3⟩ : ∃ x, x = v3.setCell ⟨p2, 3, none⟩ (.bool n3) := ⟨_, rfl⟩
  have hs : Save (· ≠ p2) v3 x3 := by rw [hx3]; exact Save.set
  have hq2 : x3.heap[p2]? = some (.cells #[.int .i64 n0, .int .i64 n1, .int .i64 n2, .bool n3, .slice none 0 0] 46 (0, 0)) := by rw [hx3]; exact setCell_blk _ hq
  have hR := hR.newer hs (Nat.le_trans htop hp2w) (by omega)
  have HS5 := Lib.hid (And.intro (save_newer hSS hs hp2w) (And.intro ((hs.block p (Array.getElem?_eq_some_iff.1 hx).1 (by omega)).trans hx) (And.intro (hgv.newer hs (by omega)) hq2)))
  clear hx hgv hSS hS hs hq hq2 HS4 HK c0
  go_upto_region 5 with fail
  rw [← hx3]
  clear hx3 d0 f0
  have c0 := HS5.out.2.2.1.cell
  have HK := Lib.hid (rdbytes_calls hR)
  clear hR
  go_wp2_with fail
  refine (HK.out).mono ?_
  rintro e v4 ⟨aY, Y, cY, HY, rfl, hM, hR, hS⟩
  have hx := (hS.block p (Array.getElem?_eq_some_iff.1 HS5.out.2.1).1 hpb).trans HS5.out.2.1
  have hgv : RdVar v4 g b := HS5.out.2.2.1.save hS hgb
  have hSS := HS5.out.1.trans hS
  have hq := (hS.block p2 (Array.getElem?_eq_some_iff.1 HS5.out.2.2.2).1 (by omega)).trans HS5.out.2.2.2
  have d0 := cells_of hq 4 rfl
  have f0 := frozen_no hq 4
  obtain ⟨x4, hx4⟩ : ∃ x, x = v4.setCell ⟨p2, 4, none⟩ (.slice aY Y.length cY) := ⟨_, rfl⟩
  have hs : Save (· ≠ p2) v4 x4 := by rw [hx4]; exact Save.set
  have hq2 : x4.heap[p2]? = some (.cells #[.int .i64 n0, .int .i64 n1, .int .i64 n2, .bool n3, .slice aY Y.length cY] 46 (0, 0)) := by rw [hx4]; exact setCell_blk _ hq
  have hR := hR.newer hs (Nat.le_trans htop hp2w) (by omega)
  have HS6 := Lib.hid (And.intro (save_newer hSS hs hp2w) (And.intro ((hs.block p (Array.getElem?_eq_some_iff.1 hx).1 (by omega)).trans hx) (And.intro (hgv.newer hs (by omega)) hq2)))
  have HM : Hid (Row x4 aY Y cY ∧ (Y ≠ [] → ∀ g, blk aY = some g → p2 < g)) := by
    have hnew : ∀ g, blk aY = some g → p2 < g := fun g hg => by have := hM.new g hg; have := (Array.getElem?_eq_some_iff.1 HS5.out.2.2.2).1; omega
    exact ⟨hM.row.save hs (fun g hg => by have := hnew g hg; omega), fun _ => hnew⟩
  clear hM
  clear hx hgv hSS hS hs hq hq2 HS5 HK c0
  have HR := Lib.hid hR
  clear hR
  go_upto_region 6 with fail
  rw [← hx4]
  clear hx4 d0 f0
  have e0 := cells_of HS6.out.2.2.2 0 rfl
  have e1 := cells_of HS6.out.2.2.2 1 rfl
  have e2 := cells_of HS6.out.2.2.2 2 rfl
  have e3 := cells_of HS6.out.2.2.2 3 rfl
  have e4 := cells_of HS6.out.2.2.2 4 rfl
  go_wp2_with ((with_reducible refine wpList_storeB (o := ⟨none, .store _ (.tmp 1) _, _, _, _, _⟩) rowP (.tmp 1) (.tmp 20) (by with_unfolding_all rfl) (by with_unfolding_all rfl) (by with_unfolding_all rfl) (by with_unfolding_all rfl) (by with_unfolding_all rfl) HS6.out.2.1 (by with_unfolding_all rfl) (by with_unfolding_all rfl) (by with_unfolding_all rfl) ?_); intro w9 hg9 hs9)
  refine bodyPost_ret (resB1 rowP rfl (by rfl) hg9 rfl) rfl ⟨⟨⟨n0, ?_⟩, ⟨⟨n1, ?_⟩, ⟨n2, ?_⟩⟩, n3, aY, Y, cY⟩, rfl, ?_, HM.out.1.save' hs9 (fun h g hg => by have := HM.out.2 h g hg; have := HPQ.out; have := HPP.out; omega), (fun h g hg => Nat.le_trans hp2w (Nat.le_of_lt (HM.out.2 h g hg))), HR.out.newer hs9 (Nat.le_trans htop hpw) (by omega), save_newer HS6.out.1 hs9 hpw⟩
  · rw [hn0.out]; exact s.int.1.2
  · rw [hn1.out]; exact s.int.2.int.1.2
  · rw [hn2.out]; exact s.int.2.int.2.int.1.2
  · simp only [PtV.pt, readPt, Pt.mk.injEq, Reg.mk.injEq]
    exact ⟨Subtype.ext hn0.out, ⟨Subtype.ext hn1.out, Subtype.ext hn2.out⟩, hn3.out, HY.out⟩
set_option maxRecDepth 100000 in
set_option maxHeartbeats 8000000 in
theorem pac_calls {base top w b s} (h : RdAt base top w b s) (htop : top ≤ w.heap.size) (g : Nat) (hg : RdVar w g b) : Calls Tryz.prog 139 (#[] ++ #[.pointer (some ⟨g, 0, none⟩)]) w fun e w' => e = .returned (.agg (cA5 (readCh s).1)) ∧ RdAt base top w' b (readCh s).2 ∧ Save (· ≠ b) w w' := by
  show Calls Tryz.prog 139 #[.pointer (some ⟨g, 0, none⟩)] w _
  have hgb := hg.ne h
  have hglt := hg.lt
  have hblt := h.lt
  obtain ⟨w1, hw1⟩ : ∃ w1, w1 = w.alloc (.cells #[.int .i64 0, .int .i64 0, .int .i64 0, .int .i64 0, .int .i64 0] 48) := ⟨_, rfl⟩
  obtain ⟨p, hp⟩ : ∃ p, p = w.heap.size := ⟨_, rfl⟩
  have hb1 : Below w.heap.size w w1 := by rw [hw1]; exact (Below.refl _ w).alloc (Nat.le_refl _) _
  have hx : w1.heap[p]? = some (.cells #[.int .i64 0, .int .i64 0, .int .i64 0, .int .i64 0, .int .i64 0] 48 (0, 0)) := by rw [hw1, hp]; exact heap_alloc_new _ _
  have hpb : p ≠ b := by omega
  have hpw : w.heap.size ≤ p := by omega
  have hg1 : RdVar w1 g b := blk_stay hg hb1
  have hR := h.stay hb1
  have HS1 := Lib.hid (And.intro (Save.of (S := (· ≠ b)) hb1) (And.intro hx hg1))
  clear h hg hb1 hx hg1
  go_enter Tryz.func139, Tryz.ntmps139
  go_upto_region 1 with fail
  rw [← hw1, ← hp]
  have HPP := Lib.hid hp
  clear hw1 hp
  obtain ⟨n0, hn0⟩ : ∃ n, Hid (n = (s).int.1.1) := ⟨_, rfl⟩
  obtain ⟨n1, hn1⟩ : ∃ n, Hid (n = ((s).int.2).int.1.1) := ⟨_, rfl⟩
  obtain ⟨n2, hn2⟩ : ∃ n, Hid (n = (((s).int.2).int.2).int.1.1) := ⟨_, rfl⟩
  obtain ⟨n3, hn3⟩ : ∃ n, Hid (n = ((((s).int.2).int.2).int.2).int.1.1) := ⟨_, rfl⟩
  obtain ⟨n4, hn4⟩ : ∃ n, Hid (n = (((((s).int.2).int.2).int.2).int.2).int.1.1) := ⟨_, rfl⟩
  have c0 := HS1.out.2.2.cell
  have HK := Lib.hid (rdint_calls hR)
  rw [← hn0.out] at HK
  clear hR
  go_wp2_with fail
  refine (HK.out).mono ?_
  rintro e v0 ⟨rfl, hR, hS⟩
  have hx := (hS.block p (Array.getElem?_eq_some_iff.1 HS1.out.2.1).1 hpb).trans HS1.out.2.1
  have hgv : RdVar v0 g b := HS1.out.2.2.save hS hgb
  have hSS := HS1.out.1.trans hS
  obtain ⟨p2, hp2⟩ : ∃ p2, p2 = v0.heap.size := ⟨_, rfl⟩
  obtain ⟨x0, hx0⟩ : ∃ x0, x0 = v0.alloc (.cells #[.int .i64 n0, .int .i64 0, .int .i64 0, .int .i64 0, .int .i64 0] 48) := ⟨_, rfl⟩
  have hb0 : Below v0.heap.size v0 x0 := by rw [hx0]; exact (Below.refl _ _).alloc (Nat.le_refl _) _
  have hq : x0.heap[p2]? = some (.cells #[.int .i64 n0, .int .i64 0, .int .i64 0, .int .i64 0, .int .i64 0] 48 (0, 0)) := by rw [hx0, hp2]; exact heap_alloc_new _ _
  have hp2w : w.heap.size ≤ p2 := by rw [hp2]; exact hSS.size
  have hp2p : p2 ≠ p := by have := (Array.getElem?_eq_some_iff.1 hx).1; omega
  have hR := hR.stay hb0
  have HS2 := Lib.hid (And.intro (hSS.trans (Save.of hb0)) (And.intro (blk_stay hx hb0) (And.intro (show RdVar x0 g b from blk_stay hgv hb0) hq)))
  clear hx hgv hSS hS hb0 hq HS1 HK c0
  go_upto_region 2 with fail
  rw [← hx0, ← hp2]
  have HPQ := Lib.hid hp2
  clear hx0 hp2
  have c0 := HS2.out.2.2.1.cell
  have HK := Lib.hid (rdint_calls hR)
  rw [← hn1.out] at HK
  clear hR
  go_wp2_with fail
  refine (HK.out).mono ?_
  rintro e v1 ⟨rfl, hR, hS⟩
  have hx := (hS.block p (Array.getElem?_eq_some_iff.1 HS2.out.2.1).1 hpb).trans HS2.out.2.1
  have hgv : RdVar v1 g b := HS2.out.2.2.1.save hS hgb
  have hSS := HS2.out.1.trans hS
  have hq := (hS.block p2 (Array.getElem?_eq_some_iff.1 HS2.out.2.2.2).1 (by omega)).trans HS2.out.2.2.2
  have d0 := cells_of hq 1 rfl
  have f0 := frozen_no hq 1
  obtain ⟨x1, hx1⟩ : ∃ x, x = v1.setCell ⟨p2, 1, none⟩ (.int .i64 n1) := ⟨_, rfl⟩
  have hs : Save (· ≠ p2) v1 x1 := by rw [hx1]; exact Save.set
  have hq2 : x1.heap[p2]? = some (.cells #[.int .i64 n0, .int .i64 n1, .int .i64 0, .int .i64 0, .int .i64 0] 48 (0, 0)) := by rw [hx1]; exact setCell_blk _ hq
  have hR := hR.newer hs (Nat.le_trans htop hp2w) (by omega)
  have HS3 := Lib.hid (And.intro (save_newer hSS hs hp2w) (And.intro ((hs.block p (Array.getElem?_eq_some_iff.1 hx).1 (by omega)).trans hx) (And.intro (hgv.newer hs (by omega)) hq2)))
  clear hx hgv hSS hS hs hq hq2 HS2 HK c0
  go_upto_region 3 with fail
  rw [← hx1]
  clear hx1 d0 f0
  have c0 := HS3.out.2.2.1.cell
  have HK := Lib.hid (rdint_calls hR)
  rw [← hn2.out] at HK
  clear hR
  go_wp2_with fail
  refine (HK.out).mono ?_
  rintro e v2 ⟨rfl, hR, hS⟩
  have hx := (hS.block p (Array.getElem?_eq_some_iff.1 HS3.out.2.1).1 hpb).trans HS3.out.2.1
  have hgv : RdVar v2 g b := HS3.out.2.2.1.save hS hgb
  have hSS := HS3.out.1.trans hS
  have hq := (hS.block p2 (Array.getElem?_eq_some_iff.1 HS3.out.2.2.2).1 (by omega)).trans HS3.out.2.2.2
  have d0 := cells_of hq 2 rfl
  have f0 := frozen_no hq 2
  obtain ⟨x2, hx2⟩ : ∃ x, x = v2.setCell ⟨p2, 2, none⟩ (.int .i64 n2) := ⟨_, rfl⟩
  have hs : Save (· ≠ p2) v2 x2 := by rw [hx2]; exact Save.set
  have hq2 : x2.heap[p2]? = some (.cells #[.int .i64 n0, .int .i64 n1, .int .i64 n2, .int .i64 0, .int .i64 0] 48 (0, 0)) := by rw [hx2]; exact setCell_blk _ hq
  have hR := hR.newer hs (Nat.le_trans htop hp2w) (by omega)
  have HS4 := Lib.hid (And.intro (save_newer hSS hs hp2w) (And.intro ((hs.block p (Array.getElem?_eq_some_iff.1 hx).1 (by omega)).trans hx) (And.intro (hgv.newer hs (by omega)) hq2)))
  clear hx hgv hSS hS hs hq hq2 HS3 HK c0
  go_upto_region 4 with fail
  rw [← hx2]
  clear hx2 d0 f0
  have c0 := HS4.out.2.2.1.cell
  have HK := Lib.hid (rdint_calls hR)
  rw [← hn3.out] at HK
  clear hR
  go_wp2_with fail
  refine (HK.out).mono ?_
  rintro e v3 ⟨rfl, hR, hS⟩
  have hx := (hS.block p (Array.getElem?_eq_some_iff.1 HS4.out.2.1).1 hpb).trans HS4.out.2.1
  have hgv : RdVar v3 g b := HS4.out.2.2.1.save hS hgb
  have hSS := HS4.out.1.trans hS
  have hq := (hS.block p2 (Array.getElem?_eq_some_iff.1 HS4.out.2.2.2).1 (by omega)).trans HS4.out.2.2.2
  have d0 := cells_of hq 3 rfl
  have f0 := frozen_no hq 3
  obtain ⟨x3, hx3⟩ : ∃ x, x = v3.setCell ⟨p2, 3, none⟩ (.int .i64 n3) := ⟨_, rfl⟩
  have hs : Save (· ≠ p2) v3 x3 := by rw [hx3]; exact Save.set
  have hq2 : x3.heap[p2]? = some (.cells #[.int .i64 n0, .int .i64 n1, .int .i64 n2, .int .i64 n3, .int .i64 0] 48 (0, 0)) := by rw [hx3]; exact setCell_blk _ hq
  have hR := hR.newer hs (Nat.le_trans htop hp2w) (by omega)
  have HS5 := Lib.hid (And.intro (save_newer hSS hs hp2w) (And.intro ((hs.block p (Array.getElem?_eq_some_iff.1 hx).1 (by omega)).trans hx) (And.intro (hgv.newer hs (by omega)) hq2)))
  clear hx hgv hSS hS hs hq hq2 HS4 HK c0
  go_upto_region 5 with fail
  rw [← hx3]
  clear hx3 d0 f0
  have c0 := HS5.out.2.2.1.cell
  have HK := Lib.hid (rdint_calls hR)
  rw [← hn4.out] at HK
  clear hR
  go_wp2_with fail
  refine (HK.out).mono ?_
  rintro e v4 ⟨rfl, hR, hS⟩
  have hx := (hS.block p (Array.getElem?_eq_some_iff.1 HS5.out.2.1).1 hpb).trans HS5.out.2.1
  have hgv : RdVar v4 g b := HS5.out.2.2.1.save hS hgb
  have hSS := HS5.out.1.trans hS
  have hq := (hS.block p2 (Array.getElem?_eq_some_iff.1 HS5.out.2.2.2).1 (by omega)).trans HS5.out.2.2.2
  have d0 := cells_of hq 4 rfl
  have f0 := frozen_no hq 4
  obtain ⟨x4, hx4⟩ : ∃ x, x = v4.setCell ⟨p2, 4, none⟩ (.int .i64 n4) := ⟨_, rfl⟩
  have hs : Save (· ≠ p2) v4 x4 := by rw [hx4]; exact Save.set
  have hq2 : x4.heap[p2]? = some (.cells #[.int .i64 n0, .int .i64 n1, .int .i64 n2, .int .i64 n3, .int .i64 n4] 48 (0, 0)) := by rw [hx4]; exact setCell_blk _ hq
  have hR := hR.newer hs (Nat.le_trans htop hp2w) (by omega)
  have HS6 := Lib.hid (And.intro (save_newer hSS hs hp2w) (And.intro ((hs.block p (Array.getElem?_eq_some_iff.1 hx).1 (by omega)).trans hx) (And.intro (hgv.newer hs (by omega)) hq2)))
  clear hx hgv hSS hS hs hq hq2 HS5 HK c0
  have HR := Lib.hid hR
  clear hR
  go_upto_region 6 with fail
  rw [← hx4]
  clear hx4 d0 f0
  have e0 := cells_of HS6.out.2.2.2 0 rfl
  have e1 := cells_of HS6.out.2.2.2 1 rfl
  have e2 := cells_of HS6.out.2.2.2 2 rfl
  have e3 := cells_of HS6.out.2.2.2 3 rfl
  have e4 := cells_of HS6.out.2.2.2 4 rfl
  go_wp2_with ((with_reducible refine wpList_storeB (o := ⟨none, .store _ (.tmp 1) _, _, _, _, _⟩) rowCh (.tmp 1) (.tmp 18) (by with_unfolding_all rfl) (by with_unfolding_all rfl) (by with_unfolding_all rfl) (by with_unfolding_all rfl) (by with_unfolding_all rfl) HS6.out.2.1 (by with_unfolding_all rfl) (by with_unfolding_all rfl) (by with_unfolding_all rfl) ?_); intro w9 hg9 hs9)
  refine bodyPost_ret (resB1 rowCh rfl (by rfl) hg9 rfl) rfl ⟨by rw [hn0.out, hn1.out, hn2.out, hn3.out, hn4.out]; rfl, HR.out.newer hs9 (Nat.le_trans htop hpw) (by omega), save_newer HS6.out.1 hs9 hpw⟩
end Go.Proofs.YtlholdllibghbaaGreat

