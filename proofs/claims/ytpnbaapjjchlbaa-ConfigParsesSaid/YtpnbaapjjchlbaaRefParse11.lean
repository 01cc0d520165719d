/- citadelref11.Parse: walked. -/
import Derived.Test.YtpnbaapjjchlbaaStrP
import Derived.Test.YtpnbaapjjchlbaaRefForm11
import Derived.Test.YtpnbaapjjchlbaaRefGet2
namespace Go.Proofs.Ytpnbaapjjchlbaa
open Go Go.RowKit Go.Cit

theorem rfint11 {base top w b s} (h : RfAt base top w b s) : Calls Try.prog 116 #[.pointer (some ⟨b, 0, none⟩)] w fun r w' => r = .returned (.int .i64 s.int.1.1) ∧ RfAt base top w' b s.int.2 ∧ Save (· ≠ b) w w' := by
  have := rfint_calls h
  rw [← int_val] at this
  exact this
structure PG (w0 w2 : World) (b5 b top : Nat) : Prop where
  lb : b < w2.heap.size
  l5 : b5 < w2.heap.size
  ne : b ≠ b5
  t5 : top ≤ b5
  g0 : w0.heap.size ≤ b
  g5 : w0.heap.size ≤ b5
/-- Between two rounds: what has been read lies in the variable b5. -/
structure PInv (w0 w2 : World) (b5 b top : Nat) (s : St) (Q : CfgV) (w : World) : Prop where
  box : w.heap[b5]? = some (.cells (cU Q) 26 (0, 0))
  own : OwnedV w2.heap.size w Q
  rd : RfAt w0.heap.size top w b s
  low : Below w0.heap.size w0 w
  size : w2.heap.size ≤ w.heap.size
/-- Within a round. -/
structure PTmp (w0 : World) (b top : Nat) (wr : World) (s : St) (w : World) : Prop where
  sv : Save (fun j => j ≠ b ∧ j < wr.heap.size) wr w
  rd : RfAt w0.heap.size top w b s
theorem PTmp.call {w0 : World} {b top : Nat} {wr w w' : World} {s s' : St} (h : PTmp w0 b top wr s w) (hr : RfAt w0.heap.size top w' b s') (hs : Save (· ≠ b) w w') : PTmp w0 b top wr s' w' :=
  ⟨h.sv.trans (hs.less fun _ _ hk => hk.1), hr⟩
theorem PTmp.alloc {w0 : World} {b top : Nat} {wr w : World} {s : St} (h : PTmp w0 b top wr s w) (o : Obj) : PTmp w0 b top wr s (w.alloc o) :=
  ⟨h.sv.trans (Save.alloc _ _), h.rd.stay ((Below.refl _ _).alloc (Nat.le_refl _) _)⟩
theorem PTmp.set {w0 w2 : World} {b5 b top : Nat} {wr w : World} {s : St} (h : PTmp w0 b top wr s w) (hG : PG w0 w2 b5 b top) (h2 : w2.heap.size ≤ wr.heap.size) {p i : Nat} (hp : wr.heap.size ≤ p) (v : Value) : PTmp w0 b top wr s (w.setCell ⟨p, i, none⟩ v) := by
  have := hG.lb; have := hG.l5; have := hG.t5
  exact ⟨h.sv.trans (Save.set.less fun k _ hk => by omega), h.rd.save Save.set (by omega) (fun g _ hg => by omega)⟩
theorem PTmp.grown {w0 w2 : World} {b5 b top : Nat} {wr w w' : World} {s : St} (h : PTmp w0 b top wr s w) (hG : PG w0 w2 b5 b top) (h2 : w2.heap.size ≤ wr.heap.size) {r : Option Nat} (hg : w.grownBy w' r) (hr : ∀ g, r = some g → wr.heap.size ≤ g) : PTmp w0 b top wr s w' := by
  have := hG.lb; have := hG.l5; have := hG.t5
  exact ⟨h.sv.trans ((Save.grown hg).less fun k _ hk e => by have := hr _ e.symm; omega), h.rd.save (Save.grown hg) (fun e => by have := hr _ e.symm; omega) (fun g _ hgt e => by have := hr _ e.symm; omega)⟩
theorem PInv.tmp {w0 w2 : World} {b5 b top : Nat} {s : St} {Q : CfgV} {w : World} (h : PInv w0 w2 b5 b top s Q w) : PTmp w0 b top w s w := ⟨Save.refl _ _, h.rd⟩
theorem PInv.keep {w0 w2 : World} {b5 b top : Nat} {s s' : St} {Q : CfgV} {wr w : World} (h : PInv w0 w2 b5 b top s Q wr) (hG : PG w0 w2 b5 b top) (T : PTmp w0 b top wr s' w) : PInv w0 w2 b5 b top s' Q w := by
  have h1 := hG.lb; have h2 := hG.l5; have h3 := hG.ne; have h4 := hG.g0; have h5 := h.size; have h6 := h.low.size
  have e : ∀ {α : Type} {f : α → List Value} {n : Nat} {E : TypeId} {a : Option Addr} {l : List α} {c : Nat}, VOwn f n E w2.heap.size wr a l c → VOwn f n E w2.heap.size w a l c := fun hv =>
    hv.save T.sv (fun g hg => by have := hv.blk_ge hg; omega)
  refine ⟨(T.sv.block b5 (by omega) ⟨by omega, by omega⟩).trans h.box, ⟨e h.own.win, e h.own.pts, e h.own.chs, fun x hx => (e (h.own.img x hx).vown).own⟩, T.rd, h.low.trans (T.sv.below (by omega) fun k hk => by omega), Nat.le_trans h5 T.sv.size⟩
theorem PInv.app {w0 w2 : World} {b5 b top : Nat} {s : St} {Q U : CfgV} {w w' : World} (h : PInv w0 w2 b5 b top s Q w) (hG : PG w0 w2 b5 b top) {r : Option Nat} (hg : w.grownBy w' r) (hr : ∀ g, r = some g → w2.heap.size ≤ g) {i : Nat} {v : Value} (hU : (cU Q).setIfInBounds i v = cU U) (ho : OwnedV w2.heap.size w' U) :
    PInv w0 w2 b5 b top s U (w'.setCell ⟨b5, i, none⟩ v) := by
  have h1 := hG.lb; have h2 := hG.l5; have h3 := hG.ne; have h4 := hG.g0; have h5 := h.size; have h6 := h.low.size; have h7 := hG.g5; have h8 := hG.t5
  have hb5 : w'.heap[b5]? = some (.cells (cU Q) 26 (0, 0)) := (hg.block b5 (by omega) (fun e => by have := hr _ e.symm; omega)).trans h.box
  have e : ∀ {α : Type} {f : α → List Value} {n : Nat} {E : TypeId} {a : Option Addr} {l : List α} {c : Nat}, VOwn f n E w2.heap.size w' a l c → VOwn f n E w2.heap.size (w'.setCell ⟨b5, i, none⟩ v) a l c := fun hv =>
    hv.save Save.set (fun g hg => by have := hv.blk_ge hg; omega)
  have hb : Below w0.heap.size w w' := (Save.grown hg).below (by omega) fun k hk e => by have := hr _ e.symm; omega
  refine ⟨by rw [setCell_blk v hb5, hU], ⟨e ho.win, e ho.pts, e ho.chs, fun x hx => (e (ho.img x hx).vown).own⟩, ?_, (h.low.trans hb).trans (Save.set.below (by have := hb.size; omega) fun k hk => by omega), by have := hg.size; simp [World.setCell]; omega⟩
  exact (h.rd.save (Save.grown hg) (fun e => by have := hr _ e.symm; omega) (fun g _ hgt e => by have := hr _ e.symm; omega)).save Save.set h3 (fun g _ hgt => by omega)
theorem PInv.grow5 {w0 w2 : World} {b5 b top : Nat} {s : St} {Q : CfgV} {w w' : World} (h : PInv w0 w2 b5 b top s Q w) (hG : PG w0 w2 b5 b top) {r : Option Nat} (hg : w.grownBy w' r) (hr : ∀ g, r = some g → w2.heap.size ≤ g) : w'.heap[b5]? = some (.cells (cU Q) 26 (0, 0)) := by
  have h2 := hG.l5; have h5 := h.size
  exact (hg.block b5 (by omega) (fun e => by have := hr _ e.symm; omega)).trans h.box
theorem bytes_le (s : St) : s.bytes.1.length ≤ 65536 := by
  by_cases h : s.e = 0
  · rcases bytes_zero h with ⟨m, r, hm, _, e⟩ | e
    · rw [e]; exact hm
    · rw [e]; exact Nat.zero_le _
  · unfold St.bytes
    rw [if_neg (read_bad_e h)]; exact Nat.zero_le _
theorem own_off {α β : Type} {f : α → List Value} {f' : β → List Value} {n n' : Nat} {E E' : TypeId} {B : Nat} {w w' : World} {a a' : Option Addr} {l : List α} {l' : List β} {c c' : Nat} (h : VOwn f n E B w a l c) (k : VOwn f' n' E' B w a' l' c') (hne : E ≠ E') (hg : w.grownBy w' (blk a')) : VOwn f n E B w' a l c := by
  refine h.save (Save.grown hg) fun g hb e => ?_
  obtain ⟨C, hC⟩ := vown_block h hb
  obtain ⟨D, hD⟩ := vown_block k e.symm
  rw [hC] at hD
  injection hD with hD
  injection hD with _ hT
  exact hne hT
theorem OwnedV.above {B R : Nat} {w w' : World} {Q : CfgV} (h : OwnedV B w Q) (hs : Save (· ≠ R) w w') (hR : R < B) : OwnedV B w' Q :=
  ⟨h.win.save hs (fun g hg => by have := (h.win.blk_ge hg).1; omega), h.pts.save hs (fun g hg => by have := (h.pts.blk_ge hg).1; omega), h.chs.save hs (fun g hg => by have := (h.chs.blk_ge hg).1; omega), fun x hx => (h.img x hx).save hs (fun g hg => by have := ((h.img x hx).blk_ge hg).1; omega)⟩
theorem ne1 : (43 : Nat) ≠ 52 := by decide
theorem ne2 : (54 : Nat) ≠ 52 := by decide
theorem ne3 : (5 : Nat) ≠ 52 := by decide
theorem ne4 : (52 : Nat) ≠ 43 := by decide
theorem ne5 : (54 : Nat) ≠ 43 := by decide
theorem ne6 : (5 : Nat) ≠ 43 := by decide
theorem ne7 : (52 : Nat) ≠ 54 := by decide
theorem ne8 : (43 : Nat) ≠ 54 := by decide
theorem ne9 : (5 : Nat) ≠ 54 := by decide
theorem OwnedV.app_win {B : Nat} {w w' : World} {Q : CfgV} (h : OwnedV B w Q) {a' : Option Addr} {c' : Nat} {L : List Win} (hv : VOwn cWin 2 52 B w' a' L c') (hg : w.grownBy w' (blk Q.wa)) : OwnedV B w' ⟨a', L, c', Q.pa, Q.ps, Q.pc, Q.ca, Q.cs, Q.cc⟩ :=
  ⟨hv, own_off h.pts h.win ne1 hg, own_off h.chs h.win ne2 hg, fun x hx => (own_off (h.img x hx).vown h.win ne3 hg).own⟩
theorem OwnedV.app_chs {B : Nat} {w w' : World} {Q : CfgV} (h : OwnedV B w Q) {a' : Option Addr} {c' : Nat} {L : List Ch} (hv : VOwn cCh 5 54 B w' a' L c') (hg : w.grownBy w' (blk Q.ca)) : OwnedV B w' ⟨Q.wa, Q.ws, Q.wc, Q.pa, Q.ps, Q.pc, a', L, c'⟩ :=
  ⟨own_off h.win h.chs ne7 hg, own_off h.pts h.chs ne8 hg, hv, fun x hx => (own_off (h.img x hx).vown h.chs ne9 hg).own⟩
theorem OwnedV.app_pts {B : Nat} {w w' : World} {Q : CfgV} (h : OwnedV B w Q) {a' : Option Addr} {c' : Nat} {x : PtV} (hx : Cit.Own 5 B w x.a x.img x.c) (hv : VOwn cPt 5 43 B w' a' (Q.ps ++ [x]) c') (hg : w.grownBy w' (blk Q.pa)) : OwnedV B w' ⟨Q.wa, Q.ws, Q.wc, a', Q.ps ++ [x], c', Q.ca, Q.cs, Q.cc⟩ :=
  ⟨own_off h.win h.pts ne4 hg, hv, own_off h.chs h.pts ne5 hg, fun y hy => by
    rcases List.mem_append.1 hy with hy | hy
    · exact (own_off (h.img y hy).vown h.pts ne6 hg).own
    · obtain rfl : y = x := by simpa using hy
      exact (own_off hx.vown h.pts ne6 hg).own⟩
set_option maxRecDepth 100000 in
set_option maxHeartbeats 8000000 in
theorem refparse_calls (w : World) {a : Option Addr} {l : List UInt8} {c : Nat} (h : Row w a l c) : Calls Try.prog 51 #[.slice a l.length c] w fun e w' => ∃ U : CfgV, e = .returned (.tuple #[.agg (cU U), .int .i64 (parE l)]) ∧ U.cfg = parK l ∧ U.At w' ∧ Below w.heap.size w w' := by
  obtain ⟨wz, hwz⟩ : ∃ wz, wz = w.alloc (.cells #[.slice none 0 0, .slice none 0 0, .slice none 0 0] 26) := ⟨_, rfl⟩
  obtain ⟨R, hR⟩ : ∃ R, R = w.heap.size := ⟨_, rfl⟩
  have Bz : Below w.heap.size w wz := by rw [hwz]; exact (Below.refl _ w).alloc (Nat.le_refl _) _
  have hxR : wz.heap[R]? = some (.cells #[.slice none 0 0, .slice none 0 0, .slice none 0 0] 26 (0, 0)) := by rw [hwz, hR]; exact heap_alloc_new _ _
  have hsz : wz.heap.size = R + 1 := by rw [hwz, hR]; simp
  have HZ := Lib.hid (And.intro hxR (And.intro hsz Bz))
  have HRR := Lib.hid hR
  have HN := Lib.hid (refnew_calls wz (h.stay Bz))
  obtain ⟨nl, hnl⟩ : ∃ n, Hid (n = l.length) := ⟨_, rfl⟩
  rw [← hnl.out]
  have HN2 := HN.out
  rw [← hnl.out] at HN2
  have HN3 := Lib.hid HN2
  clear h Bz hxR hsz HN HN2
  go_enter Try.func51, Try.ntmps51
  go_wp2_with fail
  rw [← hwz, ← hR]
  clear hwz hR
  refine (HN3.out).mono ?_
  rintro e w1 ⟨b, hbb, rfl, hrd, hb1⟩
  obtain ⟨w2, hw2⟩ : ∃ w2, w2 = w1.alloc (.cells #[.slice none 0 0, .slice none 0 0, .slice none 0 0] 26) := ⟨_, rfl⟩
  obtain ⟨b5, hb5⟩ : ∃ b5, b5 = w1.heap.size := ⟨_, rfl⟩
  have hb12 : Below w1.heap.size w1 w2 := by rw [hw2]; exact (Below.refl _ _).alloc (Nat.le_refl _) _
  have hsz2 : w2.heap.size = b5 + 1 := by rw [hw2, hb5]; simp
  have HG : Hid (PG wz w2 b5 b w1.heap.size) := by
    have h1 := hbb.out; have h2 := hb1.size
    exact ⟨by omega, by omega, by omega, by omega, by omega, by omega⟩
  have HI2 : Hid (PInv wz w2 b5 b w1.heap.size (St.new l) ⟨none, [], 0, none, [], 0, none, [], 0⟩ w2) :=
    ⟨by rw [hw2, hb5]; exact heap_alloc_new _ _, ⟨VOwn.nil_ _ _ _ _ _, VOwn.nil_ _ _ _ _ _, VOwn.nil_ _ _ _ _ _, fun x hx => by simp at hx⟩, hrd.stay hb12, hb1.trans (hb12.mono hb1.size), Nat.le_refl _⟩
  obtain ⟨top, htop⟩ : ∃ t, t = w1.heap.size := ⟨_, rfl⟩
  rw [← htop] at HG HI2
  clear hb12 hsz2 hbb hrd hb1 HN3
  go_upto_region 3 with fail
  rw [← hw2, ← hb5]
  clear hw2 hb5 htop
  have hk := rfcount_calls HI2.out.rd 12
  obtain ⟨n, hn⟩ : ∃ n : Nat, Hid (((St.new l).count 12).1 = (n : Int)) := ⟨((St.new l).count 12).1.toNat, by have := (count_range (St.new l) 12 (by decide)).1; rw [Hid]; omega⟩
  have hn9 : n ≤ 100 := by have := (count_range (St.new l) 12 (by decide)).2; have := hn.out; omega
  obtain ⟨s1, hs1⟩ : ∃ s1, Hid (s1 = ((St.new l).count 12).2) := ⟨_, rfl⟩
  rw [hn.out, ← hs1.out] at hk
  have HK := Lib.hid hk
  have HP1 : Hid (par1 l = readN readWin n s1) := by rw [Hid, par1, readL, hn.out, hs1.out]; rfl
  clear hk
  go_wp2_with fail
  refine (HK.out).mono ?_
  rintro e w3 ⟨rfl, hrd, hsv⟩
  have HI3 := Lib.hid (HI2.out.keep HG.out (HI2.out.tmp.call hrd hsv))
  clear hrd hsv HK HI2
  go_wp2_with fail
  go_loopw [7] (fun i wr => ∃ (k : Nat) (aW : Option Addr) (LW : List Win) (cW : Nat), i = .int .i64 (k : Int) ∧ k ≤ n ∧ Hid (LW = (readN readWin k s1).1) ∧ Hid (PInv wz w2 b5 b top (readN readWin k s1).2 ⟨aW, LW, cW, none, [], 0, none, [], 0⟩ wr)) (fun i _ => n - (intOf i).toNat)
  case atStart => exact ⟨0, none, [], 0, rfl, Nat.zero_le _, rfl, HI3⟩
  case round =>
    clear HI3
    obtain ⟨k, aW, LW, cW, rfl, hk, HL, HI⟩ := hrel
    by_cases hlt : k < n
    · obtain ⟨s2, hs2⟩ : ∃ s2, Hid (s2 = (readN readWin k s1).2) := ⟨_, rfl⟩
      rw [← hs2.out] at HI
      have HL9 : Hid (LW.length ≤ 100) := by
        have := readN_len readWin k s1
        have h2 := HL.out
        rw [Hid]
        rw [← h2] at this; omega
      obtain ⟨x, hx⟩ : ∃ x, Hid (x = (readWin s2).1) := ⟨(readWin s2).1, rfl⟩
      have hc := rfint11 HI.out.rd
      rw [show s2.int.1.1 = x.len.1 by rw [hx.out]; rfl] at hc
      have HC := Lib.hid hc
      clear hc
      go_wp2_with fail
      refine (HC.out).mono ?_
      rintro e w5 ⟨rfl, hR5, hS5⟩
      have HT5 := Lib.hid (HI.out.tmp.call hR5 hS5)
      obtain ⟨wa, hwa⟩ : ∃ wa, wa = w5.alloc (.cells #[.int .i64 x.len.1, .int .i64 0] 52) := ⟨_, rfl⟩
      obtain ⟨p8, hp8⟩ : ∃ p, p = w5.heap.size := ⟨_, rfl⟩
      have HTa : Hid (PTmp wz b top wr s2.int.2 wa) := by rw [hwa]; exact HT5.out.alloc _
      have x8 : wa.heap[p8]? = some (.cells #[.int .i64 x.len.1, .int .i64 0] 52 (0, 0)) := by rw [hwa, hp8]; exact heap_alloc_new _ _
      have hp8s : wr.heap.size ≤ p8 := by rw [hp8]; exact HT5.out.sv.size
      have hpb : p8 ≠ b := by have := HG.out.lb; have := HI.out.size; omega
      have hc := rfint11 HTa.out.rd
      rw [show s2.int.2.int.1.1 = x.part.1 by rw [hx.out]; rfl] at hc
      have HC := Lib.hid hc
      have HX8 := Lib.hid (And.intro x8 (And.intro hp8s hpb))
      clear hc hR5 hS5 HT5 x8 hp8s hpb
      go_upto_region 8 with fail
      rw [← hwa, ← hp8]
      clear hwa hp8
      go_wp2_with fail
      refine (HC.out).mono ?_
      rintro e w7 ⟨rfl, hR7, hS7⟩
      have HT7 := Lib.hid (HTa.out.call hR7 hS7)
      have hx7 : w7.heap[p8]? = some (.cells #[.int .i64 x.len.1, .int .i64 0] 52 (0, 0)) := (hS7.block p8 (Array.getElem?_eq_some_iff.1 HX8.out.1).1 HX8.out.2.2).trans HX8.out.1
      have e7 := cells_of hx7 1 rfl
      have f7 := frozen_no hx7 1
      obtain ⟨w8, hw8⟩ : ∃ w8, w8 = w7.setCell ⟨p8, 1, none⟩ (.int .i64 x.part.1) := ⟨_, rfl⟩
      have hx8 : w8.heap[p8]? = some (.cells #[.int .i64 x.len.1, .int .i64 x.part.1] 52 (0, 0)) := by rw [hw8]; exact setCell_blk _ hx7
      have HI8 : Hid (PInv wz w2 b5 b top (readWin s2).2 ⟨aW, LW, cW, none, [], 0, none, [], 0⟩ w8) := by
        rw [hw8]; exact HI.out.keep HG.out (HT7.out.set HG.out HI.out.size HX8.out.2.1 _)
      clear hR7 hS7 HT7 hx7 HTa HC
      go_upto_region 9 with fail
      rw [← hw8]
      clear hw8 e7 f7 HX8
      have c0 := cells_of HI8.out.box 0 rfl
      have d0 := cells_of hx8 0 rfl
      have d1 := cells_of hx8 1 rfl
      have hge : ∀ g, Go.Cit.blk aW = some g → w2.heap.size ≤ g := fun g hg => (HI8.out.own.win.blk_ge hg).1
      have HGE := Lib.hid hge
      have HL1 : Hid (LW.length + 1 ≤ 1000000000) := by have := HL9.out; rw [Hid]; omega
      clear hx8 hge
      go_wp2_with (first
        | ((with_reducible refine wpList_value (o := ⟨some 32, .buildSlice _ _ _, _, _, _, _⟩) (by with_unfolding_all rfl) (build1c etW (.tmp 31) (.agg #[.int .i64 x.len.1, .int .i64 x.part.1]) #[.int .i64 x.len.1, .int .i64 x.part.1] rfl (by with_unfolding_all rfl) (by with_unfolding_all rfl) (by with_unfolding_all rfl) (by decide) _) ?_))
        | ((with_reducible refine wpList_vapp1 (o := ⟨some 33, .call _, _, _, _, _⟩) etW cWin_len cWin_one (y := x) (.tmp 30) (.tmp 32) (by with_unfolding_all rfl) (by with_unfolding_all rfl) HI8.out.own.win (by with_unfolding_all rfl) HL1.out HI8.out.size (by with_unfolding_all rfl) (by with_unfolding_all rfl) ?_); intro a4 k4 w10 hO4 hg4 hn4; have HO4 := Lib.hid (And.intro hO4 hg4); have e10 := cells_of (HI8.out.grow5 HG.out hg4 HGE.out) 0 rfl; have f10 := frozen_no (HI8.out.grow5 HG.out hg4 HGE.out) 0; clear hO4 hg4 hn4))
      go_roundw
      case rel => exact ⟨k + 1, a4, LW ++ [x], k4, by go_num, by omega, by rw [Hid, HL.out, readN, ← hs2.out, hx.out], by rw [Hid, readN, ← hs2.out]; exact HI8.out.app HG.out HO4.out.2 HGE.out (by rw [show LW.length + 1 = (LW ++ [x]).length by simp]; rfl) (HI8.out.own.app_win HO4.out.1 HO4.out.2)⟩
      case measure => simp [intOf]; omega
    · have hk2 : k = n := by omega
      subst hk2
      have HP1b : Hid ((par1 l).1 = LW ∧ (par1 l).2 = (readN readWin k s1).2) := ⟨by rw [HP1.out, HL.out], by rw [HP1.out]⟩
      obtain ⟨sP, hsP⟩ : ∃ s, Hid (s = (readN readWin k s1).2) := ⟨_, rfl⟩
      rw [← hsP.out] at HI HP1b
      clear hk hlt HP1 hn9
      go_upto_region 10 with fail
      have hk := rfcount_calls HI.out.rd 6
      obtain ⟨m, hnm⟩ : ∃ n : Nat, Hid (((sP).count 6).1 = (n : Int)) := ⟨((sP).count 6).1.toNat, by have := (count_range (sP) 6 (by decide)).1; rw [Hid]; omega⟩
      have h9m : m ≤ 100 := by have := (count_range (sP) 6 (by decide)).2; have := hnm.out; omega
      obtain ⟨s3, hss3⟩ : ∃ s1, Hid (s1 = ((sP).count 6).2) := ⟨_, rfl⟩
      rw [hnm.out, ← hss3.out] at hk
      have HK := Lib.hid hk
      clear hk
      go_wp2_with fail
      refine (HK.out).mono ?_
      rintro e w3 ⟨rfl, hrd, hsv⟩
      have HI3 := Lib.hid (HI.out.keep HG.out (HI.out.tmp.call hrd hsv))
      clear hrd hsv HK HI
      go_wp2_with fail
      have HP2 : Hid (par2 l = readN readPt m s3) := by rw [Hid, par2, HP1b.out.2, readL, hnm.out, hss3.out]; rfl
      go_loopw [9] (fun i wr => ∃ (k : Nat) (aP : Option Addr) (LP : List PtV) (cP : Nat), i = .int .i64 (k : Int) ∧ k ≤ m ∧ Hid (LP.map PtV.pt = (readN readPt k s3).1) ∧ Hid (PInv wz w2 b5 b top (readN readPt k s3).2 ⟨aW, LW, cW, aP, LP, cP, none, [], 0⟩ wr)) (fun i _ => m - (intOf i).toNat)
      case atStart => exact ⟨0, none, [], 0, rfl, Nat.zero_le _, rfl, HI3⟩
      case round =>
        clear HI3
        obtain ⟨k, aP, LP, cP, rfl, hk, HLP, HI⟩ := hrel
        by_cases hlt : k < m
        · obtain ⟨s2, hs2⟩ : ∃ s2, Hid (s2 = (readN readPt k s3).2) := ⟨_, rfl⟩
          rw [← hs2.out] at HI
          have HL9 : Hid (LP.length ≤ 100) := by
            have := readN_len readPt k s3
            have h2 := HLP.out
            rw [Hid]
            rw [← h2, List.length_map] at this; omega
          obtain ⟨x, hx⟩ : ∃ x, Hid (x = (readPt s2).1) := ⟨(readPt s2).1, rfl⟩
          go_wp2_with fail
          have hc := rfint11 HI.out.rd
          rw [show s2.int.1.1 = x.id.1 by rw [hx.out]; rfl] at hc
          have HC := Lib.hid hc
          clear hc
          go_wp2_with fail
          refine (HC.out).mono ?_
          rintro e w5 ⟨rfl, hR5, hS5⟩
          have HT5 := Lib.hid (HI.out.tmp.call hR5 hS5)
          obtain ⟨wa, hwa⟩ : ∃ wa, wa = w5.alloc (.cells #[.int .i64 x.id.1, .int .i64 0, .int .i64 0, .bool false, .slice none 0 0] 43) := ⟨_, rfl⟩
          obtain ⟨p8, hp8⟩ : ∃ p, p = w5.heap.size := ⟨_, rfl⟩
          have HT : Hid (PTmp wz b top wr s2.int.2 wa) := by rw [hwa]; exact HT5.out.alloc _
          have HX : Hid (wa.heap[p8]? = some (.cells #[.int .i64 x.id.1, .int .i64 0, .int .i64 0, .bool false, .slice none 0 0] 43 (0, 0)) ∧ wr.heap.size ≤ p8 ∧ p8 ≠ b) := ⟨by rw [hwa, hp8]; exact heap_alloc_new _ _, by rw [hp8]; exact HT5.out.sv.size, by have := HG.out.lb; have := HI.out.size; have := HT5.out.sv.size; omega⟩
          clear hR5 hS5 HT5 HC
          go_upto_region 15 with fail
          rw [← hwa, ← hp8]
          clear hwa hp8
          have hc := rfint11 HT.out.rd
          rw [show (s2.int.2).int.1.1 = x.reg.base.1 by rw [hx.out]; rfl] at hc
          have HC := Lib.hid hc
          clear hc
          go_wp2_with fail
          refine (HC.out).mono ?_
          rintro e w7 ⟨rfl, hR7, hS7⟩
          have HT7 := Lib.hid (HT.out.call hR7 hS7)
          have hx7 : w7.heap[p8]? = some (.cells #[.int .i64 x.id.1, .int .i64 0, .int .i64 0, .bool false, .slice none 0 0] 43 (0, 0)) := (hS7.block p8 (Array.getElem?_eq_some_iff.1 HX.out.1).1 HX.out.2.2).trans HX.out.1
          have e7 := cells_of hx7 1 rfl
          have f7 := frozen_no hx7 1
          obtain ⟨w8, hw8⟩ : ∃ w8, w8 = w7.setCell ⟨p8, 1, none⟩ (.int .i64 x.reg.base.1) := ⟨_, rfl⟩
          have hx8 : w8.heap[p8]? = some (.cells #[.int .i64 x.id.1, .int .i64 x.reg.base.1, .int .i64 0, .bool false, .slice none 0 0] 43 (0, 0)) := by rw [hw8]; exact setCell_blk _ hx7
          have HT8 := Lib.hid (HT7.out.set HG.out HI.out.size HX.out.2.1 (i := 1) (.int .i64 x.reg.base.1))
          rw [← hw8] at HT8
          have HX8 := Lib.hid (And.intro hx8 HX.out.2)
          clear hR7 hS7 HT7 hx7 hx8 HT HX HC
          go_upto_region 16 with fail
          rw [← hw8]
          clear hw8 e7 f7
          have HT := HT8
          have HX := HX8
          clear HT8 HX8
          have hc := rfint11 HT.out.rd
          rw [show (s2.int.2.int.2).int.1.1 = x.reg.size.1 by rw [hx.out]; rfl] at hc
          have HC := Lib.hid hc
          clear hc
          go_wp2_with fail
          refine (HC.out).mono ?_
          rintro e w9 ⟨rfl, hR7, hS7⟩
          have HT7 := Lib.hid (HT.out.call hR7 hS7)
          have hx7 : w9.heap[p8]? = some (.cells #[.int .i64 x.id.1, .int .i64 x.reg.base.1, .int .i64 0, .bool false, .slice none 0 0] 43 (0, 0)) := (hS7.block p8 (Array.getElem?_eq_some_iff.1 HX.out.1).1 HX.out.2.2).trans HX.out.1
          have e7 := cells_of hx7 2 rfl
          have f7 := frozen_no hx7 2
          obtain ⟨w10, hw8⟩ : ∃ w8, w8 = w9.setCell ⟨p8, 2, none⟩ (.int .i64 x.reg.size.1) := ⟨_, rfl⟩
          have hx8 : w10.heap[p8]? = some (.cells #[.int .i64 x.id.1, .int .i64 x.reg.base.1, .int .i64 x.reg.size.1, .bool false, .slice none 0 0] 43 (0, 0)) := by rw [hw8]; exact setCell_blk _ hx7
          have HT8 := Lib.hid (HT7.out.set HG.out HI.out.size HX.out.2.1 (i := 2) (.int .i64 x.reg.size.1))
          rw [← hw8] at HT8
          have HX8 := Lib.hid (And.intro hx8 HX.out.2)
          clear hR7 hS7 HT7 hx7 hx8 HT HX HC
          go_upto_region 17 with fail
          rw [← hw8]
          clear hw8 e7 f7
          have HT := HT8
          have HX := HX8
          clear HT8 HX8
          have hc := rfflag_calls HT.out.rd
          rw [show (s2.int.2.int.2.int.2.read 1 fFlag false).1 = x.keep by rw [hx.out]; rfl] at hc
          have HC := Lib.hid hc
          clear hc
          go_wp2_with fail
          refine (HC.out).mono ?_
          rintro e w11 ⟨rfl, hR7, hS7⟩
          have HT7 := Lib.hid (HT.out.call hR7 hS7)
          have hx7 : w11.heap[p8]? = some (.cells #[.int .i64 x.id.1, .int .i64 x.reg.base.1, .int .i64 x.reg.size.1, .bool false, .slice none 0 0] 43 (0, 0)) := (hS7.block p8 (Array.getElem?_eq_some_iff.1 HX.out.1).1 HX.out.2.2).trans HX.out.1
          have e7 := cells_of hx7 3 rfl
          have f7 := frozen_no hx7 3
          obtain ⟨w12, hw8⟩ : ∃ w8, w8 = w11.setCell ⟨p8, 3, none⟩ (.bool x.keep) := ⟨_, rfl⟩
          have hx8 : w12.heap[p8]? = some (.cells #[.int .i64 x.id.1, .int .i64 x.reg.base.1, .int .i64 x.reg.size.1, .bool x.keep, .slice none 0 0] 43 (0, 0)) := by rw [hw8]; exact setCell_blk _ hx7
          have HT8 := Lib.hid (HT7.out.set HG.out HI.out.size HX.out.2.1 (i := 3) (.bool x.keep))
          rw [← hw8] at HT8
          have HX8 := Lib.hid (And.intro hx8 HX.out.2)
          clear hR7 hS7 HT7 hx7 hx8 HT HX HC
          go_upto_region 18 with fail
          rw [← hw8]
          clear hw8 e7 f7
          have HT := HT8
          have HX := HX8
          clear HT8 HX8
          obtain ⟨sB, hsB⟩ : ∃ s, Hid (s = (s2.int.2.int.2.int.2.read 1 fFlag false).2) := ⟨_, rfl⟩
          rw [← hsB.out] at HT
          have hc := rfbytes_calls (HT.out.alloc (.cells #[] 5)).rd
          have HC := Lib.hid hc
          have HO0 := Lib.hid (own_lit w12 #[] 5 [] rfl (by decide))
          clear hc
          go_wp2_with fail
          refine (HC.out).mono ?_
          rintro e w13 ⟨a9, X, c9, hXe, rfl, hM, hR, hS⟩
          have hw2 : w2.heap.size ≤ w12.heap.size := by have := HI.out.size; have := HT.out.sv.size; omega
          have hlb := HG.out.lb
          have hp12 : p8 < w12.heap.size := (Array.getElem?_eq_some_iff.1 HX.out.1).1
          have HT13 := Lib.hid ((HT.out.alloc (.cells #[] 5)).call hR hS)
          have HO13 : Hid (VOwn cb 1 5 w12.heap.size w13 (some ⟨w12.heap.size, 0, none⟩) [] 0) := HO0.out.vown.save hS (fun g hg => by have := (HO0.out.blk_ge hg).1; omega)
          have hx13 : w13.heap[p8]? = some (.cells #[.int .i64 x.id.1, .int .i64 x.reg.base.1, .int .i64 x.reg.size.1, .bool x.keep, .slice none 0 0] 43 (0, 0)) := (hS.block p8 (by simp; omega) HX.out.2.2).trans ((Below.heap_alloc _ _ _ hp12).trans HX.out.1)
          have hrw := hM.row
          have HV13 : Hid (Vec cb 1 w13 a9 X c9) := Vec.of1 (v := vb) hrw.le hrw.top hrw.nil hrw.spot hrw.cell
          have HX13 := Lib.hid (And.intro hx13 (And.intro hp12 hw2))
          have HXL : Hid (([] : List UInt8).length + X.length ≤ 1000000000) := by have := bytes_le sB; have h2 := hXe.out; rw [Hid, h2, List.length_nil]; omega
          have HSZ : Hid (w12.heap.size ≤ w13.heap.size) := by have := hS.size; rw [World.size_alloc] at this; rw [Hid]; omega
          clear hM hR hS hrw hx13 hp12 hw2 hlb HC HO0 HT
          go_upto_region 19 with ((with_reducible refine wpList_vappany (o := ⟨some 59, .call _, _, _, _, _⟩) etU cb_len cb_one (.tmp 56) (.tmp 58) (by with_unfolding_all rfl) (by with_unfolding_all rfl) HO13.out HV13.out HXL.out HSZ.out (by with_unfolding_all rfl) (by with_unfolding_all rfl) ?_); intro a4 c4 w14 hO4 hg4; rw [List.nil_append]; rw [List.nil_append] at hO4; have HO14 := Lib.hid (And.intro hO4 hg4); have hx14 : w14.heap[p8]? = some (.cells #[.int .i64 x.id.1, .int .i64 x.reg.base.1, .int .i64 x.reg.size.1, .bool x.keep, .slice none 0 0] 43 (0, 0)) := ((hg4.block p8 (Nat.lt_of_lt_of_le HX13.out.2.1 HSZ.out) (fun e => by have h1 := HX13.out.2.1; simp [Go.Cit.blk] at e; omega)).trans HX13.out.1); have e14 := cells_of hx14 4 rfl; have f14 := frozen_no hx14 4; have HX14 := Lib.hid hx14; clear hO4 hg4 hx14)
          obtain ⟨w15, hw15⟩ : ∃ w15, w15 = w14.setCell ⟨p8, 4, none⟩ (.slice a4 X.length c4) := ⟨_, rfl⟩
          have hx15 : w15.heap[p8]? = some (.cells #[.int .i64 x.id.1, .int .i64 x.reg.base.1, .int .i64 x.reg.size.1, .bool x.keep, .slice a4 X.length c4] 43 (0, 0)) := by rw [hw15]; exact setCell_blk _ HX14.out
          have HI15 : Hid (PInv wz w2 b5 b top sB.bytes.2 ⟨aW, LW, cW, aP, LP, cP, none, [], 0⟩ w15) := by
            rw [hw15]
            refine HI.out.keep HG.out ((HT13.out.grown HG.out HI.out.size HO14.out.2 (fun g hg => ?_)).set HG.out HI.out.size HX.out.2.1 _)
            have h1 := HX13.out.2.1; have h2 := HX.out.2.1
            simp [Go.Cit.blk] at hg
            omega
          have HOX : Hid (Cit.Own 5 w2.heap.size w15 a4 X c4) := by
            rw [hw15]
            have h1 := HO14.out.1.own
            refine (h1.save Save.set (fun g hg => ?_)).low HX13.out.2.2
            have := (h1.blk_ge hg).1; have := HX13.out.2.1; omega
          clear HT13 HO13 HO14 HX13 HX14 HV13 HXL HSZ HX
          rw [← hw15]
          clear hw15 e14 f14
          obtain ⟨y, hy⟩ : ∃ y : PtV, Hid (y = ⟨x.id, x.reg, x.keep, a4, X, c4⟩) := ⟨_, rfl⟩
          have HYP : Hid (y.pt = (readPt s2).1) := by rw [Hid, hy.out, ← hx.out]; show (⟨x.id, x.reg, x.keep, X⟩ : Pt) = x; rw [hXe.out, hsB.out, hx.out]; rfl
          have hyc : cA y = #[.int .i64 x.id.1, .int .i64 x.reg.base.1, .int .i64 x.reg.size.1, .bool x.keep, .slice a4 X.length c4] := by rw [hy.out]
          rw [← hyc] at hx15
          have c1 := cells_of HI15.out.box 1 rfl
          have d0 := cells_of hx15 0 rfl
          have d1 := cells_of hx15 1 rfl
          have d2 := cells_of hx15 2 rfl
          have d3 := cells_of hx15 3 rfl
          have d4 := cells_of hx15 4 rfl
          have hge : ∀ g, Go.Cit.blk aP = some g → w2.heap.size ≤ g := fun g hg => (HI15.out.own.pts.blk_ge hg).1
          have HGE := Lib.hid hge
          have HL1 : Hid (LP.length + 1 ≤ 1000000000) := by have := HL9.out; rw [Hid]; omega
          have HOY : Hid (Cit.Own 5 w2.heap.size w15 y.a y.img y.c) := by rw [hy.out]; exact HOX.out
          clear hx15 hge hyc HOX hXe
          go_wp2_with (first
            | ((with_reducible refine wpList_value (o := ⟨some 64, .buildSlice _ _ _, _, _, _, _⟩) (by with_unfolding_all rfl) (build1c etP (.tmp 63) (.agg (cA y)) (cA y) rfl (by with_unfolding_all rfl) (by with_unfolding_all rfl) (by with_unfolding_all rfl) (by decide) _) ?_))
            | ((with_reducible refine wpList_vapp1 (o := ⟨some 65, .call _, _, _, _, _⟩) etP cPt_len cPt_one (y := y) (.tmp 62) (.tmp 64) (by with_unfolding_all rfl) (by with_unfolding_all rfl) HI15.out.own.pts (by with_unfolding_all rfl) HL1.out HI15.out.size (by with_unfolding_all rfl) (by with_unfolding_all rfl) ?_); intro a5 k5 w17 hO4 hg4 hn4; have HO4 := Lib.hid (And.intro hO4 hg4); have e10 := cells_of (HI15.out.grow5 HG.out hg4 HGE.out) 1 rfl; have f10 := frozen_no (HI15.out.grow5 HG.out hg4 HGE.out) 1; clear hO4 hg4 hn4))
          go_roundw
          case rel => exact ⟨k + 1, a5, LP ++ [y], k5, by go_num, by omega, by rw [Hid, List.map_append, HLP.out, readN, ← hs2.out, List.map_cons, List.map_nil, HYP.out], by rw [Hid, readN, ← hs2.out, show (readPt s2).2 = sB.bytes.2 by rw [hsB.out]; rfl]; exact HI15.out.app HG.out HO4.out.2 HGE.out (by rw [show LP.length + 1 = (LP ++ [y]).length by simp]; rfl) (HI15.out.own.app_pts HOY.out HO4.out.1 HO4.out.2)⟩
          case measure => simp [intOf]; omega
        · have hk2 : k = m := by omega
          subst hk2
          have HP2b : Hid ((par2 l).1 = LP.map PtV.pt ∧ (par2 l).2 = (readN readPt k s3).2) := ⟨by rw [HP2.out, HLP.out], by rw [HP2.out]⟩
          obtain ⟨sC, hsC⟩ : ∃ s, Hid (s = (readN readPt k s3).2) := ⟨_, rfl⟩
          rw [← hsC.out] at HI HP2b
          clear hk hlt HP2 h9m
          go_upto_region 20 with fail
          have hk := rfcount_calls HI.out.rd 8
          obtain ⟨j, hnj⟩ : ∃ n : Nat, Hid (((sC).count 8).1 = (n : Int)) := ⟨((sC).count 8).1.toNat, by have := (count_range (sC) 8 (by decide)).1; rw [Hid]; omega⟩
          have h9j : j ≤ 100 := by have := (count_range (sC) 8 (by decide)).2; have := hnj.out; omega
          obtain ⟨s4, hss4⟩ : ∃ s1, Hid (s1 = ((sC).count 8).2) := ⟨_, rfl⟩
          rw [hnj.out, ← hss4.out] at hk
          have HK := Lib.hid hk
          clear hk
          go_wp2_with fail
          refine (HK.out).mono ?_
          rintro e w3 ⟨rfl, hrd, hsv⟩
          have HI3 := Lib.hid (HI.out.keep HG.out (HI.out.tmp.call hrd hsv))
          clear hrd hsv HK HI
          go_wp2_with fail
          have HP3 : Hid (par3 l = readN readCh j s4) := by rw [Hid, par3, HP2b.out.2, readL, hnj.out, hss4.out]; rfl
          go_loopw [11] (fun i wr => ∃ (k : Nat) (aC : Option Addr) (LC : List Ch) (cC : Nat), i = .int .i64 (k : Int) ∧ k ≤ j ∧ Hid (LC = (readN readCh k s4).1) ∧ Hid (PInv wz w2 b5 b top (readN readCh k s4).2 ⟨aW, LW, cW, aP, LP, cP, aC, LC, cC⟩ wr)) (fun i _ => j - (intOf i).toNat)
          case atStart => exact ⟨0, none, [], 0, rfl, Nat.zero_le _, rfl, HI3⟩
          case round =>
            clear HI3
            obtain ⟨k, aC, LC, cC, rfl, hk, HLC, HI⟩ := hrel
            by_cases hlt : k < j
            · obtain ⟨s2, hs2⟩ : ∃ s2, Hid (s2 = (readN readCh k s4).2) := ⟨_, rfl⟩
              rw [← hs2.out] at HI
              have HL9 : Hid (LC.length ≤ 100) := by
                have := readN_len readCh k s4
                have h2 := HLC.out
                rw [Hid]
                rw [← h2] at this; omega
              obtain ⟨x, hx⟩ : ∃ x, Hid (x = (readCh s2).1) := ⟨(readCh s2).1, rfl⟩
              go_wp2_with fail
              have hc := rfint11 HI.out.rd
              rw [show s2.int.1.1 = x.id.1 by rw [hx.out]; rfl] at hc
              have HC := Lib.hid hc
              clear hc
              go_wp2_with fail
              refine (HC.out).mono ?_
              rintro e w5 ⟨rfl, hR5, hS5⟩
              have HT5 := Lib.hid (HI.out.tmp.call hR5 hS5)
              obtain ⟨wa, hwa⟩ : ∃ wa, wa = w5.alloc (.cells #[.int .i64 x.id.1, .int .i64 0, .int .i64 0, .int .i64 0, .int .i64 0] 54) := ⟨_, rfl⟩
              obtain ⟨p8, hp8⟩ : ∃ p, p = w5.heap.size := ⟨_, rfl⟩
              have HT : Hid (PTmp wz b top wr s2.int.2 wa) := by rw [hwa]; exact HT5.out.alloc _
              have HX : Hid (wa.heap[p8]? = some (.cells #[.int .i64 x.id.1, .int .i64 0, .int .i64 0, .int .i64 0, .int .i64 0] 54 (0, 0)) ∧ wr.heap.size ≤ p8 ∧ p8 ≠ b) := ⟨by rw [hwa, hp8]; exact heap_alloc_new _ _, by rw [hp8]; exact HT5.out.sv.size, by have := HG.out.lb; have := HI.out.size; have := HT5.out.sv.size; omega⟩
              clear hR5 hS5 HT5 HC
              go_upto_region 25 with fail
              rw [← hwa, ← hp8]
              clear hwa hp8
              have hc := rfint11 HT.out.rd
              rw [show (s2.int.2).int.1.1 = x.src.1 by rw [hx.out]; rfl] at hc
              have HC := Lib.hid hc
              clear hc
              go_wp2_with fail
              refine (HC.out).mono ?_
              rintro e w7 ⟨rfl, hR7, hS7⟩
              have HT7 := Lib.hid (HT.out.call hR7 hS7)
              have hx7 : w7.heap[p8]? = some (.cells #[.int .i64 x.id.1, .int .i64 0, .int .i64 0, .int .i64 0, .int .i64 0] 54 (0, 0)) := (hS7.block p8 (Array.getElem?_eq_some_iff.1 HX.out.1).1 HX.out.2.2).trans HX.out.1
              have e7 := cells_of hx7 1 rfl
              have f7 := frozen_no hx7 1
              obtain ⟨w8, hw8⟩ : ∃ w8, w8 = w7.setCell ⟨p8, 1, none⟩ (.int .i64 x.src.1) := ⟨_, rfl⟩
              have hx8 : w8.heap[p8]? = some (.cells #[.int .i64 x.id.1, .int .i64 x.src.1, .int .i64 0, .int .i64 0, .int .i64 0] 54 (0, 0)) := by rw [hw8]; exact setCell_blk _ hx7
              have HT8 := Lib.hid (HT7.out.set HG.out HI.out.size HX.out.2.1 (i := 1) (.int .i64 x.src.1))
              rw [← hw8] at HT8
              have HX8 := Lib.hid (And.intro hx8 HX.out.2)
              clear hR7 hS7 HT7 hx7 hx8 HT HX HC
              go_upto_region 26 with fail
              rw [← hw8]
              clear hw8 e7 f7
              have HT := HT8
              have HX := HX8
              clear HT8 HX8
              have hc := rfint11 HT.out.rd
              rw [show (s2.int.2.int.2).int.1.1 = x.dst.1 by rw [hx.out]; rfl] at hc
              have HC := Lib.hid hc
              clear hc
              go_wp2_with fail
              refine (HC.out).mono ?_
              rintro e w9 ⟨rfl, hR7, hS7⟩
              have HT7 := Lib.hid (HT.out.call hR7 hS7)
              have hx7 : w9.heap[p8]? = some (.cells #[.int .i64 x.id.1, .int .i64 x.src.1, .int .i64 0, .int .i64 0, .int .i64 0] 54 (0, 0)) := (hS7.block p8 (Array.getElem?_eq_some_iff.1 HX.out.1).1 HX.out.2.2).trans HX.out.1
              have e7 := cells_of hx7 2 rfl
              have f7 := frozen_no hx7 2
              obtain ⟨w10, hw8⟩ : ∃ w8, w8 = w9.setCell ⟨p8, 2, none⟩ (.int .i64 x.dst.1) := ⟨_, rfl⟩
              have hx8 : w10.heap[p8]? = some (.cells #[.int .i64 x.id.1, .int .i64 x.src.1, .int .i64 x.dst.1, .int .i64 0, .int .i64 0] 54 (0, 0)) := by rw [hw8]; exact setCell_blk _ hx7
              have HT8 := Lib.hid (HT7.out.set HG.out HI.out.size HX.out.2.1 (i := 2) (.int .i64 x.dst.1))
              rw [← hw8] at HT8
              have HX8 := Lib.hid (And.intro hx8 HX.out.2)
              clear hR7 hS7 HT7 hx7 hx8 HT HX HC
              go_upto_region 27 with fail
              rw [← hw8]
              clear hw8 e7 f7
              have HT := HT8
              have HX := HX8
              clear HT8 HX8
              have hc := rfint11 HT.out.rd
              rw [show (s2.int.2.int.2.int.2).int.1.1 = x.cap.1 by rw [hx.out]; rfl] at hc
              have HC := Lib.hid hc
              clear hc
              go_wp2_with fail
              refine (HC.out).mono ?_
              rintro e w11 ⟨rfl, hR7, hS7⟩
              have HT7 := Lib.hid (HT.out.call hR7 hS7)
              have hx7 : w11.heap[p8]? = some (.cells #[.int .i64 x.id.1, .int .i64 x.src.1, .int .i64 x.dst.1, .int .i64 0, .int .i64 0] 54 (0, 0)) := (hS7.block p8 (Array.getElem?_eq_some_iff.1 HX.out.1).1 HX.out.2.2).trans HX.out.1
              have e7 := cells_of hx7 3 rfl
              have f7 := frozen_no hx7 3
              obtain ⟨w12, hw8⟩ : ∃ w8, w8 = w11.setCell ⟨p8, 3, none⟩ (.int .i64 x.cap.1) := ⟨_, rfl⟩
              have hx8 : w12.heap[p8]? = some (.cells #[.int .i64 x.id.1, .int .i64 x.src.1, .int .i64 x.dst.1, .int .i64 x.cap.1, .int .i64 0] 54 (0, 0)) := by rw [hw8]; exact setCell_blk _ hx7
              have HT8 := Lib.hid (HT7.out.set HG.out HI.out.size HX.out.2.1 (i := 3) (.int .i64 x.cap.1))
              rw [← hw8] at HT8
              have HX8 := Lib.hid (And.intro hx8 HX.out.2)
              clear hR7 hS7 HT7 hx7 hx8 HT HX HC
              go_upto_region 28 with fail
              rw [← hw8]
              clear hw8 e7 f7
              have HT := HT8
              have HX := HX8
              clear HT8 HX8
              have hc := rfint11 HT.out.rd
              rw [show (s2.int.2.int.2.int.2.int.2).int.1.1 = x.size.1 by rw [hx.out]; rfl] at hc
              have HC := Lib.hid hc
              clear hc
              go_wp2_with fail
              refine (HC.out).mono ?_
              rintro e w13 ⟨rfl, hR7, hS7⟩
              have HT7 := Lib.hid (HT.out.call hR7 hS7)
              have hx7 : w13.heap[p8]? = some (.cells #[.int .i64 x.id.1, .int .i64 x.src.1, .int .i64 x.dst.1, .int .i64 x.cap.1, .int .i64 0] 54 (0, 0)) := (hS7.block p8 (Array.getElem?_eq_some_iff.1 HX.out.1).1 HX.out.2.2).trans HX.out.1
              have e7 := cells_of hx7 4 rfl
              have f7 := frozen_no hx7 4
              obtain ⟨w15, hw8⟩ : ∃ w8, w8 = w13.setCell ⟨p8, 4, none⟩ (.int .i64 x.size.1) := ⟨_, rfl⟩
              have hx8 : w15.heap[p8]? = some (.cells #[.int .i64 x.id.1, .int .i64 x.src.1, .int .i64 x.dst.1, .int .i64 x.cap.1, .int .i64 x.size.1] 54 (0, 0)) := by rw [hw8]; exact setCell_blk _ hx7
              have HT8 := Lib.hid (HT7.out.set HG.out HI.out.size HX.out.2.1 (i := 4) (.int .i64 x.size.1))
              rw [← hw8] at HT8
              have HX8 := Lib.hid (And.intro hx8 HX.out.2)
              clear hR7 hS7 HT7 hx7 hx8 HT HX HC
              go_upto_region 29 with fail
              rw [← hw8]
              clear hw8 e7 f7
              have HT := HT8
              have HX := HX8
              clear HT8 HX8
              have HI15 : Hid (PInv wz w2 b5 b top (readCh s2).2 ⟨aW, LW, cW, aP, LP, cP, aC, LC, cC⟩ w15) := HI.out.keep HG.out HT.out
              have hx15 := HX.out.1
              have c2 := cells_of HI15.out.box 2 rfl
              have d0 := cells_of hx15 0 rfl
              have d1 := cells_of hx15 1 rfl
              have d2 := cells_of hx15 2 rfl
              have d3 := cells_of hx15 3 rfl
              have d4 := cells_of hx15 4 rfl
              have hge : ∀ g, Go.Cit.blk aC = some g → w2.heap.size ≤ g := fun g hg => (HI15.out.own.chs.blk_ge hg).1
              have HGE := Lib.hid hge
              have HL1 : Hid (LC.length + 1 ≤ 1000000000) := by have := HL9.out; rw [Hid]; omega
              clear hx15 hge HT HX
              go_wp2_with (first
                | ((with_reducible refine wpList_value (o := ⟨some 92, .buildSlice _ _ _, _, _, _, _⟩) (by with_unfolding_all rfl) (build1c etC (.tmp 91) (.agg (cA5 x)) (cA5 x) rfl (by with_unfolding_all rfl) (by with_unfolding_all rfl) (by with_unfolding_all rfl) (by decide) _) ?_))
                | ((with_reducible refine wpList_vapp1 (o := ⟨some 93, .call _, _, _, _, _⟩) etC cCh_len cCh_one (y := x) (.tmp 90) (.tmp 92) (by with_unfolding_all rfl) (by with_unfolding_all rfl) HI15.out.own.chs (by with_unfolding_all rfl) HL1.out HI15.out.size (by with_unfolding_all rfl) (by with_unfolding_all rfl) ?_); intro a5 k5 w17 hO4 hg4 hn4; have HO4 := Lib.hid (And.intro hO4 hg4); have e10 := cells_of (HI15.out.grow5 HG.out hg4 HGE.out) 2 rfl; have f10 := frozen_no (HI15.out.grow5 HG.out hg4 HGE.out) 2; clear hO4 hg4 hn4))
              go_roundw
              case rel => exact ⟨k + 1, a5, LC ++ [x], k5, by go_num, by omega, by rw [Hid, HLC.out, readN, ← hs2.out, hx.out], by rw [Hid, readN, ← hs2.out]; exact HI15.out.app HG.out HO4.out.2 HGE.out (by rw [show LC.length + 1 = (LC ++ [x]).length by simp]; rfl) (HI15.out.own.app_chs HO4.out.1 HO4.out.2)⟩
              case measure => simp [intOf]; omega
            · have hk2 : k = j := by omega
              subst hk2
              have HP3b : Hid ((par3 l).1 = LC ∧ (par3 l).2 = (readN readCh k s4).2) := ⟨by rw [HP3.out, HLC.out], by rw [HP3.out]⟩
              obtain ⟨sE, hsE⟩ : ∃ s, Hid (s = (readN readCh k s4).2) := ⟨_, rfl⟩
              rw [← hsE.out] at HI HP3b
              obtain ⟨Q, hQ⟩ : ∃ Q : CfgV, Hid (Q = ⟨aW, LW, cW, aP, LP, cP, aC, LC, cC⟩) := ⟨_, rfl⟩
              have HQC : Hid (Q.cfg = parC l) := by rw [Hid, hQ.out, parC, HP1b.out.1, HP2b.out.1, HP3b.out.1]; rfl
              rw [← hQ.out] at HI
              clear hk hlt HP3 h9j
              go_upto_region 30 with fail
              have hke := rfend_calls HI.out.rd
              obtain ⟨f, hf⟩ : ∃ f, Hid (f = sE.fin) := ⟨_, rfl⟩
              rw [← hf.out] at hke
              have HKE := Lib.hid hke
              have HOK : Hid (parOk l = (decide (f = 0) && canC (parC l))) := by rw [Hid, parOk, HP3b.out.2, hf.out]
              obtain ⟨q, hq⟩ : ∃ q, Hid (q = canC (parC l)) := ⟨_, rfl⟩
              clear hke HP3b HP2b HP1b
              by_cases hf0 : f = 0
              · subst hf0
                go_wp2_with fail
                refine (HKE.out).mono ?_
                rintro e w9 ⟨rfl, hd9⟩
                have hb9 := hd9.below wr.heap.size
                have HI9 : Hid (PInv wz w2 b5 b top sE Q w9) := HI.out.keep HG.out ⟨Save.of hb9, HI.out.rd.stay hb9⟩
                obtain ⟨c0, c1, c2⟩ := in_of HI9.out.box
                have hc := refcan_calls w9 Q HI9.out.own.at
                rw [show canV Q = q by rw [canV_cfg, HQC.out, hq.out]] at hc
                have HC := Lib.hid hc
                clear hd9 hb9 hc HKE
                go_wp2_with fail
                refine (HC.out).mono ?_
                rintro e w10 ⟨rfl, hb10⟩
                have HB10 : Hid (Below wz.heap.size wz w10) := HI9.out.low.trans (hb10.mono (HI9.out.low.size))
                have HX10 := Lib.hid (And.intro (blk_stay HZ.out.1 HB10.out) (And.intro (blk_stay HI9.out.box hb10) (HI9.out.own.stay hb10)))
                have hRR : R < w2.heap.size := by have h1 := HZ.out.2.1; have h2 := HG.out.g5; have h3 := HG.out.l5; omega
                have HBW : Hid (Below w.heap.size w w10) := HZ.out.2.2.trans (HB10.out.mono HZ.out.2.2.size)
                clear hb10 HC c0 c1 c2
                cases q with
                | true =>
                  have e1 : Hid (parE l = 0) := by rw [Hid, parE, HOK.out, ← hq.out]; rfl
                  have e2 : Hid (parK l = parC l) := by rw [Hid, parK, HOK.out, ← hq.out]; rfl
                  obtain ⟨c0, c1, c2⟩ : InBox w10 b5 Q := in_of HX10.out.2.1
                  go_wp2_with ((with_reducible refine wpList_storeB (o := ⟨none, .store _ (.tmp 2) _, _, _, _, _⟩) rowCfg (.tmp 2) (.tmp 104) (by with_unfolding_all rfl) (by with_unfolding_all rfl) (by with_unfolding_all rfl) (by with_unfolding_all rfl) (by with_unfolding_all rfl) HX10.out.1 (by with_unfolding_all rfl) (by with_unfolding_all rfl) (by with_unfolding_all rfl) ?_); intro w12 hg12 hs12)
                  refine bodyPost_ret (resB2 rowCfg rfl (by rfl) hg12 rfl) rfl ⟨Q, ?_, by rw [HQC.out, e2.out], (OwnedV.above HX10.out.2.2 hs12 hRR).at, HBW.out.trans (hs12.below HBW.out.size (fun k hk => by have := HRR.out; omega))⟩
                  rw [e1.out]; rfl
                | false =>
                  have e1 : Hid (parE l = 110) := by rw [Hid, parE, HOK.out, ← hq.out]; rfl
                  have e2 : Hid (parK l = ⟨[], [], []⟩) := by rw [Hid, parK, HOK.out, ← hq.out]; rfl
                  go_wp2_with ((with_reducible refine wpList_storeB (o := ⟨none, .store _ (.tmp 2) _, _, _, _, _⟩) rowCfg (.tmp 2) (.tmp 103) (by with_unfolding_all rfl) (by with_unfolding_all rfl) (by with_unfolding_all rfl) (by with_unfolding_all rfl) (by with_unfolding_all rfl) HX10.out.1 (by with_unfolding_all rfl) (by with_unfolding_all rfl) (by with_unfolding_all rfl) ?_); intro w12 hg12 hs12)
                  refine bodyPost_ret (resB2 rowCfg rfl (by rfl) hg12 rfl) rfl ⟨⟨none, [], 0, none, [], 0, none, [], 0⟩, ?_, by rw [e2.out]; rfl, (fresh_nil 0 _).at, HBW.out.trans (hs12.below HBW.out.size (fun k hk => by have := HRR.out; omega))⟩
                  rw [e1.out]; rfl
              · have e1 : Hid (parE l = 110) := by rw [Hid, parE, HOK.out, decide_eq_false hf0]; rfl
                have e2 : Hid (parK l = ⟨[], [], []⟩) := by rw [Hid, parK, HOK.out, decide_eq_false hf0]; rfl
                have t1 : ((f : Int) != 0) = true := by simpa using hf0
                clear hf0
                go_wp2_with fail
                refine (HKE.out).mono ?_
                rintro e w9 ⟨rfl, hd9⟩
                have HB9 : Hid (Below wz.heap.size wz w9) := HI.out.low.trans (hd9.below _)
                have HX9 := Lib.hid (blk_stay HZ.out.1 HB9.out)
                have HBW : Hid (Below w.heap.size w w9) := HZ.out.2.2.trans (HB9.out.mono HZ.out.2.2.size)
                clear hd9
                go_wp2_with ((with_reducible refine wpList_storeB (o := ⟨none, .store _ (.tmp 2) _, _, _, _, _⟩) rowCfg (.tmp 2) (.tmp 103) (by with_unfolding_all rfl) (by with_unfolding_all rfl) (by with_unfolding_all rfl) (by with_unfolding_all rfl) (by with_unfolding_all rfl) HX9.out (by with_unfolding_all rfl) (by with_unfolding_all rfl) (by with_unfolding_all rfl) ?_); intro w12 hg12 hs12)
                refine bodyPost_ret (resB2 rowCfg rfl (by rfl) hg12 rfl) rfl ⟨⟨none, [], 0, none, [], 0, none, [], 0⟩, ?_, by rw [e2.out]; rfl, (fresh_nil 0 _).at, HBW.out.trans (hs12.below HBW.out.size (fun k hk => by have := HRR.out; omega))⟩
                rw [e1.out]; rfl
end Go.Proofs.Ytpnbaapjjchlbaa
