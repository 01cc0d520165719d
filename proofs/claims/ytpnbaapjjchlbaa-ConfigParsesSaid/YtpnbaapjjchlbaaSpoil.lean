/- Chapter 11's law: spoil: walked. What one owns may be written over. -/
import Derived.Test.YtpnbaapjjchlbaaStrP
namespace Go.Proofs.Ytpnbaapjjchlbaa
open Go Go.RowKit Go.Cit

theorem ad_off (g off i : Nat) : ad (some ⟨g, off, none⟩) i = ⟨g, off + i, none⟩ := by simp [ad]
/-- m cells of type T at a, in a block from B on, that may be written. -/
def Room (w : World) (a : Option Addr) (m B : Nat) (T : TypeId) : Prop := ∃ g off cs, a = some ⟨g, off, none⟩ ∧ B ≤ g ∧ w.heap[g]? = some (.cells cs T (0, 0)) ∧ off + m ≤ cs.size
/-- A configuration whose cells may be written over. -/
structure Sp (B : Nat) (w : World) (V : CfgV) : Prop where
  win : V.ws ≠ [] → Room w V.wa (V.ws.length * 2) B 52
  pts : V.ps ≠ [] → Room w V.pa (V.ps.length * 5) B 43
  chs : V.cs ≠ [] → Room w V.ca (V.cs.length * 5) B 54
  hd : ∀ i (h : i < V.ps.length), w.cell? (ad V.pa (i * 5 + 4)) = some (.slice V.ps[i].a V.ps[i].img.length V.ps[i].c)
  img : ∀ x ∈ V.ps, x.img ≠ [] → Room w x.a x.img.length B 5
  byt : ∀ x ∈ V.ps, ∀ k, k < x.img.length → ∃ b : UInt8, w.cell? (ad x.a k) = some (vb b)
theorem Room.cell {w : World} {a : Option Addr} {m B : Nat} {T : TypeId} (h : Room w a m B T) {k : Nat} (hk : k < m) : (∃ v, w.cell? (ad a k) = some v) ∧ w.frozen? (ad a k) = false := by
  obtain ⟨g, off, cs, rfl, _, hg, hs⟩ := h
  rw [ad_off]
  refine ⟨?_, by rw [World.frozen?, hg]; simp⟩
  rw [World.cell?, hg]
  exact ⟨cs[off + k]'(by omega), by simp⟩
theorem setCell_other {w : World} {b i k : Nat} (v : Value) (h : k ≠ b) : (w.setCell ⟨b, i, none⟩ v).heap[k]? = w.heap[k]? := by
  simp [World.setCell, Array.getElem?_modify, Ne.symm h]
theorem Room.set {w : World} {a : Option Addr} {m B : Nat} {T T' : TypeId} (h : Room w a m B T) {g i : Nat} {cs : Array Value} {v : Value} (hg : w.heap[g]? = some (.cells cs T' (0, 0))) : Room (w.setCell ⟨g, i, none⟩ v) a m B T := by
  obtain ⟨g', off, ds, rfl, hB, hd, hs⟩ := h
  by_cases e : g' = g
  · subst e
    exact ⟨g', off, _, rfl, hB, setCell_blk v hd, by simpa using hs⟩
  · exact ⟨g', off, ds, rfl, hB, (setCell_other v e).trans hd, hs⟩
theorem Sp.set {B : Nat} {w : World} {V : CfgV} (h : Sp B w V) {g i : Nat} {cs : Array Value} {T : TypeId} {v : Value} (hg : w.heap[g]? = some (.cells cs T (0, 0)))
    (hp : T = 43 → ∀ k, k < V.ps.length → ad V.pa (k * 5 + 4) ≠ ⟨g, i, none⟩) (hu : T = 5 → ∃ b : UInt8, v = vb b) : Sp B (w.setCell ⟨g, i, none⟩ v) V := by
  refine ⟨fun e => (h.win e).set hg, fun e => (h.pts e).set hg, fun e => (h.chs e).set hg, fun k hk => ?_, fun x hx e => (h.img x hx e).set hg, fun x hx k hk => ?_⟩
  · have h0 := h.hd k hk
    by_cases e : ad V.pa (k * 5 + 4) = ⟨g, i, none⟩
    · obtain ⟨gp, op, ds, ea, _, hd, _⟩ := h.pts (by intro h1; rw [h1] at hk; simp at hk)
      have e2 := e
      rw [ea, ad_off] at e2
      injection e2 with e3
      subst e3
      rw [hg] at hd
      injection hd with hd
      injection hd with _ hT
      exact absurd e (hp hT k hk)
    · rw [World.cell?_setCell_other _ _ _ _ (Ne.symm e)]; exact h0
  · obtain ⟨b, hb⟩ := h.byt x hx k hk
    by_cases e : ad x.a k = ⟨g, i, none⟩
    · obtain ⟨gp, op, ds, ea, _, hd, _⟩ := h.img x hx (by intro h1; rw [h1] at hk; simp at hk)
      have e2 := e
      rw [ea, ad_off] at e2
      injection e2 with e3
      subst e3
      rw [hg] at hd
      injection hd with hd
      injection hd with _ hT
      obtain ⟨b', hb'⟩ := hu hT
      refine ⟨b', ?_⟩
      rw [e] at hb ⊢
      rw [World.cell?_setCell_same' _ _ _ (by rw [hb]; rfl), hb']
    · exact ⟨b, by rw [World.cell?_setCell_other _ _ _ _ (Ne.symm e)]; exact hb⟩
theorem FreshV.sp {B : Nat} {w : World} {V : CfgV} (h : FreshV B w V) : Sp B w V := by
  have vec : ∀ {α : Type} {f : α → List Value} {n : Nat} {a : Option Addr} {l : List α} {c : Nat} {T : TypeId}, (∀ x, (f x).length = n) → 0 < n → Vec f n w a l c → (∀ g, blk a = some g → B ≤ g ∧ ∃ cs, w.heap[g]? = some (.cells cs T (0, 0))) → l ≠ [] → Room w a (l.length * n) B T := by
    intro α f n a l c T hf hn hv hb hne
    obtain ⟨g, off, rfl⟩ := hv.spot hne
    obtain ⟨hB, cs, hg⟩ := hb g rfl
    refine ⟨g, off, cs, rfl, hB, hg, ?_⟩
    have hl : 0 < l.length := List.length_pos_iff.2 hne
    have hc := hv.cell (l.length - 1) (by omega) (n - 1) (by omega)
    rw [ad_off, World.cell?, hg, List.getElem?_eq_getElem (by rw [hf]; omega)] at hc
    have hlt : off + ((l.length - 1) * n + (n - 1)) < cs.size := (Array.getElem?_eq_some_iff.1 hc).1
    have : l.length * n = (l.length - 1) * n + n := by rw [← Nat.succ_mul]; congr 1; omega
    omega
  refine ⟨vec cWin_len (by decide) h.win h.wb, vec cPt_len (by decide) h.pts h.pb, vec cCh_len (by decide) h.chs h.cb, fun i hi => ?_, fun x hx hne => ?_, fun x hx k hk => ⟨_, (h.img x hx).isRow.cell k hk⟩⟩
  · exact h.pts.cell i hi 4 (by decide)
  · have := vec (T := 5) cb_len (by decide) ((h.img x hx).vown.vec cb_len) (fun g hg => ⟨((h.img x hx).blk_ge hg).1, vown_block (h.img x hx).vown hg⟩) hne
    rwa [Nat.mul_one] at this
/-- What the walk carries: the box in block R, too. -/
structure SpI (w0 : World) (B R : Nat) (V : CfgV) (w : World) : Prop where
  sp : Sp B w V
  box : w.heap[R]? = some (.cells (cU V) 26 (0, 0))
  low : Below B w0 w
  big : B ≤ w.heap.size
theorem SpI.set {w0 : World} {B R : Nat} {V : CfgV} {w : World} (h : SpI w0 B R V w) {g i : Nat} {cs : Array Value} {T : TypeId} {v : Value} (hg : w.heap[g]? = some (.cells cs T (0, 0))) (hB : B ≤ g) (hc : T ≠ 26)
    (hp : T = 43 → ∀ k, k < V.ps.length → ad V.pa (k * 5 + 4) ≠ ⟨g, i, none⟩) (hu : T = 5 → ∃ b : UInt8, v = vb b) : SpI w0 B R V (w.setCell ⟨g, i, none⟩ v) := by
  have hs : (w.setCell ⟨g, i, none⟩ v).heap.size = w.heap.size := by simp [World.setCell]
  refine ⟨h.sp.set hg hp hu, ?_, h.low.trans ⟨rfl, rfl, rfl, by rw [hs]; exact Nat.le_refl _, fun k hk => setCell_other v (by omega)⟩, by rw [hs]; exact h.big⟩
  rw [setCell_other v ?_]; exact h.box
  rintro rfl
  rw [h.box] at hg
  injection hg with hg
  injection hg with _ hT
  exact hc hT.symm
theorem SpI.win {w0 : World} {B R : Nat} {V : CfgV} {w : World} (h : SpI w0 B R V w) (k : Nat) (hk : k < V.ws.length) (v : Value) : SpI w0 B R V (w.setCell (ad V.wa (k * 2)) v) := by
  obtain ⟨g, off, cs, ea, hB, hg, _⟩ := h.sp.win (by intro h1; rw [h1] at hk; simp at hk)
  rw [ea, ad_off]
  exact h.set hg hB (by decide) (fun e => absurd e (by decide)) (fun e => absurd e (by decide))
theorem SpI.chs {w0 : World} {B R : Nat} {V : CfgV} {w : World} (h : SpI w0 B R V w) (k : Nat) (hk : k < V.cs.length) (v : Value) : SpI w0 B R V (w.setCell (ad V.ca (k * 5)) v) := by
  obtain ⟨g, off, cs, ea, hB, hg, _⟩ := h.sp.chs (by intro h1; rw [h1] at hk; simp at hk)
  rw [ea, ad_off]
  exact h.set hg hB (by decide) (fun e => absurd e (by decide)) (fun e => absurd e (by decide))
theorem SpI.pts {w0 : World} {B R : Nat} {V : CfgV} {w : World} (h : SpI w0 B R V w) (k : Nat) (hk : k < V.ps.length) (v : Value) : SpI w0 B R V (w.setCell (ad V.pa (k * 5)) v) := by
  obtain ⟨g, off, cs, ea, hB, hg, _⟩ := h.sp.pts (by intro h1; rw [h1] at hk; simp at hk)
  rw [ea, ad_off]
  refine h.set hg hB (by decide) (fun _ j _ e => ?_) (fun e => absurd e (by decide))
  rw [ea, ad_off] at e
  injection e with _ e
  omega
theorem SpI.byt {w0 : World} {B R : Nat} {V : CfgV} {w : World} (h : SpI w0 B R V w) {x : PtV} (hx : x ∈ V.ps) (k : Nat) (hk : k < x.img.length) (b : UInt8) : SpI w0 B R V (w.setCell (ad x.a k) (vb b)) := by
  obtain ⟨g, off, cs, ea, hB, hg, _⟩ := h.sp.img x hx (by intro h1; rw [h1] at hk; simp at hk)
  rw [ea, ad_off]
  exact h.set hg hB (by decide) (fun e => absurd e (by decide)) (fun _ => ⟨b, rfl⟩)
theorem index_at {P : Program} {T E : TypeId} {n by_ : Nat} {z : Value} (hE : ElemType P T E n by_ z) {w : World} {a : Option Addr} {m B : Nat} {E' : TypeId} (h : Room w a m B E') {N : Nat} (c i : Nat) (hi : i < N) :
    ∀ w, (Instr.indexAt T (.slice a N c) (.int .i64 (i : Int))).run P w = .ok (.pointer (some (ad a (i * n)))) w := by
  intro w
  have hT := hE.slice
  obtain ⟨b, off, cs, rfl, _⟩ := h
  have he : P.elem T = E := by simp [Program.elem, hT]
  rw [run_indexAt_slice w T _ _ _ _ _ (by rw [he]; exact hT), if_pos (by omega), he, hE.sz]
  simp only [Result.andThen, ad, Addr.add]
  by_cases h0 : i * n = 0
  · simp [h0]
  · simp [h0]
set_option maxRecDepth 100000 in
set_option maxHeartbeats 8000000 in
theorem spoil_calls (w : World) (V : CfgV) (B : Nat) (h : FreshV B w V) (hB : B ≤ w.heap.size) : Calls Try.prog 52 #[.agg #[.slice V.wa V.ws.length V.wc, .slice V.pa V.ps.length V.pc, .slice V.ca V.cs.length V.cc]] w fun e w' => e = .returned (.tuple #[]) ∧ Below B w w' := by
  obtain ⟨R, hR⟩ : ∃ R, R = w.heap.size := ⟨_, rfl⟩
  obtain ⟨w0, hw0⟩ : ∃ w0, w0 = w.alloc (.cells #[.slice V.wa V.ws.length V.wc, .slice V.pa V.ps.length V.pc, .slice V.ca V.cs.length V.cc] 26) := ⟨_, rfl⟩
  have B0 : Below w.heap.size w w0 := by rw [hw0]; exact (Below.refl _ w).alloc (Nat.le_refl _) _
  have hI : Hid (SpI w B R V w0) := ⟨(h.stay B0).sp, by rw [hw0, hR]; exact heap_alloc_new _ _, B0.mono hB, Nat.le_trans hB B0.size⟩
  obtain ⟨c0, c1, c2⟩ := cU_in hI.out.box
  have hlw := h.win.len_le
  have hlp := h.pts.len_le
  have hlc := h.chs.len_le
  have HIL : Hid (∀ x ∈ V.ps, x.img.length ≤ 9223372036854775807) := fun x hx => (h.img x hx).isRow.len_le
  clear h hB B0
  go_enter Try.func52, Try.ntmps52
  go_wp2_with fail
  rw [← hw0, ← hR]
  clear hw0 hR
  go_loopw [2] (fun i wr => ∃ k : Nat, i = .int .i64 (k : Int) ∧ k ≤ V.ws.length ∧ Hid (SpI w B R V wr)) (fun i _ => V.ws.length - (intOf i).toNat)
  case atStart => exact ⟨0, rfl, Nat.zero_le _, hI⟩
  case round =>
    obtain ⟨k, rfl, hk, HK⟩ := hrel
    clear c0 c1 c2
    obtain ⟨c0, c1, c2⟩ := cU_in HK.out.box
    by_cases hlt : k < V.ws.length
    · have hrm := HK.out.sp.win (by intro h1; rw [h1] at hlt; simp at hlt)
      have ix := index_at etW hrm V.wc k hlt
      obtain ⟨⟨v, ev⟩, fv⟩ := hrm.cell (k := k * 2) (by omega)
      have HN := Lib.hid (HK.out.win k hlt (.int .i64 (-9)))
      clear hrm
      go_wp2_with fail
      go_roundw
      case rel => exact ⟨k + 1, by go_num, by omega, HN⟩
      case measure => simp [intOf]; omega
    · go_wp2_with fail
      clear hlt hk
      go_loopw [3] (fun i wr => ∃ k : Nat, i = .int .i64 (k : Int) ∧ k ≤ V.ps.length ∧ Hid (SpI w B R V wr)) (fun i _ => V.ps.length - (intOf i).toNat)
      case atStart => exact ⟨0, rfl, Nat.zero_le _, HK⟩
      case round =>
        clear c0 c1 c2 HK
        obtain ⟨k, rfl, hk, HK⟩ := hrel
        obtain ⟨c0, c1, c2⟩ := cU_in HK.out.box
        by_cases hlt : k < V.ps.length
        · have hrm := HK.out.sp.pts (by intro h1; rw [h1] at hlt; simp at hlt)
          have ix := index_at etP hrm V.pc k hlt
          obtain ⟨x, hx⟩ : ∃ x, Hid (x = V.ps[k]) := ⟨V.ps[k], rfl⟩
          have HX : Hid (x ∈ V.ps) := by rw [hx.out]; exact List.getElem_mem hlt
          have HH : Hid (∀ wq, SpI w B R V wq → wq.cell? ⟨(ad V.pa (k * 5)).block, (ad V.pa (k * 5)).off + 4, none⟩ = some (.slice x.a x.img.length x.c)) := fun wq hq => by
            have h4 := hq.sp.hd k hlt
            obtain ⟨g, off, cs, ea, _⟩ := hrm
            rw [ea, ad_off] at h4 ⊢
            rw [hx.out, ← h4]
            simp [Nat.add_assoc]
          have hlx := HIL.out x HX.out
          have hd4 := HH.out _ HK.out
          have HKL := Lib.hid hlt
          clear hrm
          go_wp2_with fail
          go_loopw [4] (fun i wq => ∃ m : Nat, i = .int .i64 (m : Int) ∧ m ≤ x.img.length ∧ Hid (SpI w B R V wq)) (fun i _ => x.img.length - (intOf i).toNat)
          case atStart => exact ⟨0, rfl, Nat.zero_le _, HK⟩
          case round =>
            clear c0 c1 c2 HK hd4
            obtain ⟨m, rfl, hm, HQ⟩ := hrel
            obtain ⟨c0, c1, c2⟩ := cU_in HQ.out.box
            have hd4 := HH.out _ HQ.out
            by_cases hmt : m < x.img.length
            · have hrx := HQ.out.sp.img x HX.out (by intro h1; rw [h1] at hmt; simp at hmt)
              have ij := index_at etU hrx x.c m hmt
              rw [Nat.mul_one] at ij
              obtain ⟨b, ej⟩ := HQ.out.sp.byt x HX.out m hmt
              have fj := (hrx.cell hmt).2
              have HN := Lib.hid (HQ.out.byt HX.out m hmt (bXor b (bI 255)))
              rw [show vb (bXor b (bI 255)) = Value.int .u8 (bits .xor .u8 (b.toNat : Int) 255) by rw [show (255 : Int) = ((bI 255).toNat : Int) from rfl, bits_b_xor]; rfl] at HN
              clear hrx
              go_wp2_with fail
              go_roundw
              case rel => exact ⟨m + 1, by go_num, by omega, HN⟩
              case measure => simp [intOf]; omega
            · have hrm := HQ.out.sp.pts (by intro h1; have := HKL.out; rw [h1] at this; simp at this)
              obtain ⟨⟨v, ev⟩, fv⟩ := hrm.cell (k := k * 5) (by have := HKL.out; omega)
              have HN := Lib.hid (HQ.out.pts k HKL.out (.int .i64 (-9)))
              clear hrm
              go_wp2_with fail
              go_roundw
              case rel => exact ⟨k + 1, by go_num, by have := HKL.out; omega, HN⟩
              case measure => have := HKL.out; simp [intOf]; omega
        · go_wp2_with fail
          clear hlt hk
          go_loopw [5] (fun i wr => ∃ k : Nat, i = .int .i64 (k : Int) ∧ k ≤ V.cs.length ∧ Hid (SpI w B R V wr)) (fun i _ => V.cs.length - (intOf i).toNat)
          case atStart => exact ⟨0, rfl, Nat.zero_le _, HK⟩
          case round =>
            clear c0 c1 c2 HK
            obtain ⟨k, rfl, hk, HK⟩ := hrel
            obtain ⟨c0, c1, c2⟩ := cU_in HK.out.box
            by_cases hlt : k < V.cs.length
            · have hrm := HK.out.sp.chs (by intro h1; rw [h1] at hlt; simp at hlt)
              have ix := index_at etC hrm V.cc k hlt
              obtain ⟨⟨v, ev⟩, fv⟩ := hrm.cell (k := k * 5) (by omega)
              have HN := Lib.hid (HK.out.chs k hlt (.int .i64 (-9)))
              clear hrm
              go_wp2_with fail
              go_roundw
              case rel => exact ⟨k + 1, by go_num, by omega, HN⟩
              case measure => simp [intOf]; omega
            · go_wp2_with fail
              go_end0
              exact ⟨rfl, HK.out.low⟩
end Go.Proofs.Ytpnbaapjjchlbaa
