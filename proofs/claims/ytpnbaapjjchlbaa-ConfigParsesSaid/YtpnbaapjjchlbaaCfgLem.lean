/- Lemmas that the texts of chapter 11 use; the same as those of chapters 12 and 13 (never beside them). No condition but those that each names. -/
import Derived.Test.YtpnbaapjjchlbaaCan
import Derived.Test.YtpnbaapjjchlbaaChanGet
import Derived.Test.YtpnbaapjjchlbaaSet
import Derived.Test.YtpnbaapjjchlbaaPartBox
import Derived.Test.YtpnbaapjjchlbaaIs12
import Derived.Test.YtpnbaapjjchlbaaGpMore
namespace Go.Proofs.Ytpnbaapjjchlbaa
open Go Go.RowKit Go.Cit

theorem blk_stay {w w' : World} {k : Nat} {o : Obj} (h : w.heap[k]? = some o) (hb : Below w.heap.size w w') : w'.heap[k]? = some o := (hb.block k (Array.getElem?_eq_some_iff.1 h).1).trans h
@[reducible] def bxO (V : CfgV) : Obj := .cells #[.slice V.wa V.ws.length V.wc, .slice V.pa V.ps.length V.pc, .slice V.ca V.cs.length V.cc] 26 (0, 0)
theorem in_of {w : World} {b : Nat} {V : CfgV} (h : w.heap[b]? = some (bxO V)) : InBox w b V := ⟨by rw [World.cell?, h]; rfl, by rw [World.cell?, h]; rfl, by rw [World.cell?, h]; rfl⟩
theorem setCell_blk {w : World} {b i : Nat} {cs : Array Value} {E : TypeId} {fr : Nat × Nat} (v : Value) (h : w.heap[b]? = some (.cells cs E fr)) : (w.setCell ⟨b, i, none⟩ v).heap[b]? = some (.cells (cs.setIfInBounds i v) E fr) := by
  simp [World.setCell, Array.getElem?_modify, h]
theorem vown_of_blk {α : Type} {f : α → List Value} {n E B : Nat} {w : World} {g : Nat} {l : List α} (hf : ∀ x, (f x).length = n) (hb : B ≤ g) (hl : l.length ≤ 1000000000) {cs : Array Value} (h : w.heap[g]? = some (.cells cs E (0, 0))) (hc : cs = (l.flatMap f).toArray) : VOwn f n E B w (some ⟨g, 0, none⟩) l l.length := by
  subst hc
  exact ⟨⟨flatLen hf l, .inr ⟨g, l.length, _, rfl, hb, h, Nat.le_refl _, by unfold maxLen; omega, by rw [List.size_toArray, flatLen hf], by rw [List.toList_toArray]; exact List.take_of_length_le (by rw [flatLen hf]; exact Nat.le_refl _)⟩⟩⟩
theorem small_of_len {V : CfgV} (h1 : V.ws.length ≤ 100) (h2 : V.ps.length ≤ 100) (h3 : V.cs.length ≤ 100) (h4 : V.ps.all (fun x => decide (x.img.length ≤ 10000)) = true) : SmallV V :=
  ⟨h1, h2, h3, fun x hx => by simpa using List.all_eq_true.1 h4 x hx⟩
theorem set_map {α β : Type} (f : α → β) (l : List α) (k : Nat) (x : α) (hk : k < l.length) (h : f x = f l[k]) : (l.set k x).map f = l.map f := by
  rw [List.map_set, h]
  apply List.ext_getElem?
  intro i
  rw [List.getElem?_set]
  by_cases hi : k = i
  · subst hi; simp [hk]
  · simp [hi]
theorem own_addr {α : Type} {f : α → List Value} {n E B : Nat} {w : World} {a : Option Addr} {l : List α} {c : Nat} (h : VOwn f n E B w a l c) (hl : l ≠ []) : ∃ g, a = some ⟨g, 0, none⟩ ∧ B ≤ g ∧ g < w.heap.size := by
  rcases h.row.2 with ⟨hv, h0⟩ | ⟨g, c', cur, hv, hB, hg, _⟩
  · exact absurd (List.eq_nil_of_length_eq_zero h0) hl
  · injection hv with h1
    exact ⟨g, h1, hB, (Array.getElem?_eq_some_iff.1 hg).1⟩
theorem small_cfg {U V : CfgV} (h : U.cfg = V.cfg) (hs : SmallV V) : SmallV U := by
  simp only [CfgV.cfg, Cfg.mk.injEq] at h
  obtain ⟨h1, h2, h3⟩ := h
  have hl : U.ps.length = V.ps.length := by have := congrArg List.length h2; simpa using this
  refine ⟨by rw [h1]; exact hs.win, by rw [hl]; exact hs.pts, by rw [h3]; exact hs.chs, fun x hx => ?_⟩
  have hm : x.pt ∈ V.ps.map PtV.pt := by rw [← h2]; exact List.mem_map_of_mem hx
  obtain ⟨y, hy, he⟩ := List.mem_map.1 hm
  have : y.img = x.img := congrArg Pt.img he
  rw [← this]
  exact hs.img y hy
theorem two_box (w : World) (V W : CfgV) : InBox ((w.alloc (.cells #[.slice V.wa V.ws.length V.wc, .slice V.pa V.ps.length V.pc, .slice V.ca V.cs.length V.cc] 26)).alloc (.cells #[.slice W.wa W.ws.length W.wc, .slice W.pa W.ps.length W.pc, .slice W.ca W.cs.length W.cc] 26)) w.heap.size V ∧ InBox ((w.alloc (.cells #[.slice V.wa V.ws.length V.wc, .slice V.pa V.ps.length V.pc, .slice V.ca V.cs.length V.cc] 26)).alloc (.cells #[.slice W.wa W.ws.length W.wc, .slice W.pa W.ps.length W.pc, .slice W.ca W.cs.length W.cc] 26)) (w.heap.size + 1) W := by
  refine ⟨(inBox_new w V _).keep ((Below.refl _ _).alloc (Nat.le_refl _) _), ?_⟩
  have := inBox_new (w.alloc (.cells #[.slice V.wa V.ws.length V.wc, .slice V.pa V.ps.length V.pc, .slice V.ca V.cs.length V.cc] 26)) W 26
  simpa using this
def i3 : I64 := ⟨3, by decide⟩
def i32 : I64 := ⟨32, by decide⟩
@[reducible] def cU (U : CfgV) : Array Value := #[.slice U.wa U.ws.length U.wc, .slice U.pa U.ps.length U.pc, .slice U.ca U.cs.length U.cc]
theorem load_ch {w0 w : World} {a : Option Addr} {l : List Ch} {c : Nat} (h : Vec cCh 5 w0 a l c) (hb : Below w0.heap.size w0 w) (k : Nat) (hk : k < l.length) : (Instr.loadAt 54 (.pointer (some (ad a (k * 5))))).run Try.prog w = .ok (.agg (cA5 l[k])) w := by
  obtain ⟨u0, u1, u2, u3, u4⟩ := chs_cells h hb k hk
  have e : ad a (k * 5) = ⟨(ad a (k * 5)).block, (ad a (k * 5)).off, none⟩ := by cases a <;> rfl
  rw [e] at u0
  rw [e]
  refine run_loadAt_mid w _ _ 54 [.int .i64 l[k].id.1, .int .i64 l[k].src.1, .int .i64 l[k].dst.1, .int .i64 l[k].cap.1, .int .i64 l[k].size.1] _ (fun j v hv => ?_) Try.underlying54 rfl (by kernel_rfl)
  match j, hv with
  | 0, hv => injection hv with hv; rw [← hv]; exact u0
  | 1, hv => injection hv with hv; rw [← hv]; exact u1
  | 2, hv => injection hv with hv; rw [← hv]; exact u2
  | 3, hv => injection hv with hv; rw [← hv]; exact u3
  | 4, hv => injection hv with hv; rw [← hv]; exact u4
theorem getP_map (ps : List PtV) (x : Int) : getP ps x = ((ps.map PtV.pt).find? fun p => decide (p.id.1 = x)).getD pt0 := by
  unfold getP; rw [List.find?_map]; rfl
theorem hasP_map (ps : List PtV) (x : Int) : hasP ps x = (ps.map PtV.pt).any fun p => decide (p.id.1 = x) := by
  unfold hasP; rw [List.any_map]; rfl
theorem ps_cfg {V U : CfgV} (h : V.cfg = U.cfg) : V.ps.map PtV.pt = U.ps.map PtV.pt := congrArg Cfg.parts h
theorem hasP_cfg {V U : CfgV} (h : V.cfg = U.cfg) (x : Int) : hasP V.ps x = hasP U.ps x := by rw [hasP_map, hasP_map, ps_cfg h]
theorem getP_cfg {V U : CfgV} (h : V.cfg = U.cfg) (x : Int) : getP V.ps x = getP U.ps x := by rw [getP_map, getP_map, ps_cfg h]
theorem cU_in {w : World} {b : Nat} {V : CfgV} (h : w.heap[b]? = some (.cells (cU V) 26 (0, 0))) : InBox w b V := in_of h
def vZ : CfgV := ⟨none, [], 0, none, [], 0, none, [], 0⟩
theorem small_Z : SmallV vZ := small_of_len (by simp [vZ]) (by simp [vZ]) (by simp [vZ]) (by rfl)
theorem at_Z (w : World) : vZ.At w := ⟨Vec.nil_ _, Vec.nil_ _, Vec.nil_ _, fun x hx => by simp [vZ] at hx⟩
end Go.Proofs.Ytpnbaapjjchlbaa
