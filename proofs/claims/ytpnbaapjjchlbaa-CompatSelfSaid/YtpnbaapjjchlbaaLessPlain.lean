/- A partition's Keep or image otherwise, a channel less (plain). No condition. -/
import Derived.Test.YtpnbaapjjchlbaaGonePlain
namespace Go.Proofs.Ytpnbaapjjchlbaa
open Go Go.RowKit Go.Cit

def setV (V : CfgV) (k : Nat) (x : PtV) : CfgV := { V with ps := V.ps.set k x }
def delC (V : CfgV) (k : Nat) : CfgV := { V with cs := V.cs.eraseIdx k }
theorem asc_ids : ∀ (ps qs : List PtV) (a : Int), ps.map (·.id.1) = qs.map (·.id.1) → ascP a ps = ascP a qs
  | [], [], _, _ => rfl
  | [], y :: r, _, h => by simp at h
  | y :: r, [], _, h => by simp at h
  | x :: r, y :: s, a, h => by
    simp only [List.map_cons, List.cons.injEq] at h
    rw [ascP, ascP, h.1, asc_ids r s _ h.2]
theorem has_ids {ps qs : List PtV} (h : ps.map (·.id.1) = qs.map (·.id.1)) (p : Int) : hasP ps p = hasP qs p := by
  have e : ∀ l : List PtV, hasP l p = (l.map (·.id.1)).any (fun z => decide (z = p)) := fun l => by unfold hasP; rw [List.any_map]; rfl
  rw [e, e, h]
theorem ok_regs {ps qs : List PtV} (h : ps.map (·.reg) = qs.map (·.reg)) : okRegs ps = okRegs qs := by
  have e : ∀ l : List PtV, okRegs l = (l.map (·.reg)).filter mayR := fun l => by unfold okRegs; rw [List.filter_map]; rfl
  rw [e, e, h]
theorem errs_like {V V' : CfgV} (h1 : V'.ws = V.ws) (h2 : V'.cs = V.cs) (hi : V'.ps.map (·.id.1) = V.ps.map (·.id.1)) (hr : V'.ps.map (·.reg) = V.ps.map (·.reg)) (h : Good V) :
    errs V' = if regionsBad V'.ps then [80] else [] := by
  have hl : V'.ps.length = V.ps.length := by have := congrArg List.length hi; simpa using this
  obtain ⟨e1, e2, _, e4, e5⟩ := errs_nil.1 (good_iff.2 h)
  have f1 : windowsBad V' = false := by
    rw [← e1]; unfold windowsBad winBad
    rw [h1]; simp only [has_ids hi]
  have f2 : partsBad V'.ps = false := by
    rw [← e2]; unfold partsBad
    rw [hl, asc_ids _ _ _ hi]
  have f4 : overlapBad V'.ps = false := by
    rw [← e4]; unfold overlapBad
    rw [ok_regs hr]
  have f5 : channelsBad V' = false := by
    rw [← e5]; unfold channelsBad chBad
    rw [h2]; simp only [has_ids hi]
  unfold errs errsTo bads
  rw [f1, f2, f4, f5]
  cases regionsBad V'.ps <;> rfl
theorem set_map {α β : Type} (f : α → β) (l : List α) (k : Nat) (x : α) (hk : k < l.length) (h : f x = f l[k]) : (l.set k x).map f = l.map f := by
  rw [List.map_set, h]
  apply List.ext_getElem?
  intro i
  rw [List.getElem?_set]
  by_cases hi : k = i
  · subst hi; simp [hk]
  · simp [hi]
theorem set_errs {V : CfgV} (h : Good V) {k : Nat} (hk : k < V.ps.length) {x : PtV} (hid : x.id = V.ps[k].id) (hreg : x.reg = V.ps[k].reg) : errs (setV V k x) = if (x.reg.size.1 : Int) < (x.img.length : Int) then [80] else [] := by
  rw [errs_like (V := V) (V' := setV V k x) rfl rfl (set_map (fun y : PtV => y.id.1) _ _ _ hk (by rw [hid])) (set_map (fun y : PtV => y.reg) _ _ _ hk hreg) h]
  have hm := (h.reg V.ps[k] (List.getElem_mem hk)).1
  by_cases hq : (x.reg.size.1 : Int) < (x.img.length : Int)
  · rw [if_pos hq, if_pos]
    unfold regionsBad
    rw [List.any_eq_true]
    refine ⟨x, List.mem_iff_getElem.2 ⟨k, by show k < (V.ps.set k x).length; simpa using hk, by simp [setV]⟩, ?_⟩
    unfold regBad
    simp [hq]
  · rw [if_neg hq, if_neg]
    rw [Bool.not_eq_true, regionsBad_iff]
    intro y hy
    rcases List.mem_or_eq_of_mem_set hy with hy | rfl
    · exact h.reg y hy
    · exact ⟨by rw [hreg]; exact hm, by omega⟩
theorem asc_pair (l : List Ch) : ascTo l (l.length - 1) = true ↔ l.Pairwise (fun a b => a.id.1 < b.id.1) := by
  have hat : ∀ i (hi : i < l.length), idAt l i = l[i].id.1 := fun i hi => by unfold idAt; simp [hi]
  unfold ascTo
  rw [List.all_eq_true, List.pairwise_iff_getElem]
  simp only [List.mem_range, decide_eq_true_eq]
  constructor
  · intro h i j hi hj hij
    have key : ∀ d, i + 1 + d < l.length → idAt l i < idAt l (i + 1 + d) := by
      intro d
      induction d with
      | zero => intro hd; exact h i (by omega)
      | succ d ih => intro hd; have h1 := ih (by omega); have h2 := h (i + 1 + d) (by omega); rw [← Nat.add_assoc]; omega
    have := key (j - i - 1) (by omega)
    rw [show i + 1 + (j - i - 1) = j by omega, hat i hi, hat j hj] at this
    exact this
  · intro h i hi
    rw [hat i (by omega), hat (i + 1) (by omega)]
    exact h i (i + 1) (by omega) (by omega) (by omega)
theorem chErr_zero (l : List Ch) : chErr l = 0 ↔ (∀ x ∈ l, mayC x = true) ∧ l.Pairwise (fun a b => a.id.1 < b.id.1) := by
  rw [← asc_pair, ← List.all_eq_true]
  unfold chErr
  by_cases h1 : l.all mayC = true
  · by_cases h2 : ascTo l (l.length - 1) = true
    · simp [h1, h2]
    · simp [h1, h2]
  · simp [h1]
theorem del_good {V : CfgV} (h : Good V) (k : Nat) : Good (delC V k) := by
  have hc := (chErr_zero _).1 h.chk
  refine ⟨h.may, h.few, h.asc, h.reg, h.apart, h.win, Nat.le_trans (List.length_eraseIdx_le _ _) h.chn, ?_, fun x hx => h.ends x (List.mem_of_mem_eraseIdx hx)⟩
  exact (chErr_zero _).2 ⟨fun x hx => hc.1 x (List.mem_of_mem_eraseIdx hx), hc.2.sublist (List.eraseIdx_sublist _ _)⟩
theorem del_cfg {U V : CfgV} (h : U.cfg = V.cfg) (k : Nat) : (delC U k).cfg = (delC V k).cfg := by
  simp only [CfgV.cfg, Cfg.mk.injEq, delC] at h ⊢
  exact ⟨h.1, h.2.1, by rw [h.2.2]⟩
end Go.Proofs.Ytpnbaapjjchlbaa
