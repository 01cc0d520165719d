/- A partition less: what is wrong then (plain). No condition. -/
import Derived.Test.YtpnbaapjjchlbaaGood
import Derived.Test.YtpnbaapjjchlbaaTicks
import Derived.Test.YtpnbaapjjchlbaaGp
namespace Go.Proofs.Ytpnbaapjjchlbaa
open Go Go.RowKit Go.Cit

theorem map_erase {α β : Type} (f : α → β) : ∀ (l : List α) (k : Nat), (l.eraseIdx k).map f = (l.map f).eraseIdx k
  | [], _ => by simp
  | _ :: _, 0 => rfl
  | x :: l, k + 1 => by simp [map_erase f l k]
def lessV (V : CfgV) (k : Nat) : CfgV := { V with ps := V.ps.eraseIdx k }
theorem less_cfg {U V : CfgV} (h : U.cfg = V.cfg) (k : Nat) : (lessV U k).cfg = (lessV V k).cfg := by
  simp only [CfgV.cfg, Cfg.mk.injEq, lessV] at h ⊢
  refine ⟨h.1, ?_, h.2.2⟩
  rw [map_erase, map_erase, h.2.1]
theorem asc_mono : ∀ (ps : List PtV) (a b : Int), a ≤ b → ascP b ps = true → ascP a ps = true
  | [], _, _, _, _ => rfl
  | y :: r, a, b, hab, h => by
    rw [ascP, Bool.and_eq_true, decide_eq_true_eq] at h ⊢
    exact ⟨⟨by omega, h.1.2⟩, h.2⟩
theorem asc_less : ∀ (ps : List PtV) (a : Int) (k : Nat), ascP a ps = true → ascP a (ps.eraseIdx k) = true
  | [], _, _, _ => by simp [ascP]
  | y :: r, a, 0, h => by
    rw [ascP, Bool.and_eq_true, decide_eq_true_eq] at h
    exact asc_mono r a _ (by omega) h.2
  | y :: r, a, k + 1, h => by
    rw [ascP, Bool.and_eq_true, decide_eq_true_eq] at h
    rw [List.eraseIdx_cons_succ, ascP, Bool.and_eq_true, decide_eq_true_eq]
    exact ⟨h.1, asc_less r _ k h.2⟩
theorem asc_uniq {ps : List PtV} {a : Int} (h : ascP a ps = true) {i j : Nat} (hi : i < ps.length) (hj : j < ps.length) (he : ps[i].id.1 = ps[j].id.1) : i = j := by
  have key : ∀ (ps : List PtV) (a : Int), ascP a ps = true → ∀ i j (hi : i < ps.length) (hj : j < ps.length), i < j → ps[i].id.1 < ps[j].id.1 := by
    intro ps
    induction ps with
    | nil => intro a _ i j hi; simp at hi
    | cons y r ih =>
      intro a h i j hi hj hij
      rw [ascP, Bool.and_eq_true, decide_eq_true_eq] at h
      cases j with
      | zero => omega
      | succ j =>
        cases i with
        | zero => exact (asc_gt r _ h.2 (r[j]'(by simpa using hj)) (List.getElem_mem _)).1
        | succ i => exact ih _ h.2 i j (by simpa using hi) (by simpa using hj) (by omega)
  rcases Nat.lt_trichotomy i j with h3 | h3 | h3
  · have := key ps a h i j hi hj h3; omega
  · exact h3
  · have := key ps a h j i hj hi h3; omega
theorem hasP_less {V : CfgV} (h : Good V) {k : Nat} (hk : k < V.ps.length) (p : Int) : hasP (V.ps.eraseIdx k) p = (hasP V.ps p && decide (p ≠ V.ps[k].id.1)) := by
  rw [Bool.eq_iff_iff, Bool.and_eq_true, decide_eq_true_eq]
  unfold hasP
  rw [List.any_eq_true, List.any_eq_true]
  simp only [decide_eq_true_eq]
  constructor
  · rintro ⟨x, hx, rfl⟩
    obtain ⟨i, hi, rfl⟩ := List.mem_iff_getElem.1 hx
    rw [List.getElem_eraseIdx] 
    have hl : (V.ps.eraseIdx k).length = V.ps.length - 1 := List.length_eraseIdx_of_lt hk
    split
    · rename_i hik
      exact ⟨⟨_, List.getElem_mem _, rfl⟩, fun e => by have := asc_uniq h.asc (by omega) hk e; omega⟩
    · rename_i hik
      exact ⟨⟨_, List.getElem_mem _, rfl⟩, fun e => by have := asc_uniq h.asc (by omega) hk e; omega⟩
  · rintro ⟨⟨x, hx, rfl⟩, hne⟩
    refine ⟨x, ?_, rfl⟩
    obtain ⟨i, hi, rfl⟩ := List.mem_iff_getElem.1 hx
    have hik : i ≠ k := fun e => hne (by subst e; rfl)
    exact List.mem_eraseIdx_iff_getElem.2 ⟨i, hi, hik, rfl⟩
def namesW (V : CfgV) (id : Int) : Bool := V.ws.any fun x => decide (x.part.1 = id)
def namesC (V : CfgV) (id : Int) : Bool := V.cs.any fun x => decide (x.src.1 = id) || decide (x.dst.1 = id)
theorem less_errs {V : CfgV} (h : Good V) {k : Nat} (hk : k < V.ps.length) (h2 : 2 ≤ V.ps.length) : errs (lessV V k) = (if namesW V V.ps[k].id.1 then [90] else []) ++ (if namesC V V.ps[k].id.1 then [100] else []) := by
  have hid := h.ids V.ps[k] (List.getElem_mem hk)
  have e1 : windowsBad (lessV V k) = namesW V V.ps[k].id.1 := by
    unfold windowsBad namesW
    show (!mayW V.ws || V.ws.any (winBad (lessV V k))) = _
    rw [h.may, Bool.not_true, Bool.false_or, Bool.eq_iff_iff, List.any_eq_true, List.any_eq_true]
    refine exists_congr fun x => and_congr_right fun hx => ?_
    unfold winBad
    show (decide (x.part.1 ≠ 0) && !hasP (V.ps.eraseIdx k) x.part.1) = true ↔ _
    rw [hasP_less h hk, h.winIs x hx]
    simp only [Bool.and_eq_true, Bool.not_eq_true', Bool.and_eq_false_iff, decide_eq_true_eq, decide_eq_false_iff_not]
    omega
  have e2 : partsBad (lessV V k).ps = false := by
    unfold partsBad
    show (decide ((V.ps.eraseIdx k).length < 1 ∨ 6 < (V.ps.eraseIdx k).length) || !ascP 0 (V.ps.eraseIdx k)) = false
    have hl : (V.ps.eraseIdx k).length = V.ps.length - 1 := List.length_eraseIdx_of_lt hk
    have := h.few
    rw [asc_less _ _ _ h.asc, hl, decide_eq_false (by omega)]; rfl
  have hsub : ∀ x ∈ V.ps.eraseIdx k, x ∈ V.ps := fun x hx => List.mem_of_mem_eraseIdx hx
  have e3 : regionsBad (lessV V k).ps = false := regionsBad_iff.2 fun x hx => h.reg x (hsub x hx)
  have e4 : overlapBad (lessV V k).ps = false := by
    unfold overlapBad
    show decide (regAll (okRegs (V.ps.eraseIdx k)) ≠ 0) = false
    rw [okRegs_eq (fun x hx => (h.reg x (hsub x hx)).1)]
    have ha := h.apart
    unfold regAll at ha ⊢
    rw [if_pos (by rw [List.all_eq_true]; intro r hr; obtain ⟨x, hx, rfl⟩ := List.mem_map.1 hr; exact (h.reg x hx).1)] at ha
    rw [if_pos (by rw [List.all_eq_true]; intro r hr; obtain ⟨x, hx, rfl⟩ := List.mem_map.1 hr; exact (h.reg x (hsub x hx)).1)]
    have hp : ((pairsL (V.ps.map (·.reg))).all fun p => apartR p.1 p.2) = true := by
      by_cases hq : ((pairsL (V.ps.map (·.reg))).all fun p => apartR p.1 p.2) = true
      · exact hq
      · rw [if_neg hq] at ha; exact absurd ha (by decide)
    have hp2 := (pairsL_pairwise apartR _).1 hp
    have hs : ((V.ps.eraseIdx k).map (·.reg)).Sublist (V.ps.map (·.reg)) := (List.eraseIdx_sublist V.ps k).map _
    rw [if_pos ((pairsL_pairwise apartR _).2 (hp2.sublist hs))]
    rfl
  have e5 : channelsBad (lessV V k) = namesC V V.ps[k].id.1 := by
    unfold channelsBad namesC
    show (decide (8 < V.cs.length) || (decide (chErr V.cs ≠ 0) || V.cs.any (chBad (lessV V k)))) = _
    rw [h.chk, decide_eq_false (by have := h.chn; omega), Bool.false_or, decide_eq_false (by decide), Bool.false_or, Bool.eq_iff_iff, List.any_eq_true, List.any_eq_true]
    refine exists_congr fun x => and_congr_right fun hx => ?_
    unfold chBad
    show (!hasP (V.ps.eraseIdx k) x.src.1 || !hasP (V.ps.eraseIdx k) x.dst.1) = true ↔ _
    rw [hasP_less h hk, hasP_less h hk, (h.ends x hx).1, (h.ends x hx).2]
    simp only [Bool.true_and, Bool.or_eq_true, Bool.not_eq_true', decide_eq_true_eq, decide_eq_false_iff_not, Decidable.not_not]
  unfold errs errsTo bads
  rw [e1, e2, e3, e4, e5]
  cases namesW V V.ps[k].id.1 <;> cases namesC V V.ps[k].id.1 <;> rfl
theorem less_errs_at {V : CfgV} (h : Good V) {k : Nat} (hk : k < V.ps.length) (h2 : 2 ≤ V.ps.length) {z : Int} (hz : z = V.ps[k].id.1) : errs (lessV V k) = (if namesW V z then [90] else []) ++ (if namesC V z then [100] else []) := by
  subst hz; exact less_errs h hk h2
theorem ticks_pos {V : CfgV} (h : Good V) (id : Int) : decide ((0 : Int) < (ticksL V.ws id : Int)) = namesW V id := by
  have hm := h.may
  simp only [mayW, Bool.and_eq_true, decide_eq_true_eq] at hm
  unfold ticksL wholeL namesW
  rw [if_pos h.may, Bool.eq_iff_iff, decide_eq_true_eq, List.any_eq_true, show ((0 : Int) < ((V.ws.flatMap repW).countP (fun z => decide (z = id)) : Int) ↔ 0 < (V.ws.flatMap repW).countP (fun z => decide (z = id))) by omega, List.countP_pos_iff]
  simp only [decide_eq_true_eq, List.mem_flatMap]
  constructor
  · rintro ⟨z, ⟨x, hx, hz⟩, rfl⟩
    unfold repW at hz
    exact ⟨x, hx, (List.eq_of_mem_replicate hz).symm⟩
  · rintro ⟨x, hx, rfl⟩
    have hw := List.all_eq_true.1 hm.2.1 x hx
    simp only [winOk, decide_eq_true_eq] at hw
    exact ⟨_, ⟨x, hx, List.mem_replicate.2 ⟨by omega, rfl⟩⟩, rfl⟩
end Go.Proofs.Ytpnbaapjjchlbaa
