/- What a configuration is in which nothing is wrong (plain). No condition. -/
import Derived.Test.YtpnbaapjjchlbaaGp
import Derived.Test.YtpnbaapjjchlbaaCan
namespace Go.Proofs.Ytpnbaapjjchlbaa
open Go Go.RowKit Go.Cit

/-- Nothing is wrong. -/
structure Good (V : CfgV) : Prop where
  may : mayW V.ws = true
  few : 1 ≤ V.ps.length ∧ V.ps.length ≤ 6
  asc : ascP 0 V.ps = true
  reg : ∀ x ∈ V.ps, mayR x.reg = true ∧ (x.img.length : Int) ≤ x.reg.size.1
  apart : regAll (V.ps.map (·.reg)) = 0
  win : ∀ x ∈ V.ws, x.part.1 = 0 ∨ hasP V.ps x.part.1 = true
  chn : V.cs.length ≤ 8
  chk : chErr V.cs = 0
  ends : ∀ x ∈ V.cs, hasP V.ps x.src.1 = true ∧ hasP V.ps x.dst.1 = true
theorem errs_nil {V : CfgV} : errs V = [] ↔ windowsBad V = false ∧ partsBad V.ps = false ∧ regionsBad V.ps = false ∧ overlapBad V.ps = false ∧ channelsBad V = false := by
  unfold errs errsTo bads
  cases windowsBad V <;> cases partsBad V.ps <;> cases regionsBad V.ps <;> cases overlapBad V.ps <;> cases channelsBad V <;> simp
theorem okRegs_eq {ps : List PtV} (h : ∀ x ∈ ps, mayR x.reg = true) : okRegs ps = ps.map (·.reg) := by
  unfold okRegs
  rw [List.filter_eq_self.2 h]
theorem regionsBad_iff {ps : List PtV} : regionsBad ps = false ↔ ∀ x ∈ ps, mayR x.reg = true ∧ (x.img.length : Int) ≤ x.reg.size.1 := by
  unfold regionsBad
  rw [List.any_eq_false]
  refine forall_congr' fun x => forall_congr' fun _ => ?_
  unfold regBad
  cases mayR x.reg <;> simp
theorem good_iff {V : CfgV} : errs V = [] ↔ Good V := by
  rw [errs_nil]
  have e1 : windowsBad V = false ↔ mayW V.ws = true ∧ ∀ x ∈ V.ws, x.part.1 = 0 ∨ hasP V.ps x.part.1 = true := by
    unfold windowsBad
    rw [Bool.or_eq_false_iff, List.any_eq_false]
    refine and_congr (by simp) (forall_congr' fun x => forall_congr' fun _ => ?_)
    unfold winBad
    cases hasP V.ps x.part.1 <;> simp
  have e2 : partsBad V.ps = false ↔ (1 ≤ V.ps.length ∧ V.ps.length ≤ 6) ∧ ascP 0 V.ps = true := by
    unfold partsBad
    rw [Bool.or_eq_false_iff]
    refine and_congr ?_ (by simp)
    rw [decide_eq_false_iff_not]; omega
  have e5 : channelsBad V = false ↔ V.cs.length ≤ 8 ∧ chErr V.cs = 0 ∧ ∀ x ∈ V.cs, hasP V.ps x.src.1 = true ∧ hasP V.ps x.dst.1 = true := by
    unfold channelsBad
    rw [Bool.or_eq_false_iff, Bool.or_eq_false_iff, List.any_eq_false]
    refine and_congr (by simp) (and_congr (by simp) (forall_congr' fun x => forall_congr' fun _ => ?_))
    unfold chBad
    cases hasP V.ps x.src.1 <;> cases hasP V.ps x.dst.1 <;> simp
  rw [e1, e2, e5, regionsBad_iff]
  constructor
  · rintro ⟨⟨a, b⟩, ⟨c, d⟩, e, f, g, h, i⟩
    refine ⟨a, c, d, e, ?_, b, g, h, i⟩
    unfold overlapBad at f
    rw [okRegs_eq (fun x hx => (e x hx).1)] at f
    simpa using f
  · rintro ⟨a, c, d, e, f, b, g, h, i⟩
    refine ⟨⟨a, b⟩, ⟨c, d⟩, e, ?_, g, h, i⟩
    unfold overlapBad
    rw [okRegs_eq (fun x hx => (e x hx).1)]
    simpa using f
theorem asc_gt : ∀ (ps : List PtV) (last : Int), ascP last ps = true → ∀ x ∈ ps, last < x.id.1 ∧ x.id.1 ≤ 6
  | [], _, _, x, hx => by simp at hx
  | y :: r, last, h, x, hx => by
    rw [ascP, Bool.and_eq_true, decide_eq_true_eq] at h
    rcases List.mem_cons.1 hx with rfl | hx
    · exact h.1
    · have := asc_gt r _ h.2 x hx; omega
theorem Good.ids {V : CfgV} (h : Good V) : ∀ x ∈ V.ps, 1 ≤ x.id.1 ∧ x.id.1 ≤ 6 := fun x hx => by
  have := asc_gt _ _ h.asc x hx; omega
theorem asc_find : ∀ (ps : List PtV) (last : Int), ascP last ps = true → ∀ k (hk : k < ps.length), ps.find? (fun x => decide (x.id.1 = ps[k].id.1)) = some ps[k]
  | [], _, _, k, hk => by simp at hk
  | y :: r, last, h, k, hk => by
    rw [ascP, Bool.and_eq_true, decide_eq_true_eq] at h
    cases k with
    | zero => simp
    | succ k =>
      have hk' : k < r.length := by simpa using hk
      have := asc_gt r _ h.2 r[k] (List.getElem_mem hk')
      rw [List.find?_cons_of_neg]
      · simpa using asc_find r _ h.2 k hk'
      · simp; omega
theorem Good.part {V : CfgV} (h : Good V) (k : Nat) (hk : k < V.ps.length) : getP V.ps V.ps[k].id.1 = V.ps[k].pt := by
  unfold getP; rw [asc_find _ _ h.asc k hk]; rfl
theorem hasP_mem {ps : List PtV} (k : Nat) (hk : k < ps.length) : hasP ps ps[k].id.1 = true := by
  unfold hasP; rw [List.any_eq_true]; exact ⟨ps[k], List.getElem_mem hk, by simp⟩
theorem Good.winIs {V : CfgV} (h : Good V) : ∀ x ∈ V.ws, hasP V.ps x.part.1 = decide (x.part.1 ≠ 0) := fun x hx => by
  rcases h.win x hx with h0 | h0
  · rw [h0]
    have : hasP V.ps 0 = false := by
      unfold hasP; rw [List.any_eq_false]
      intro y hy; have := h.ids y hy; simp; omega
    rw [this]; simp
  · rw [h0]
    unfold hasP at h0
    rw [List.any_eq_true] at h0
    obtain ⟨y, hy, he⟩ := h0
    have := h.ids y hy
    simp at he ⊢
    omega
theorem mayR_size {r : Reg} (h : mayR r = true) : 16 ≤ r.size.1 ∧ r.size.1 ≤ 512 := by
  simp only [mayR, Bool.and_eq_true, decide_eq_true_eq] at h
  omega
theorem Good.can {V : CfgV} (h : Good V) : canV V = true := by
  have hm := h.may
  simp only [mayW, Bool.and_eq_true, decide_eq_true_eq] at hm
  unfold canV
  simp only [Bool.and_eq_true, decide_eq_true_eq, Bool.not_eq_true', List.any_eq_false]
  refine ⟨⟨⟨hm.1.2, h.few.2⟩, h.chn⟩, fun x hx => ?_⟩
  have h1 := h.reg x hx
  have := mayR_size h1.1
  simp [longP]; omega
end Go.Proofs.Ytpnbaapjjchlbaa
