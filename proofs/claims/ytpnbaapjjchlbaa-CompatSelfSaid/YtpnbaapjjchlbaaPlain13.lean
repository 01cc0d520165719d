/- Chapter 13, plain: the lists that go over the IDs are the lists that go over the configuration. No condition. -/
import Derived.Test.YtpnbaapjjchlbaaPickC
import Derived.Test.YtpnbaapjjchlbaaOddR
import Derived.Test.YtpnbaapjjchlbaaGood
import Derived.Test.YtpnbaapjjchlbaaLessPlain
import Derived.Test.YtpnbaapjjchlbaaGk
namespace Go.Proofs.Ytpnbaapjjchlbaa
open Go Go.RowKit Go.Cit

theorem sorted_ext : ∀ (a b : List Int), a.Pairwise (· < ·) → b.Pairwise (· < ·) → (∀ x, x ∈ a ↔ x ∈ b) → a = b
  | [], [], _, _, _ => rfl
  | [], y :: b, _, _, h => absurd ((h y).2 (by simp)) (by simp)
  | x :: a, [], _, _, h => absurd ((h x).1 (by simp)) (by simp)
  | x :: a, y :: b, ha, hb, h => by
    rw [List.pairwise_cons] at ha hb
    have e : x = y := by
      rcases List.mem_cons.1 ((h x).1 (by simp)) with h1 | h1
      · exact h1
      · rcases List.mem_cons.1 ((h y).2 (by simp)) with h2 | h2
        · exact h2.symm
        · have := ha.1 y h2; have := hb.1 x h1; omega
    subst e
    rw [sorted_ext a b ha.2 hb.2 (fun z => ?_)]
    constructor
    · intro hz
      rcases List.mem_cons.1 ((h z).1 (List.mem_cons_of_mem _ hz)) with h' | h'
      · have := ha.1 z hz; omega
      · exact h'
    · intro hz
      rcases List.mem_cons.1 ((h z).2 (List.mem_cons_of_mem _ hz)) with h' | h'
      · have := hb.1 z hz; omega
      · exact h'
/-- The IDs from 1 to n that q takes. -/
def pickR (n : Nat) (q : Int → Bool) : List Int := ((List.range n).filter (fun j => q ((j + 1 : Nat) : Int))).map (fun j => ((j + 1 : Nat) : Int))
theorem pickR_succ (n : Nat) (q : Int → Bool) : pickR (n + 1) q = pickR n q ++ (if q ((n + 1 : Nat) : Int) then [((n + 1 : Nat) : Int)] else []) := by
  unfold pickR
  rw [List.range_succ, List.filter_append, List.map_append]
  cases h : q ((n + 1 : Nat) : Int) <;> simp at h <;> simp [h]
theorem pickR_len (n : Nat) (q : Int → Bool) : (pickR n q).length ≤ n := by
  unfold pickR
  rw [List.length_map]
  exact Nat.le_trans (List.length_filter_le _ _) (by simp)
theorem pickR_mem (n : Nat) (q : Int → Bool) (x : Int) : x ∈ pickR n q ↔ (1 ≤ x ∧ x ≤ n) ∧ q x = true := by
  unfold pickR
  rw [List.mem_map]
  constructor
  · rintro ⟨j, hj, rfl⟩
    rw [List.mem_filter, List.mem_range] at hj
    exact ⟨by omega, hj.2⟩
  · rintro ⟨⟨h1, h2⟩, h3⟩
    obtain ⟨k, rfl⟩ : ∃ k : Nat, x = ((k + 1 : Nat) : Int) := ⟨(x - 1).toNat, by omega⟩
    exact ⟨k, by rw [List.mem_filter, List.mem_range]; exact ⟨by omega, h3⟩, rfl⟩
theorem pickR_asc (n : Nat) (q : Int → Bool) : (pickR n q).Pairwise (· < ·) := by
  unfold pickR
  rw [List.pairwise_map]
  refine List.Pairwise.imp ?_ (List.Pairwise.sublist List.filter_sublist (List.pairwise_lt_range (n := n)))
  intro a b h; omega
theorem pickR_none (n : Nat) (q : Int → Bool) (h : ∀ x, q x = false) : pickR n q = [] := by
  rw [List.eq_nil_iff_forall_not_mem]
  intro x hx
  rw [pickR_mem, h x] at hx
  simp at hx
theorem pickR_congr (n : Nat) {p q : Int → Bool} (h : ∀ x, p x = q x) : pickR n p = pickR n q := by rw [show p = q from funext h]
theorem asc_map : ∀ (ps : List PtV) (a : Int), ascP a ps = true → (ps.map (·.id.1)).Pairwise (· < ·)
  | [], _, _ => List.Pairwise.nil
  | x :: r, a, h => by
    rw [ascP, Bool.and_eq_true, decide_eq_true_eq] at h
    rw [List.map_cons, List.pairwise_cons]
    refine ⟨fun y hy => ?_, asc_map r _ h.2⟩
    obtain ⟨z, hz, rfl⟩ := List.mem_map.1 hy
    exact (asc_gt r _ h.2 z hz).1
theorem pickL_asc {ps : List PtV} {a : Int} (h : ascP a ps = true) (p : PtV → Bool) : (pickL p ps).Pairwise (· < ·) :=
  List.Pairwise.sublist (List.Sublist.map _ List.filter_sublist) (asc_map ps a h)
theorem pickL_mem (p : PtV → Bool) (ps : List PtV) (x : Int) : x ∈ pickL p ps ↔ ∃ y ∈ ps, p y = true ∧ y.id.1 = x := by
  unfold pickL
  rw [List.mem_map]
  constructor
  · rintro ⟨y, hy, he⟩; rw [List.mem_filter] at hy; exact ⟨y, hy.1, hy.2, he⟩
  · rintro ⟨y, hy, hp, he⟩; exact ⟨y, by rw [List.mem_filter]; exact ⟨hy, hp⟩, he⟩
theorem pickC_asc {l : List Ch} (h : l.Pairwise (fun a b => a.id.1 < b.id.1)) (p : Ch → Bool) : (pickC p l).Pairwise (· < ·) := by
  unfold pickC
  rw [List.pairwise_map]
  exact List.Pairwise.sublist List.filter_sublist h
theorem pickC_mem (p : Ch → Bool) (l : List Ch) (x : Int) : x ∈ pickC p l ↔ ∃ y ∈ l, p y = true ∧ y.id.1 = x := by
  unfold pickC
  rw [List.mem_map]
  constructor
  · rintro ⟨y, hy, he⟩; rw [List.mem_filter] at hy; exact ⟨y, hy.1, hy.2, he⟩
  · rintro ⟨y, hy, hp, he⟩; exact ⟨y, by rw [List.mem_filter]; exact ⟨hy, hp⟩, he⟩
theorem hasP_iff (ps : List PtV) (x : Int) : hasP ps x = true ↔ ∃ y ∈ ps, y.id.1 = x := by
  unfold hasP; rw [List.any_eq_true]; simp
theorem hasC_iff (cs : List Ch) (x : Int) : hasC cs x = true ↔ ∃ y ∈ cs, y.id.1 = x := by
  unfold hasC; rw [List.any_eq_true]; simp
theorem getC_at : ∀ {l : List Ch}, l.Pairwise (fun a b => a.id.1 < b.id.1) → ∀ x ∈ l, getC l x.id.1 = x
  | [], _, x, hx => by simp at hx
  | y :: r, h, x, hx => by
    rw [List.pairwise_cons] at h
    unfold getC
    rcases List.mem_cons.1 hx with rfl | hx
    · simp
    · rw [List.find?_cons_of_neg]
      · exact getC_at h.2 x hx
      · have := h.1 x hx; simp; omega
theorem may_good {V W : CfgV} : mayK V W = true ↔ Good V ∧ Good W := by
  unfold mayK fitsV
  rw [Bool.and_eq_true, decide_eq_true_eq, decide_eq_true_eq, good_iff, good_iff]
theorem surv_may {V W : CfgV} (h : mayK V W = false) (x : Int) : survK V W x = false := by unfold survK; rw [h, Bool.and_false]
/-- What the document's Parts answers. -/
def rpartK (V W : CfgV) (b : Bool) (x : Int) : Bool := hasP V.ps x && (survK V W x != b)
def rpartsK (V W : CfgV) (b : Bool) : List Int := if mayK V W then pickR 6 (rpartK V W b) else []
theorem rparts_of {V : CfgV} (h : Good V) (q : Int → Bool) : pickL (fun x => q x.id.1) V.ps = pickR 6 (fun x => hasP V.ps x && q x) := by
  refine sorted_ext _ _ (pickL_asc h.asc _) (pickR_asc _ _) fun x => ?_
  rw [pickL_mem, pickR_mem, Bool.and_eq_true, hasP_iff]
  constructor
  · rintro ⟨y, hy, hp, rfl⟩; exact ⟨h.ids y hy, ⟨y, hy, rfl⟩, hp⟩
  · rintro ⟨_, ⟨y, hy, rfl⟩, hp⟩; exact ⟨y, hy, hp, rfl⟩
theorem parts_is (V W : CfgV) : partsK V W = rpartsK V W false := by
  unfold partsK rpartsK
  cases h : mayK V W with
  | false => rfl
  | true => rw [if_pos rfl, if_pos rfl, rparts_of (may_good.1 h).1]; exact pickR_congr _ fun x => by unfold rpartK; cases survK V W x <;> rfl
theorem leav_is (V W : CfgV) : leavK V W = rpartsK V W true := by
  unfold leavK rpartsK
  cases h : mayK V W with
  | false => rfl
  | true => rw [if_pos rfl, if_pos rfl, rparts_of (may_good.1 h).1 (fun x => !survK V W x)]; exact pickR_congr _ fun x => by unfold rpartK; cases survK V W x <;> rfl
/-- What the document's Channel answers. -/
def rchanK (V W : CfgV) (x : Int) : Bool := (((hasC V.cs x && hasC W.cs x) && decide (getC V.cs x = getC W.cs x)) && survK V W (getC V.cs x).src.1) && survK V W (getC V.cs x).dst.1
theorem chans_is (V W : CfgV) : chansK V W = pickR 8 (rchanK V W) := by
  unfold chansK
  cases h : mayK V W with
  | false =>
    rw [pickR_none _ _ fun x => by unfold rchanK; rw [surv_may h, surv_may h, Bool.and_false]]; rfl
  | true =>
    have hV := (may_good.1 h).1
    have hc := (chErr_zero V.cs).1 hV.chk
    rw [if_pos rfl]
    refine sorted_ext _ _ (pickC_asc hc.2 _) (pickR_asc _ _) fun x => ?_
    rw [pickC_mem, pickR_mem]
    constructor
    · rintro ⟨y, hy, hp, rfl⟩
      have hm := hc.1 y hy
      have e := getC_at hc.2 y hy
      simp only [mayC, decide_eq_true_eq] at hm
      refine ⟨by omega, ?_⟩
      unfold rchanK
      rw [e, (hasC_iff _ _).2 ⟨y, hy, rfl⟩, Bool.true_and]
      exact hp
    · rintro ⟨_, hp⟩
      unfold rchanK at hp
      have hh : hasC V.cs x = true := by
        cases hx : hasC V.cs x with
        | true => rfl
        | false => rw [hx] at hp; simp at hp
      obtain ⟨y, hy, rfl⟩ := (hasC_iff _ _).1 hh
      rw [getC_at hc.2 y hy, hh, Bool.true_and] at hp
      exact ⟨y, hy, hp, rfl⟩
theorem both_has {ps qs : List PtV} {x : Int} (h : bothK ps qs x = true) : hasP ps x = true ∧ hasP qs x = true := by
  unfold bothK at h
  simp only [Bool.and_eq_true] at h
  exact h.1.1
theorem check_is (V W : CfgV) : checkK V W = rcheckK V W := by
  unfold checkK rcheckK
  cases h : mayK V W with
  | false => rfl
  | true =>
    have hW := (may_good.1 h).2
    rw [if_pos rfl, if_pos rfl]
    have e : W.ps.any (oddK V W) = (List.range 6).any (oddR V W) := by
      rw [Bool.eq_iff_iff, List.any_eq_true, List.any_eq_true]
      constructor
      · rintro ⟨x, hx, hp⟩
        have := hW.ids x hx
        refine ⟨(x.id.1 - 1).toNat, List.mem_range.2 (by omega), ?_⟩
        unfold oddR
        rw [show (((x.id.1 - 1).toNat + 1 : Nat) : Int) = x.id.1 by omega]
        exact hp
      · rintro ⟨j, hj, hp⟩
        unfold oddR at hp
        have hb : bothK V.ps W.ps ((j + 1 : Nat) : Int) = true := by
          cases hb : bothK V.ps W.ps ((j + 1 : Nat) : Int) with
          | true => rfl
          | false => rw [hb] at hp; simp at hp
        obtain ⟨y, hy, he⟩ := (hasP_iff _ _).1 (both_has hb).2
        exact ⟨y, hy, by unfold oddK; rw [he]; exact hp⟩
    rw [e]
/-! ### Both ways. -/
theorem both_turn (ps qs : List PtV) (x : Int) : bothK ps qs x = bothK qs ps x := by
  unfold bothK
  cases hasP ps x <;> cases hasP qs x <;> cases (getP ps x).keep <;> cases (getP qs x).keep <;> rfl
theorem same_turn (ps qs : List PtV) (x : Int) : sameK ps qs x = sameK qs ps x := by
  unfold sameK
  rw [both_turn, show decide ((getP ps x).reg.size.1 = (getP qs x).reg.size.1) = decide ((getP qs x).reg.size.1 = (getP ps x).reg.size.1) from decide_eq_decide.2 eq_comm]
theorem may_turn (V W : CfgV) : mayK V W = mayK W V := Bool.and_comm _ _
theorem surv_turn (V W : CfgV) (x : Int) : survK V W x = survK W V x := by unfold survK; rw [same_turn, may_turn]
theorem check_turn (V W : CfgV) : checkK V W = checkK W V := by
  rw [check_is, check_is]
  unfold rcheckK
  rw [may_turn, show oddR V W = oddR W V from funext fun j => by unfold oddR; rw [both_turn, same_turn]]
theorem parts_turn (V W : CfgV) : partsK V W = partsK W V := by
  rw [parts_is, parts_is]
  unfold rpartsK
  rw [may_turn, pickR_congr 6 (p := rpartK V W false) (q := rpartK W V false)]
  intro x
  unfold rpartK
  rw [surv_turn V W x]
  cases h : survK W V x with
  | false => simp
  | true =>
    unfold survK sameK at h
    simp only [Bool.and_eq_true] at h
    have := both_has h.1.1
    rw [this.1, this.2]
theorem chans_turn (V W : CfgV) : chansK V W = chansK W V := by
  rw [chans_is, chans_is]
  refine pickR_congr _ fun x => ?_
  unfold rchanK
  rw [surv_turn V W, surv_turn V W]
  by_cases h : getC V.cs x = getC W.cs x
  · rw [h]; cases hasC V.cs x <;> cases hasC W.cs x <;> rfl
  · rw [decide_eq_false h, decide_eq_false (fun e => h e.symm)]; simp
/-! ### Itself. -/
theorem part_at {V : CfgV} (h : Good V) (x : PtV) (hx : x ∈ V.ps) : getP V.ps x.id.1 = x.pt := by
  obtain ⟨k, hk, rfl⟩ := List.getElem_of_mem hx
  exact h.part k hk
theorem both_self {V : CfgV} (h : Good V) (x : PtV) (hx : x ∈ V.ps) : bothK V.ps V.ps x.id.1 = x.keep := by
  unfold bothK
  rw [(hasP_iff _ _).2 ⟨x, hx, rfl⟩, part_at h x hx]
  show (true && x.keep && x.keep) = x.keep
  cases x.keep <;> rfl
theorem surv_self {V : CfgV} (h : Good V) (x : PtV) (hx : x ∈ V.ps) : survK V V x.id.1 = x.keep := by
  unfold survK sameK
  rw [both_self h x hx, may_good.2 ⟨h, h⟩]; simp
theorem check_self {V : CfgV} (h : Good V) : checkK V V = 0 := by
  unfold checkK
  rw [may_good.2 ⟨h, h⟩, if_pos rfl, if_neg]
  rw [Bool.not_eq_true, List.any_eq_false]
  intro x _
  unfold oddK sameK
  simp
theorem pick_congr {p q : PtV → Bool} {l : List PtV} (h : ∀ x ∈ l, p x = q x) : pickL p l = pickL q l := by unfold pickL; rw [List.filter_congr h]
theorem pickc_congr {p q : Ch → Bool} {l : List Ch} (h : ∀ x ∈ l, p x = q x) : pickC p l = pickC q l := by unfold pickC; rw [List.filter_congr h]
theorem parts_self {V : CfgV} (h : Good V) : partsK V V = pickL (fun x => x.keep) V.ps := by
  unfold partsK
  rw [may_good.2 ⟨h, h⟩, if_pos rfl]
  exact pick_congr fun x hx => surv_self h x hx
theorem leav_self {V : CfgV} (h : Good V) : leavK V V = pickL (fun x => !x.keep) V.ps := by
  unfold leavK
  rw [may_good.2 ⟨h, h⟩, if_pos rfl]
  exact pick_congr fun x hx => by rw [surv_self h x hx]
theorem surv_id {V : CfgV} (h : Good V) {id : Int} (hi : hasP V.ps id = true) : survK V V id = (getP V.ps id).keep := by
  obtain ⟨y, hy, rfl⟩ := (hasP_iff _ _).1 hi
  rw [surv_self h y hy, part_at h y hy]; rfl
theorem chans_self {V : CfgV} (h : Good V) : chansK V V = pickC (fun c => (getP V.ps c.src.1).keep && (getP V.ps c.dst.1).keep) V.cs := by
  unfold chansK
  rw [may_good.2 ⟨h, h⟩, if_pos rfl]
  have hc := (chErr_zero V.cs).1 h.chk
  refine pickc_congr fun x hx => ?_
  unfold chanK
  rw [(hasC_iff _ _).2 ⟨x, hx, rfl⟩, getC_at hc.2 x hx, surv_id h (h.ends x hx).1, surv_id h (h.ends x hx).2]
  simp
/-! ### Each survives, or leaves. -/
theorem split_len {V W : CfgV} (h : mayK V W = true) : (partsK V W).length + (leavK V W).length = V.ps.length := by
  unfold partsK leavK
  rw [h, if_pos rfl, if_pos rfl]
  unfold pickL
  rw [List.length_map, List.length_map]
  generalize V.ps = l
  induction l with
  | nil => rfl
  | cons y l ih =>
    rw [List.filter_cons, List.filter_cons]
    cases survK V W y.id.1 <;> simp <;> omega
theorem split_surv {V W : CfgV} (h : mayK V W = true) (x : PtV) (hx : x ∈ V.ps) : survK V W x.id.1 = (((hasP W.ps x.id.1 && (getP W.ps x.id.1).keep) && x.keep) && decide ((getP W.ps x.id.1).reg.size.1 = x.reg.size.1)) := by
  unfold survK sameK bothK
  rw [h, (hasP_iff _ _).2 ⟨x, hx, rfl⟩, part_at (may_good.1 h).1 x hx, show decide ((PtV.pt x).reg.size.1 = (getP W.ps x.id.1).reg.size.1) = decide ((getP W.ps x.id.1).reg.size.1 = x.reg.size.1) from decide_eq_decide.2 eq_comm, show (PtV.pt x).keep = x.keep from rfl]
  cases hasP W.ps x.id.1 <;> cases x.keep <;> cases (getP W.ps x.id.1).keep <;> simp
theorem split_chan {V W : CfgV} (x : Int) (hx : x ∈ chansK V W) : rchanK V W x = true := by
  rw [chans_is, pickR_mem] at hx
  exact hx.2
end Go.Proofs.Ytpnbaapjjchlbaa
