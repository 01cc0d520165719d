/- Texts of the proof, one behind the other: Overlap, Plain12, TyG, ErrsCfg, RefChk. No condition but those that each names. -/
import Derived.Test.YtpnbaapjjchlbaaVChk
import Derived.Test.YtpnbaapjjchlbaaGe
/- Overlapping regions, told by places: plain law. -/
namespace Go.Proofs.Ytpnbaapjjchlbaa
open Go Go.RowKit Go.Cit

theorem pairsL_pairwise (p : Reg → Reg → Bool) : ∀ l : List Reg, (pairsL l).all (fun x => p x.1 x.2) = true ↔ l.Pairwise (fun a b => p a b = true)
  | [] => by simp [pairsL]
  | a :: r => by
    rw [pairsL, List.all_append, Bool.and_eq_true, pairsL_pairwise p r, List.pairwise_cons]
    simp [List.all_eq_true]
theorem apartR_comm (a b : Reg) : apartR a b = apartR b a := by
  unfold apartR
  cases mayR a <;> cases mayR b <;> simp [Bool.or_comm]
/-- The regions at two places may be, and are not apart. -/
def badAt (ps : List PtV) (i k : Nat) : Bool := match ps[i]?, ps[k]? with
  | some x, some y => mayR x.reg && (mayR y.reg && !apartR x.reg y.reg)
  | _, _ => false
def badRow (ps : List PtV) (i k : Nat) : Bool := (List.range k).any fun j => badAt ps i j
def badTo (ps : List PtV) (i : Nat) : Bool := (List.range i).any fun j => badRow ps j j
theorem badRow_succ (ps : List PtV) (i k : Nat) : badRow ps i (k + 1) = (badRow ps i k || badAt ps i k) := by
  unfold badRow; rw [List.range_succ, List.any_append]; simp
theorem badTo_succ (ps : List PtV) (i : Nat) : badTo ps (i + 1) = (badTo ps i || badRow ps i i) := by
  unfold badTo; rw [List.range_succ, List.any_append]; simp
theorem okRegs_all (ps : List PtV) : (okRegs ps).all mayR = true := by
  rw [List.all_eq_true]
  intro r hr
  unfold okRegs at hr
  obtain ⟨x, hx, rfl⟩ := List.mem_map.1 hr
  simpa using (List.mem_filter.1 hx).2
theorem pairwise_bad (ps : List PtV) : (okRegs ps).Pairwise (fun a b => apartR a b = true) ↔ badTo ps ps.length = false := by
  unfold okRegs
  rw [List.pairwise_map, List.pairwise_filter, List.pairwise_iff_getElem, badTo, List.any_eq_false]
  constructor
  · intro h j hj hb
    rw [badRow, List.any_eq_true] at hb
    obtain ⟨i, hi, hb⟩ := hb
    have hi := List.mem_range.1 hi
    have hj := List.mem_range.1 hj
    simp only [badAt, List.getElem?_eq_getElem hj, List.getElem?_eq_getElem (show i < ps.length by omega), Bool.and_eq_true, Bool.not_eq_true'] at hb
    have := h i j (by omega) hj hi hb.2.1 hb.1
    rw [apartR_comm, hb.2.2] at this
    exact absurd this (by decide)
  · intro h i j hi hj hij hm1 hm2
    have h2 := h j (List.mem_range.2 hj)
    rw [badRow, List.any_eq_true] at h2
    have h3 : ¬ badAt ps j i = true := fun e => h2 ⟨i, List.mem_range.2 hij, e⟩
    simp only [badAt, List.getElem?_eq_getElem hi, List.getElem?_eq_getElem hj, hm1, hm2, Bool.true_and, Bool.not_eq_true'] at h3
    rw [apartR_comm]
    simpa using h3
theorem badTo_eq (ps : List PtV) : badTo ps ps.length = overlapBad ps := by
  have h1 : overlapBad ps = !(pairsL (okRegs ps)).all (fun x => apartR x.1 x.2) := by
    unfold overlapBad regAll
    rw [okRegs_all, if_pos rfl]
    cases (pairsL (okRegs ps)).all (fun x => apartR x.1 x.2) <;> simp
  have key : (pairsL (okRegs ps)).all (fun x => apartR x.1 x.2) = true ↔ badTo ps ps.length = false := by
    rw [pairsL_pairwise]
    exact pairwise_bad ps
  rw [h1]
  cases hx : (pairsL (okRegs ps)).all (fun x => apartR x.1 x.2) with
  | true => rw [key.1 hx]; rfl
  | false =>
    cases hb : badTo ps ps.length with
    | true => rfl
    | false => rw [key.2 hb] at hx; exact absurd hx (by decide)
end Go.Proofs.Ytpnbaapjjchlbaa

/- IDs of partitions, told by places; any of a beginning: plain laws. -/
namespace Go.Proofs.Ytpnbaapjjchlbaa
open Go Go.RowKit Go.Cit

theorem any_take {α : Type} (p : α → Bool) (l : List α) (k : Nat) (h : k < l.length) : (l.take (k + 1)).any p = ((l.take k).any p || p l[k]) := by
  rw [List.take_succ_eq_append_getElem h, List.any_append]; simp
/-- A partition's ID, by its place. -/
def pidAt (ps : List PtV) (i : Nat) : Int := (ps[i]?.map (·.id.1)).getD 0
def okAt (ps : List PtV) (i : Nat) : Bool := decide (1 ≤ pidAt ps i ∧ pidAt ps i ≤ 6 ∧ (i = 0 ∨ pidAt ps (i - 1) < pidAt ps i))
def okTo (ps : List PtV) (k : Nat) : Bool := (List.range k).all (okAt ps)
theorem okTo_succ (ps : List PtV) (k : Nat) : okTo ps (k + 1) = (okTo ps k && okAt ps k) := by
  unfold okTo; rw [List.range_succ, List.all_append]; simp
theorem pidAt_get (ps : List PtV) (k : Nat) (h : k < ps.length) : pidAt ps k = ps[k].id.1 := by simp [pidAt, h]
theorem ascP_iff : ∀ (ps : List PtV) (last : Int), ascP last ps = true ↔ ∀ i, i < ps.length → (if i = 0 then last else pidAt ps (i - 1)) < pidAt ps i ∧ pidAt ps i ≤ 6
  | [], last => by simp [ascP]
  | x :: r, last => by
    rw [ascP, Bool.and_eq_true, decide_eq_true_iff, ascP_iff r]
    constructor
    · rintro ⟨h1, h2⟩ i hi
      cases i with
      | zero => simpa [pidAt] using h1
      | succ j =>
        have := h2 j (by simpa using hi)
        cases j with
        | zero => simpa [pidAt] using this
        | succ j => simpa [pidAt] using this
    · intro h
      refine ⟨by simpa [pidAt] using h 0 (by simp), fun i hi => ?_⟩
      have := h (i + 1) (by simpa using hi)
      cases i with
      | zero => simpa [pidAt] using this
      | succ j => simpa [pidAt] using this
theorem okTo_eq (ps : List PtV) : okTo ps ps.length = ascP 0 ps := by
  rw [Bool.eq_iff_iff, ascP_iff]
  unfold okTo
  rw [List.all_eq_true]
  constructor
  · intro h i hi
    have := h i (List.mem_range.2 hi)
    simp only [okAt, decide_eq_true_eq] at this
    refine ⟨?_, this.2.1⟩
    split
    · omega
    · rcases this.2.2 with h0 | h0
      · omega
      · exact h0
  · intro h
    have hpos : ∀ i, i < ps.length → 1 ≤ pidAt ps i := by
      intro i
      induction i with
      | zero => intro hi; have := (h 0 hi).1; simp at this; omega
      | succ j ih =>
        intro hi
        have h1 := ih (by omega)
        have h2 := (h (j + 1) hi).1
        simp at h2
        omega
    intro i hi
    have hi := List.mem_range.1 hi
    have h1 := h i hi
    simp only [okAt, decide_eq_true_eq]
    refine ⟨hpos i hi, h1.2, ?_⟩
    by_cases h0 : i = 0
    · exact .inl h0
    · right; simpa [h0] using h1.1
end Go.Proofs.Ytpnbaapjjchlbaa

/- A region that draws its order, told slot by slot (no frame is written out), guards that are false among its operations; what lay there stays. No condition on the program. -/
namespace Go.Cit
open Go Go.RowKit

section
variable {P : Program} {ops : Array Oper} {Q : Exit → Act → World → Prop}
/-- What is known at one operation. -/
structure KnownG (ops : Array Oper) (T : Nat → Value → World → Prop) (a0 : Act) (w0 : World) (o : Oper) (a : Act) (w : World) : Prop where
  below : Below w0.heap.size w0 w
  slot : ∀ d, waitsB ops o d = true → T d (a.eval (.tmp d)) w
  old : ∀ d, outB ops d = true → a.eval (.tmp d) = a0.eval (.tmp d)
  lit : ∀ v, a.eval (.const v) = v
  fn : ∀ f, a.eval (.func f) = .func (.func f) #[] #[]
/-- The guard's operation left 'not'. -/
theorem unwanted_by {o : Oper} {a : Act} (d : Nat) (b : Bool) (h : guardB ops o d b = true) (hv : a.eval (.tmp d) = .bool !b) : Region.wanted o (yielded ops a.tmps) = false := by
  unfold Region.wanted
  unfold guardB at h
  split at h
  · exact absurd h (by decide)
  · rename_i j c hg
    rw [hg]
    simp only [Bool.and_eq_true, decide_eq_true_eq] at h
    obtain ⟨rfl, h⟩ := h
    split at h
    · rename_i p hp
      simp only [decide_eq_true_eq] at h
      have hd : d < a.tmps.size := by
        rcases Nat.lt_or_ge d a.tmps.size with h' | h'
        · exact h'
        · simp [Act.eval, Array.getD, Nat.not_lt.2 h', undef] at hv
      have e : a.tmps[d]? = some (.bool !c) := by
        rw [Array.getElem?_eq_getElem hd, ← hv]
        simp [Act.eval, Array.getD, hd]
      cases c <;> simp [yielded, hp, h, e]
    · exact absurd h (by decide)

theorem wp_region_tyg {id : Nat} {a0 : Act} {w : World} (T : Nat → Value → World → Prop)
    (hm : P.follows .mixedOrders = true) (hs : shapeB ops a0.tmps.size = true)
    (hT : ∀ d v w1 w2, Below w1.heap.size w1 w2 → T d v w1 → T d v w2)
    (hop : OpsAll (fun _ o => ∀ a wx, KnownG ops T a0 w o a wx → (Wanted ops o a ∧ GivesP P (fun v w' => Below wx.heap.size wx w' ∧ tyP T o v w') ((execOp a.eval o).run P wx)) ∨ (Region.wanted o (yielded ops a.tmps) = false ∧ tyP T o undef wx)) ops.toList 0)
    (hend : ∀ a wx, Below w.heap.size w wx → SameBut ops a0 a → (∀ d, outB ops d = false → T d (a.eval (.tmp d)) wx) → Q .normal a wx) :
    (Code.region id ops true).wp P Q a0 w := by
  refine wp_region_typed (fun wx => Below w.heap.size w wx) (fun w1 w2 => Below w1.heap.size w1 w2) (fun i v wx => ∀ o, ops[i]? = some o → tyP T o v wx) hm hs
    (fun w1 w2 h1 h2 => h1.trans (h2.mono h1.size)) (fun i v w1 w2 _ hb h o ho => ?_) ⟨rfl, rfl, rfl, Nat.le_refl _, fun _ _ => rfl⟩ ?_ ?_
  · have := h o ho
    rcases hd : o.dst with _ | d
    · exact tyP_none hd _ _
    · rw [tyP_some hd] at this ⊢
      exact hT _ _ _ _ hb this
  · intro i o a wx ho hc hsame hdep o' ho'
    obtain rfl : o = o' := by rw [ho] at ho'; exact Option.some.inj ho'
    have hk : KnownG ops T a0 w o a wx := by
      refine ⟨hc, fun d hd => ?_, fun d hd => ?_, fun _ => rfl, fun _ => rfl⟩
      · unfold waitsB at hd
        rw [Array.any_eq_true] at hd
        obtain ⟨k, hk, he⟩ := hd
        rw [Bool.and_eq_true] at he
        obtain ⟨hb, hp⟩ := he
        split at hp
        · rename_i p hpp
          simp only [decide_eq_true_eq] at hp
          have := hdep _ (Array.getElem_mem hk) hb p d hpp hp p hpp
          rwa [tyP_some hp] at this
        · exact absurd hp (by decide)
      · refine hsame.2.2 d fun j p hp hpd => ?_
        unfold outB at hd
        rw [Array.all_eq_true] at hd
        obtain ⟨hj, hjp⟩ := Array.getElem?_eq_some_iff.1 hp
        have := hd j hj
        rw [hjp] at this
        simp [hpd] at this
    have h := OpsAll.get _ _ hop i o (by simpa using ho) a wx hk
    unfold wpOp
    rw [ho]
    dsimp only
    have hgo : ∀ v w', Below wx.heap.size wx w' → tyP T o v w' → ∃ v', a.put o.dst v = a.put o.dst v' ∧ Below wx.heap.size wx w' ∧ ∀ o', ops[i]? = some o' → tyP T o' v' w' := by
      intro v w' hb hv
      refine ⟨v, rfl, hb, fun o' ho' => ?_⟩
      obtain rfl : o = o' := by rw [ho] at ho'; exact Option.some.inj ho'
      exact hv
    rcases h with ⟨hw, h2⟩ | ⟨hw, h2⟩
    · rw [if_pos (show Region.wanted o (yielded ops a.tmps) = true from hw)]
      refine Or.inl ?_
      unfold Oper.wp
      generalize (execOp a.eval o).run P wx = r at h2
      match r, h2 with
      | .ok (.value v) w', h2 => exact hgo v w' h2.1 h2.2
      | .ok .skip w', h2 => exact hgo undef w' h2.1 h2.2
      | .ok (.enter f args) w', h2 =>
        refine Calls.mono h2 ?_
        rintro e w'' ⟨v, rfl, hb, hv⟩
        exact hgo v w'' hb hv
    · rw [if_neg (by rw [hw]; decide)]
      exact hgo undef wx (Below.refl _ _) h2
  · intro a wx hc hsame hall
    refine hend a wx hc hsame fun d hd => ?_
    unfold outB at hd
    rw [Array.all_eq_false] at hd
    obtain ⟨j, hj, hp⟩ := hd
    have hpd : ops[j].dst = some d := by simpa using hp
    have := hall j ops[j] d (by simp [hj]) hpd ops[j] (by simp [hj])
    rwa [tyP_some hpd] at this
end
end Go.Cit

/- What valid says hangs on the configuration alone, not on where it lies. -/
namespace Go.Proofs.Ytpnbaapjjchlbaa
open Go Go.RowKit Go.Cit

def bareP (p : Pt) : PtV := ⟨p.id, p.reg, p.keep, none, p.img, 0⟩
def bareV (V : CfgV) : CfgV := { V with wa := none, wc := 0, pa := none, ps := V.ps.map fun x => bareP x.pt, pc := 0, ca := none, cc := 0 }
theorem hasP_bare (ps : List PtV) (id : Int) : hasP (ps.map fun x => bareP x.pt) id = hasP ps id := by
  unfold hasP; rw [List.any_map]; rfl
theorem getP_bare (ps : List PtV) (id : Int) : getP (ps.map fun x => bareP x.pt) id = getP ps id := by
  unfold getP
  rw [List.find?_map]
  have : ((fun x : PtV => decide (x.id.1 = id)) ∘ fun x : PtV => bareP x.pt) = fun x : PtV => decide (x.id.1 = id) := rfl
  rw [this]
  cases ps.find? fun x => decide (x.id.1 = id) <;> rfl
theorem regionsBad_bare (ps : List PtV) : regionsBad (ps.map fun x => bareP x.pt) = regionsBad ps := by
  unfold regionsBad; rw [List.any_map]; rfl
theorem ascP_bare (ps : List PtV) : ∀ m, ascP m (ps.map fun x => bareP x.pt) = ascP m ps := by
  induction ps with
  | nil => intro m; rfl
  | cons x ps ih => intro m; rw [List.map_cons]; unfold ascP; rw [ih]; rfl
theorem okRegs_bare (ps : List PtV) : okRegs (ps.map fun x => bareP x.pt) = okRegs ps := by
  unfold okRegs
  rw [List.filter_map, List.map_map]
  rfl
theorem errs_bare (V : CfgV) : errs (bareV V) = errs V := by
  have h1 : windowsBad (bareV V) = windowsBad V := by
    unfold windowsBad
    congr 2
    funext x
    simp [winBad, bareV, hasP_bare]
  have h2 : partsBad (bareV V).ps = partsBad V.ps := by
    unfold partsBad bareV
    dsimp only
    rw [ascP_bare, List.length_map]
  have h3 : regionsBad (bareV V).ps = regionsBad V.ps := regionsBad_bare V.ps
  have h4 : overlapBad (bareV V).ps = overlapBad V.ps := by
    unfold overlapBad bareV
    dsimp only
    rw [okRegs_bare]
  have h5 : channelsBad (bareV V) = channelsBad V := by
    have e : chBad (bareV V) = chBad V := by
      funext x
      simp [chBad, bareV, hasP_bare]
    unfold channelsBad
    rw [e]
    rfl
  unfold errs errsTo bads
  rw [h1, h2, h3, h4, h5]
theorem errs_cfg {V U : CfgV} (h : U.cfg = V.cfg) : errs U = errs V := by
  rw [← errs_bare U, ← errs_bare V]
  congr 1
  simp only [CfgV.cfg, Cfg.mk.injEq] at h
  obtain ⟨h1, h2, h3⟩ := h
  unfold bareV
  have e : (U.ps.map fun x => bareP x.pt) = (V.ps.map fun x => bareP x.pt) := by
    have := congrArg (List.map bareP) h2
    rw [List.map_map, List.map_map] at this
    exact this
  rw [h1, h3, e]
end Go.Proofs.Ytpnbaapjjchlbaa

/- The reference's Check: walked, on what its All answers. -/
namespace Go.Proofs.Ytpnbaapjjchlbaa
open Go Go.RowKit Go.Cit

/-- What the reference's All is to answer (proved in XRefAll; here a word alone, so that the texts on it need not wait). -/
def RefAllIs : Prop := ∀ (w : World) (V : CfgV), V.At w → SmallV V → Calls Try.prog 21 #[.agg #[.slice V.wa V.ws.length V.wc, .slice V.pa V.ps.length V.pc, .slice V.ca V.cs.length V.cc]] w fun e w' => ∃ a c, e = .returned (.slice a (errs V).length c) ∧ Vec cZ 1 w' a (errs V) c ∧ Below w.heap.size w w'

set_option maxRecDepth 100000 in
set_option maxHeartbeats 2000000 in
theorem refcheck_calls (hAll : RefAllIs) (w : World) (V : CfgV) (h : V.At w) (hs : SmallV V) : Calls Try.prog 23 #[.agg #[.slice V.wa V.ws.length V.wc, .slice V.pa V.ps.length V.pc, .slice V.ca V.cs.length V.cc]] w fun e w' => e = .returned (.int .i64 (chkV V)) ∧ Below w.heap.size w w' := by
  have B0 : Below w.heap.size w (w.alloc (.cells #[.slice V.wa V.ws.length V.wc, .slice V.pa V.ps.length V.pc, .slice V.ca V.cs.length V.cc] 26)) := (Below.refl _ w).alloc (Nat.le_refl _) _
  have HC := Lib.hid (hAll _ V (h.stay B0) hs)
  have HB0 := Lib.hid B0
  obtain ⟨L, hL⟩ : ∃ L, Hid (L = errs V) := ⟨_, rfl⟩
  have HR : Hid (chkV V = L.head?.getD 0) := by rw [Hid, hL.out]; rfl
  have HLL : L.length ≤ 5 := by rw [hL.out]; exact errs_len V
  obtain ⟨R, HR2⟩ : ∃ R, Hid (R = chkV V) := ⟨_, rfl⟩
  rw [← hL.out] at HC
  rw [← HR2.out] at HR ⊢
  clear h B0 hAll
  cases L with
  | nil =>
    have HRZ : Hid (R = 0) := by rw [Hid, HR.out]; rfl
    go_enter Try.func23, Try.ntmps23
    go_wp2_with fail
    refine (HC.out).mono ?_
    rintro e w2 ⟨a, c, rfl, hO, hb2⟩
    have HB2 := Lib.hid (HB0.out.trans (hb2.mono HB0.out.size))
    clear hO hb2
    go_wp2_with fail
    go_ret
    exact ⟨ret_int HRZ.out.symm, HB2.out⟩
  | cons z L =>
    have HRZ : Hid (R = z) := by rw [Hid, HR.out]; rfl
    go_enter Try.func23, Try.ntmps23
    go_wp2_with fail
    refine (HC.out).mono ?_
    rintro e w2 ⟨a, c, rfl, hv, hb2⟩
    have HB2 := Lib.hid (HB0.out.trans (hb2.mono HB0.out.size))
    have i0 := hv.index etI 0 (by simp)
    have d0 := hv.field0 0 (by simp) (by decide) rfl
    rw [show ((0 : Nat) : Int) = 0 from rfl, Nat.zero_mul, List.length_cons] at i0
    rw [Nat.zero_mul] at d0
    have e1 : ((((L.length + 1 : Nat) : Int)) == 0) = false := by simp; omega
    have e2 : ((L.length + 1) == 0) = false := by simp
    clear hb2 hv
    go_wp2_with fail
    go_ret
    exact ⟨ret_int HRZ.out.symm, HB2.out⟩
end Go.Proofs.Ytpnbaapjjchlbaa

