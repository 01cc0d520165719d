/- Texts of the proof, one behind the other: Good, ManChk1. No condition but those that each names. -/
import Derived.Test.YtlholdllibghbaaGreatG13
import Derived.Test.YtlholdllibghbaaGreatG30
import Derived.Test.YtlholdllibghbaaGreatG12
import Derived.Test.YtlholdllibghbaaGreatG31
import Derived.Test.YtlholdllibghbaaGreatG28
import Derived.Test.YtlholdllibghbaaGreatG32
import Derived.Test.YtlholdllibghbaaGreatG15
import Derived.Test.YtlholdllibghbaaGreatG10
import Derived.Deep.CutBlock
import Derived.Deep.DeepCutAuto
import Derived.Test.YtlholdllibghbaaGreatG11
import Derived.Test.YtlholdllibghbaaGreatG23
/- What a configuration is in which nothing is wrong (plain). No condition. -/
namespace Go.Proofs.YtlholdllibghbaaGreat
open Go Go.RowKit Go.Cit

structure Good (V : CfgV) : Prop where
  may : mayW V.ws = true
  few : 1 ≤ V.ps.length ∧ V.ps.length ≤ 6
  asc : ascP 0 V.ps = true
  reg : ∀ x ∈ V.ps, mayR x.reg = true ∧ (x.img.length : Int) ≤ x.reg.size.1
  apart : regAll (V.ps.map (·.reg)) = 0
  win : ∀ x ∈ V.ws, x.part.1 = 0 ∨ hasP V.ps x.part.1 = true
  chn : V.cs.length ≤ 8
  chk : chErr V.cs = 0
  ends : ∀ x ∈ V.cs, hasP V.ps x.src.1 = true ∧ hasP V.ps x.dst.1 = true
theorem errs_nil {V : CfgV} : errs V = [] ↔ windowsBad V = false ∧ partsBad V.ps = false ∧ regionsBad V.ps = false ∧ overlapBad V.ps = false ∧ channelsBad V = false := by
  unfold errs errsTo bads
  cases windowsBad V <;> cases partsBad V.ps <;> cases regionsBad V.ps <;> cases overlapBad V.ps <;> cases channelsBad V <;> simp
theorem okRegs_eq {ps : List PtV} (h : ∀ x ∈ ps, mayR x.reg = true) : okRegs ps = ps.map (·.reg) := by
  unfold okRegs
  rw [List.filter_eq_self.2 h]
theorem regionsBad_iff {ps : List PtV} : regionsBad ps = false ↔ ∀ x ∈ ps, mayR x.reg = true ∧ (x.img.length : Int) ≤ x.reg.size.1 := by
  unfold regionsBad
  rw [List.any_eq_false]
  refine forall_congr' fun x => forall_congr' fun _ => ?_
  unfold regBad
  cases mayR x.reg <;> simp
theorem good_iff {V : CfgV} : errs V = [] ↔ Good V := by
  rw [errs_nil]
  have e1 : windowsBad V = false ↔ mayW V.ws = true ∧ ∀ x ∈ V.ws, x.part.1 = 0 ∨ hasP V.ps x.part.1 = true := by
    unfold windowsBad
    rw [Bool.or_eq_false_iff, List.any_eq_false]
    refine and_congr (by simp) (forall_congr' fun x => forall_congr' fun _ => ?_)
    unfold winBad
    cases hasP V.ps x.part.1 <;> simp
  have e2 : partsBad V.ps = false ↔ (1 ≤ V.ps.length ∧ V.ps.length ≤ 6) ∧ ascP 0 V.ps = true := by
    unfold partsBad
    rw [Bool.or_eq_false_iff]
    refine and_congr ?_ (by simp)
    rw [decide_eq_false_iff_not]; omega
  have e5 : channelsBad V = false ↔ V.cs.length ≤ 8 ∧ chErr V.cs = 0 ∧ ∀ x ∈ V.cs, hasP V.ps x.src.1 = true ∧ hasP V.ps x.dst.1 = true := by
    unfold channelsBad
    rw [Bool.or_eq_false_iff, Bool.or_eq_false_iff, List.any_eq_false]
    refine and_congr (by simp) (and_congr (by simp) (forall_congr' fun x => forall_congr' fun _ => ?_))
    unfold chBad
    cases hasP V.ps x.src.1 <;> cases hasP V.ps x.dst.1 <;> simp
  rw [e1, e2, e5, regionsBad_iff]
  constructor
  · rintro ⟨⟨a, b⟩, ⟨c, d⟩, e, f, g, h, i⟩
    refine ⟨a, c, d, e, ?_, b, g, h, i⟩
    unfold overlapBad at f
    rw [okRegs_eq (fun x hx => (e x hx).1)] at f
    simpa using f
  · rintro ⟨a, c, d, e, f, b, g, h, i⟩
    refine ⟨⟨a, b⟩, ⟨c, d⟩, e, ?_, g, h, i⟩
    unfold overlapBad
    rw [okRegs_eq (fun x hx => (e x hx).1)]
    simpa using f
theorem asc_gt : ∀ (ps : List PtV) (last : Int), ascP last ps = true → ∀ x ∈ ps, last < x.id.1 ∧ x.id.1 ≤ 6
  | [], _, _, x, hx => by simp at hx
  | y :: r, last, h, x, hx => by
    rw [ascP, Bool.and_eq_true, decide_eq_true_eq] at h
    rcases List.mem_cons.1 hx with rfl | hx
    · exact h.1
    · have := asc_gt r _ h.2 x hx; omega
theorem Good.ids {V : CfgV} (h : Good V) : ∀ x ∈ V.ps, 1 ≤ x.id.1 ∧ x.id.1 ≤ 6 := fun x hx => by
  have := asc_gt _ _ h.asc x hx; omega
theorem asc_find : ∀ (ps : List PtV) (last : Int), ascP last ps = true → ∀ k (hk : k < ps.length), ps.find? (fun x => decide (x.id.1 = ps[k].id.1)) = some ps[k]
  | [], _, _, k, hk => by simp at hk
  | y :: r, last, h, k, hk => by
    rw [ascP, Bool.and_eq_true, decide_eq_true_eq] at h
    cases k with
    | zero => simp
    | succ k =>
      have hk' : k < r.length := by simpa using hk
      have := asc_gt r _ h.2 r[k] (List.getElem_mem hk')
      rw [List.find?_cons_of_neg]
      · simpa using asc_find r _ h.2 k hk'
      · simp; omega
theorem Good.part {V : CfgV} (h : Good V) (k : Nat) (hk : k < V.ps.length) : getP V.ps V.ps[k].id.1 = V.ps[k].pt := by
  unfold getP; rw [asc_find _ _ h.asc k hk]; rfl
end Go.Proofs.YtlholdllibghbaaGreat

/- manifest.Check's closures: walked; what valid.Check, compat.Check answer hangs on the configurations alone. -/
namespace Go.Proofs.YtlholdllibghbaaGreat
open Go Go.RowKit Go.Cit

def V0 (K : Cfg) : CfgV := ⟨none, K.wins, 0, none, K.parts.map (fun p => ⟨p.id, p.reg, p.keep, none, p.img, 0⟩), 0, none, K.chans, 0⟩
theorem V0_cfg (K : Cfg) : (V0 K).cfg = K := by
  unfold V0 CfgV.cfg
  rw [List.map_map, show PtV.pt ∘ (fun p : Pt => (⟨p.id, p.reg, p.keep, none, p.img, 0⟩ : PtV)) = id from rfl, List.map_id]
def chkC (K : Cfg) : Int := chkV (V0 K)
def compC (J K : Cfg) : Int := rcheckK (V0 J) (V0 K)
def fitsC (K : Cfg) : Bool := fitsV (V0 K)
theorem chkV_cfg (V : CfgV) : chkV V = chkC V.cfg := by unfold chkC chkV; rw [errs_cfg (V := V) (U := V0 V.cfg) (V0_cfg _)]
theorem fitsV_cfg (V : CfgV) : fitsV V = fitsC V.cfg := by unfold fitsC fitsV; rw [errs_cfg (V := V) (U := V0 V.cfg) (V0_cfg _)]
theorem hasP_pt (ps : List PtV) (x : Int) : hasP ps x = (ps.map PtV.pt).any fun p => decide (p.id.1 = x) := by unfold hasP; rw [List.any_map]; rfl
theorem getP_pt (ps : List PtV) (x : Int) : getP ps x = ((ps.map PtV.pt).find? fun p => decide (p.id.1 = x)).getD pt0 := by unfold getP; rw [List.find?_map]; rfl
theorem rcheck_cfg (V W : CfgV) : rcheckK V W = compC V.cfg W.cfg := by
  have h : ∀ {A A' B B' : CfgV}, A.cfg = A'.cfg → B.cfg = B'.cfg → rcheckK A B = rcheckK A' B' := by
    intro A A' B B' h1 h2
    have e1 : A.ps.map PtV.pt = A'.ps.map PtV.pt := congrArg Cfg.parts h1
    have e2 : B.ps.map PtV.pt = B'.ps.map PtV.pt := congrArg Cfg.parts h2
    have eb : ∀ x, bothK A.ps B.ps x = bothK A'.ps B'.ps x := fun x => by
      unfold bothK
      rw [hasP_pt, hasP_pt B.ps, getP_pt, getP_pt B.ps, e1, e2, ← hasP_pt, ← hasP_pt, ← getP_pt, ← getP_pt]
    have es : ∀ x, sameK A.ps B.ps x = sameK A'.ps B'.ps x := fun x => by
      unfold sameK
      rw [eb, getP_pt, getP_pt B.ps, e1, e2, ← getP_pt, ← getP_pt]
    unfold rcheckK mayK
    rw [fitsV_cfg, fitsV_cfg B, h1, h2, ← fitsV_cfg, ← fitsV_cfg, show oddR A B = oddR A' B' from funext fun j => by unfold oddR; rw [eb, es]]
  exact h (V0_cfg _).symm (V0_cfg _).symm
theorem hasP_iff (ps : List PtV) (x : Int) : hasP ps x = true ↔ ∃ y ∈ ps, y.id.1 = x := by
  unfold hasP; rw [List.any_eq_true]; simp
theorem may_good {V W : CfgV} : mayK V W = true ↔ Good V ∧ Good W := by
  unfold mayK fitsV
  rw [Bool.and_eq_true, decide_eq_true_eq, decide_eq_true_eq, good_iff, good_iff]
theorem both_has {ps qs : List PtV} {x : Int} (h : bothK ps qs x = true) : hasP ps x = true ∧ hasP qs x = true := by
  unfold bothK at h
  simp only [Bool.and_eq_true] at h
  exact h.1.1
theorem check_is (V W : CfgV) : checkK V W = rcheckK V W := by
  unfold checkK rcheckK
  cases h : mayK V W with
  | false => rfl
  | true =>
    have hW := (may_good.1 h).2
    rw [if_pos rfl, if_pos rfl]
    have e : W.ps.any (oddK V W) = (List.range 6).any (oddR V W) := by
      rw [Bool.eq_iff_iff, List.any_eq_true, List.any_eq_true]
      constructor
      · rintro ⟨x, hx, hp⟩
        have := hW.ids x hx
        refine ⟨(x.id.1 - 1).toNat, List.mem_range.2 (by omega), ?_⟩
        unfold oddR
        rw [show (((x.id.1 - 1).toNat + 1 : Nat) : Int) = x.id.1 by omega]
        exact hp
      · rintro ⟨j, hj, hp⟩
        unfold oddR at hp
        have hb : bothK V.ps W.ps ((j + 1 : Nat) : Int) = true := by
          cases hb : bothK V.ps W.ps ((j + 1 : Nat) : Int) with
          | true => rfl
          | false => rw [hb] at hp; simp at hp
        obtain ⟨y, hy, he⟩ := (hasP_iff _ _).1 (both_has hb).2
        exact ⟨y, hy, by unfold oddK; rw [he]; exact hp⟩
    rw [e]

def tF (ok : Bool) (n : Int) (v : Value) (w : World) : Prop := ∃ p q, v = .func (.func 74) #[] #[.pointer (some ⟨p, 0, none⟩), .pointer (some ⟨q, 0, none⟩)] ∧ w.cell? ⟨p, 0, none⟩ = some (.bool ok) ∧ w.cell? ⟨q, 0, none⟩ = some (.int .i64 n)
theorem tF_stay {ok : Bool} {n : Int} {v : Value} {w1 w2 : World} (hb : Below w1.heap.size w1 w2) (h : tF ok n v w1) : tF ok n v w2 := by
  obtain ⟨p, q, h1, h2, h3⟩ := h
  exact ⟨p, q, h1, Go.Cit.keep hb h2, Go.Cit.keep hb h3⟩
set_option maxHeartbeats 1000000 in
theorem unless_calls (w : World) (ok : Bool) (n : Int) : Calls Tryz.prog 73 #[.bool ok, .int .i64 n] w fun e w' => ∃ v, e = .returned v ∧ Below w.heap.size w w' ∧ tF ok n v w' := by
  have hmf : ∀ (fn : Fn) (first cap : Array Value) (w : World), (Instr.makeFunc fn first cap).run Tryz.prog w = .ok (.func fn first cap) w := fun _ _ _ _ => rfl
  go_enter Tryz.func73, Tryz.ntmps73
  go_wp2_with fail
  go_ret
  exact ⟨_, rfl, ((Below.refl _ w).alloc (Nat.le_refl _) _).alloc (by simp) _, w.heap.size, w.heap.size + 1, rfl, by simp, by simp⟩
set_option maxHeartbeats 1000000 in
theorem unless1_calls (w : World) (ok : Bool) (n : Int) (p q : Nat) (h1 : w.cell? ⟨p, 0, none⟩ = some (.bool ok)) (h2 : w.cell? ⟨q, 0, none⟩ = some (.int .i64 n)) : Calls Tryz.prog 74 #[.pointer (some ⟨p, 0, none⟩), .pointer (some ⟨q, 0, none⟩)] w fun e w' => e = .returned (.int .i64 (if ok then 0 else n)) ∧ w' = w := by
  go_enter Tryz.func74, Tryz.ntmps74
  cases ok with
  | true => go_wp2_with fail; go_ret; exact ⟨rfl, rfl⟩
  | false => go_wp2_with fail; go_ret; exact ⟨rfl, rfl⟩
set_option maxHeartbeats 1000000 in
theorem asksV_calls (w : World) (p : Nat) (M : ManV) (hI : InM w p M) (h : M.At w) (hs : SmallV M.cfg) : Calls Tryz.prog 75 #[.pointer (some ⟨p, 0, none⟩)] w fun e w' => e = .returned (.int .i64 (chkC M.cfg.cfg)) ∧ Below w.heap.size w w' := by
  have d0 := hI.d0
  have d1 := hI.d1
  have d2 := hI.d2
  have f3 := mf3 p
  have hk := vcheck_calls w M.cfg h.cfg hs
  rw [chkV_cfg] at hk
  have HK := Lib.hid hk
  clear hk hI h hs
  go_enter Tryz.func75, Tryz.ntmps75
  go_wp2_with fail
  refine (HK.out).mono ?_
  rintro e w1 ⟨rfl, hb1⟩
  go_wp2_with fail
  go_ret
  exact ⟨rfl, hb1⟩
end Go.Proofs.YtlholdllibghbaaGreat

