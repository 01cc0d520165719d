/- XLine's law within a round of a range over a function. No condition on the program. -/
import Derived.Test.YtofagofpeedfcaaGreatLine
import Derived.Test.YtofagofpeedfcaaGreatGc
namespace Go.Cit
open Go Go.RowKit

section
variable {P : Program} {ops : Array Oper} {Q : Exit → Act → World → Prop}
theorem region_line_round {L nn id : Nat} {a0 : Act} {w : World} (X Y : Nat → Value) (olds : List Nat) (idx : List Nat) (St : List Value → World → Prop)
    (hm : P.follows .mixedOrders = true) (hd9 : ops.all (fun o => match o.op with | .defer _ => false | _ => true) = true) (hQ : ∀ a w, ¬ Q .outgrown a w) (hs : shapeB ops a0.tmps.size = true) (hc : chainB ops idx = true) (hY : OldIs a0 Y olds)
    (h0 : ∀ w', Alike w w' → St [] w')
    (hop : OpsAll (fun n o => ∀ a vs, KnowsL ops X Y olds idx o a vs → LineOp P ops X idx St n o a vs) ops.toList 0)
    (hend : ∀ a vs wx, vs.length = idx.length → St vs wx → SameBut ops a0 a → (∀ d, outB ops d = false → lineD ops idx d = false → a.eval (.tmp d) = X d) → (∀ (j d : Nat) (v : Value), vs[j]? = some v → dstB ops idx j d = true → a.eval (.tmp d) = v) → Q .normal a wx) :
    (Code.region id ops true).wpIn (Fence.wide.inRound L) nn P Q a0 w := by
  have hput : ∀ {a : Act} {i : Nat} {o : Oper} {v : Value} {vs : List Value}, ops[i]? = some o → (∀ j, idx[j]? = some i → vs.length ≤ j) →
      (∀ (j d : Nat) (u : Value), vs[j]? = some u → dstB ops idx j d = true → a.eval (.tmp d) = u) → ∀ (j d : Nat) (u : Value), vs[j]? = some u → dstB ops idx j d = true → (a.put o.dst v).eval (.tmp d) = u := by
    intro a i o v vs ho hi h j d u hu hd
    obtain ⟨i', o', hj, ho', hd'⟩ := dstB_spec hd
    have hne : i ≠ i' := fun e => by
      subst e
      have := hi j hj
      have := (List.getElem?_eq_some_iff.1 hu).1
      omega
    refine Eq.trans (put_getD_ne a o.dst d v (fun e => ?_)) (h j d u hu hd)
    rcases Nat.lt_or_gt_of_ne hne with hlt | hlt
    · exact (shape_spec hs ho').2.2 i o d ho hlt hd' e
    · exact (shape_spec hs ho).2.2 i' o' d ho' hlt e hd'
  refine region_in_round hm hd9 hQ (ph_st (lineC ops idx St) (fun _ _ _ => True) (fun d v _ => lineD ops idx d = false → v = X d) hs (fun w' hb hh => ⟨[], Nat.zero_le _, fun j i _ => ⟨fun h => absurd h (by simp), fun h => absurd h (Nat.not_lt_zero _)⟩, fun j d v hv => by simp at hv, h0 w' ⟨hb, hh⟩⟩) ?_ ?_ ?_)
  · intro δ i j o v a w1 w2 _ _ _ _ _ _ _ h
    rcases hd : o.dst with _ | d
    · exact tyP_none hd _ _
    · rw [tyP_some hd] at h ⊢; exact h
  · have hn : ∀ (os : List Oper) (n : Nat), (∀ j, os[j]? = ops[n + j]?) → OpsAll (fun n o => ∀ a vs, KnowsL ops X Y olds idx o a vs → LineOp P ops X idx St n o a vs) os n →
        OpsAll (fun n o => ∀ δ a wx, KnownS ops (lineC ops idx St) (fun d v _ => lineD ops idx d = false → v = X d) a0 n o δ a wx → Wanted ops o a ∧ GivesP P (fun v w' => True ∧ lineC ops idx St (upd δ n) (a.put o.dst v) w' ∧ tyP (fun d v _ => lineD ops idx d = false → v = X d) o v w') ((execOp a.eval o).run P wx)) os n := by
      intro os
      induction os with
      | nil => intro n _ _; exact trivial
      | cons o os ih =>
        intro n hos hall
        refine ⟨?_, ih (n + 1) (fun j => by have := hos (j + 1); simpa [Nat.add_assoc, Nat.add_comm 1 j] using this) hall.2⟩
        have ho : ops[n]? = some o := by simpa using (hos 0).symm
        intro δ a wx hk
        obtain ⟨vs, hk1, hk2, hk3, hk4⟩ := hk.inv
        have hkt : KnowsL ops X Y olds idx o a vs := ⟨fun d hd => hk.slot d hd, fun d hd => by
          rw [Bool.and_eq_true] at hd
          exact (hk.old d hd.1).trans (hY.get d hd.2), hk3⟩
        obtain ⟨hw, h⟩ := hall.1 a vs hkt
        refine ⟨hw, ?_⟩
        rcases h with ⟨j, hj, h⟩ | ⟨hnn, h⟩
        · have hkj : vs.length = j := by
            have h1 : ¬ j < vs.length := fun hlt => by
              have := (hk2 j n hj).2 hlt
              rw [hk.yet] at this; exact absurd this (by decide)
            have h2 : j ≤ vs.length := by
              rcases j with _ | j'
              · exact Nat.zero_le _
              · have hlt := (List.getElem?_eq_some_iff.1 hj).1
                have hj' : idx[j']? = some idx[j'] := List.getElem?_eq_getElem (by omega)
                have hneed := (chain_spec hc hj).2 j' _ rfl hj'
                have hdone := hk.next.needs ops.size n _ hneed (upd_same _ _)
                have hne := needs_lt hs _ _ _ hneed
                rw [upd_other _ (by omega)] at hdone
                exact (hk2 j' _ hj').1 hdone
            omega
          refine gives_two (fun v w' hv => ⟨trivial, ⟨vs ++ [v], ?_, fun j2 i2 hj2 => ?_, ?_, hv⟩, ?_⟩) (h hkj wx hk4)
          · have := (List.getElem?_eq_some_iff.1 hj).1
            rw [List.length_append, List.length_singleton]; omega
          · rw [List.length_append, List.length_singleton]
            by_cases he : n = i2
            · subst he
              rw [upd_same]
              have := chain_inj hs hc hj hj2
              exact ⟨fun _ => by omega, fun _ => rfl⟩
            · rw [upd_other _ he, hk2 j2 i2 hj2]
              have : j2 ≠ j := fun e => he (by rw [e, hj] at hj2; exact Option.some.inj hj2)
              omega
          · intro j2 d u hu hd
            rw [List.getElem?_append] at hu
            split at hu
            · exact hput ho (fun j3 hj3 => by have := chain_inj hs hc hj hj3; omega) hk3 j2 d u hu hd
            · obtain ⟨i2, o2, hj2, ho2, hd2⟩ := dstB_spec hd
              have e0 : j2 - vs.length = 0 := by
                have := (List.getElem?_eq_some_iff.1 hu).1
                simp at this; omega
              have ej : j2 = j := by omega
              rw [e0] at hu
              obtain rfl : v = u := by simpa using hu
              subst ej
              rw [hj] at hj2
              obtain rfl : n = i2 := Option.some.inj hj2
              rw [ho] at ho2
              obtain rfl : o = o2 := Option.some.inj ho2
              rw [hd2]
              exact put_getD_same _ _ _ (by rw [hk.same.2.1]; exact (shape_spec hs ho).2.1 d hd2)
          · rcases hd : o.dst with _ | d
            · exact tyP_none hd _ _
            · rw [tyP_some hd]
              intro hl
              rw [lineD_of hj ho hd] at hl; exact absurd hl (by decide)
        · refine gives_two (fun v w' hv => ?_) (h (fun j i hj hn => (hk2 j i hj).1 ?_) (fun j i hj hn => ?_) hk1 wx hk4)
          · obtain ⟨rfl, hv⟩ := hv
            refine ⟨trivial, ⟨vs, hk1, fun j2 i2 hj2 => by
              rw [upd_other _ (show n ≠ i2 from fun e => hnn (by rw [e]; exact List.mem_of_getElem? hj2))]; exact hk2 j2 i2 hj2, hput ho (fun j3 hj3 => absurd (List.mem_of_getElem? hj3) hnn) hk3, hk4⟩, ?_⟩
            rcases hd : o.dst with _ | d
            · exact tyP_none hd _ _
            · rw [tyP_some hd]
              intro _
              unfold tyX at hv
              rw [hd] at hv; exact hv
          · have hdone := hk.next.needs ops.size n i hn (upd_same _ _)
            have hne := needs_lt hs _ _ _ hn
            rwa [upd_other _ (by omega)] at hdone
          · have hy := hk.closed.yet _ _ _ hn hk.yet
            rcases Nat.lt_or_ge j vs.length with hlt | hge
            · rw [(hk2 j i hj).2 hlt] at hy; exact absurd hy (by decide)
            · exact hge
    exact hn ops.toList 0 (fun j => by simp) hop
  · intro δ a wx hall hc' hsame hslots
    obtain ⟨vs, hk1, hk2, hk3, hk4⟩ := hc'
    refine hend a vs wx ?_ hk4 hsame (fun d hd => hslots d hd) hk3
    rcases Nat.lt_or_ge vs.length idx.length with hlt | hge
    · have hj : idx[vs.length]? = some idx[vs.length] := List.getElem?_eq_getElem hlt
      have := (hk2 _ _ hj).1 (hall _ (chain_spec hc hj).1)
      omega
    · omega
end
end Go.Cit
