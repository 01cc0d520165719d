/- Chapter 15: the reference's slot: Write: walked. -/
import Derived.Test.YtofagofpeedfcaaGreatRSlot
namespace Go.Proofs.YtofagofpeedfcaaGreat
open Go Go.RowKit Go.Cit

/-- A sector's bytes, with those of a write over them. -/
def overB (R l : List UInt8) (at_ k : Nat) (q : Nat) : List UInt8 := (List.range R.length).map fun t => if t < q ∧ at_ ≤ 64 * k + t ∧ 64 * k + t < at_ + l.length then l[64 * k + t - at_]?.getD 0 else R[t]?.getD 0
theorem overB_len (R l : List UInt8) (at_ k q : Nat) : (overB R l at_ k q).length = R.length := by simp [overB]
theorem overB_get (R l : List UInt8) (at_ k q t : Nat) (h : t < R.length) : (overB R l at_ k q)[t]? = some (if t < q ∧ at_ ≤ 64 * k + t ∧ 64 * k + t < at_ + l.length then l[64 * k + t - at_]?.getD 0 else R[t]?.getD 0) := by
  unfold overB
  rw [List.getElem?_map, List.getElem?_range h]; rfl
theorem overB_zero (R l : List UInt8) (at_ k : Nat) : overB R l at_ k 0 = R := by
  apply List.ext_getElem?
  intro t
  by_cases h : t < R.length
  · rw [overB_get _ _ _ _ _ _ h, if_neg (by omega), List.getElem?_eq_getElem h]; rfl
  · rw [List.getElem?_eq_none (by rw [overB_len]; omega), List.getElem?_eq_none (by omega)]
theorem overB_skip (R l : List UInt8) (at_ k q : Nat) (h : ¬ (at_ ≤ 64 * k + q ∧ 64 * k + q < at_ + l.length)) : overB R l at_ k (q + 1) = overB R l at_ k q := by
  apply List.ext_getElem?
  intro t
  by_cases ht : t < R.length
  · rw [overB_get _ _ _ _ _ _ ht, overB_get _ _ _ _ _ _ ht]
    congr 1
    by_cases e : t = q
    · subst e; rw [if_neg (fun x => h x.2), if_neg (fun x => h x.2)]
    · by_cases g : t < q ∧ at_ ≤ 64 * k + t ∧ 64 * k + t < at_ + l.length
      · rw [if_pos g, if_pos ⟨by omega, g.2⟩]
      · rw [if_neg g, if_neg (by omega)]
  · rw [List.getElem?_eq_none (by rw [overB_len]; omega), List.getElem?_eq_none (by rw [overB_len]; omega)]
theorem overB_step (R l : List UInt8) (at_ k q : Nat) (hq : q < R.length) (h1 : at_ ≤ 64 * k + q) (h2 : 64 * k + q - at_ < l.length) : overB R l at_ k (q + 1) = (overB R l at_ k q).set q l[64 * k + q - at_] := by
  apply List.ext_getElem?
  intro t
  by_cases ht : t < R.length
  · rw [overB_get _ _ _ _ _ _ ht]
    by_cases e : q = t
    · subst e
      rw [List.getElem?_set_self (by rw [overB_len]; exact ht), if_pos (by omega), List.getElem?_eq_getElem h2]; rfl
    · rw [List.getElem?_set_ne e, overB_get _ _ _ _ _ _ ht]
      congr 1
      by_cases g : t < q ∧ at_ ≤ 64 * k + t ∧ 64 * k + t < at_ + l.length
      · rw [if_pos g, if_pos ⟨by omega, g.2⟩]
      · rw [if_neg g, if_neg (by omega)]
  · rw [List.getElem?_eq_none (by rw [overB_len]; omega), List.getElem?_eq_none (by rw [List.length_set, overB_len]; omega)]
theorem overB_all (R l : List UInt8) (at_ k base : Nat) (hR : R.length = 64) (h : at_ < at_ + l.length ∧ at_ < 64 * k + 64 ∧ 64 * k < at_ + l.length) (m : List UInt8) (hm : m = l.drop (farW at_ (at_ + l.length) k - at_)) (x : Pc) (hx : x = pcAt base (at_ + l.length) (farW at_ (at_ + l.length) k)) :
    overB R l at_ k 64 = patchL R x.lo (m.take (x.hi - x.lo)) := by
  obtain ⟨f1, f2, f3⟩ := far_step (Nat.le_add_right at_ l.length) h
  obtain ⟨q1, q2, q3, q4⟩ := pc_in (base := base) f1
  rw [← hx] at q1 q2 q3 q4
  have hlo : x.lo = farW at_ (at_ + l.length) k % 64 := by rw [hx]; rfl
  have e1 : farW at_ (at_ + l.length) k = min (at_ + l.length) (max at_ (64 * k)) := rfl
  have hml : (m.take (x.hi - x.lo)).length = x.hi - x.lo := by rw [List.length_take, hm, List.length_drop]; omega
  have e2 : farW at_ (at_ + l.length) (k + 1) = min (at_ + l.length) (max at_ (64 * (k + 1))) := rfl
  have e3 : farW at_ (at_ + l.length) k = 64 * k + x.lo := by omega
  have e4 : farW at_ (at_ + l.length) (k + 1) = 64 * k + x.hi := by omega
  apply List.ext_getElem?
  intro t
  by_cases ht : t < 64
  · rw [overB_get _ _ _ _ _ _ (by omega), patch_get (by rw [hml]; omega), hml]
    by_cases g : t < 64 ∧ at_ ≤ 64 * k + t ∧ 64 * k + t < at_ + l.length
    · rw [if_pos g, if_pos (by omega), List.getElem?_take, if_pos (by omega), hm, List.getElem?_drop]
      have e : farW at_ (at_ + l.length) k - at_ + (t - x.lo) = 64 * k + t - at_ := by omega
      rw [e, List.getElem?_eq_getElem (by omega)]; rfl
    · rw [if_neg g, if_neg (by omega), List.getElem?_eq_getElem (by omega)]; rfl
  · rw [List.getElem?_eq_none (by rw [overB_len]; omega), List.getElem?_eq_none (by rw [patch_len (by rw [hml]; omega)]; omega)]
theorem readE_cases (D : Dk) (i : Int) : (readE D i = 0 ∧ D.up = true ∧ 0 ≤ i ∧ i < D.S.length) ∨ (readE D i ≠ 0 ∧ readR D i = []) := by
  unfold readE readR
  by_cases hu : D.up = true
  · by_cases hi : 0 ≤ i ∧ i < (D.S.length : Int)
    · exact .inl ⟨by rw [if_neg (by rw [hu]; decide), if_pos hi], hu, hi⟩
    · exact .inr ⟨by rw [if_neg (by rw [hu]; decide), if_neg hi]; decide, by rw [if_neg (fun e => hi e.2)]⟩
  · have hu' : D.up = false := by simpa using hu
    exact .inr ⟨by rw [if_pos hu']; decide, by rw [if_neg (fun e => hu e.1)]⟩
set_option maxRecDepth 100000 in
set_option maxHeartbeats 4000000 in
theorem rwr_good (w : World) (r : Rl) (D : Dk) (h : RefAt w r D) (hok : D.Ok) (hu : D.up = true) (s at_ : Nat) (hs : s ≤ 1) (a : Option Addr) (l : List UInt8) (c : Nat) (hr : Row w a l c) (ha : l ≠ [] → ∀ g, Go.Cit.blk a = some g → r.Off g) (hal : at_ + l.length ≤ 4096) :
    Calls Tryz.prog 11 #[.pointer (some ⟨r.b, 0, none⟩), .int .i64 (s : Int), .int .i64 (at_ : Int), .slice a l.length c] w fun e w' => ∃ xs, Leads (3 + 64 * s) (at_ + l.length) at_ xs (at_ + l.length) ∧ e = .returned (.int .i64 (wrP D l xs).2) ∧ RefAt w' r (wrP D l xs).1 ∧ Save r.Off w w' := by
  obtain ⟨n, hn⟩ : ∃ n, Hid (n = l.length) := ⟨_, rfl⟩
  have hal2 : at_ + n ≤ 4096 := by rw [hn.out]; exact hal
  rw [← hn.out]
  have hrf := rrefused_calls w s at_ n (by omega) (by omega) (by omega)
  rw [show rfE s at_ n = 0 by rw [rfE, if_neg (by omega), if_neg (by omega)]] at hrf
  have HH := Lib.hid h
  have HOK := Lib.hid hok
  have HR := Lib.hid hr
  have HA := Lib.hid ha
  have q1 : w.cell? ⟨r.b, 1, none⟩ = some (.bool false) := by have := h.cells.2; rw [hu] at this; exact this
  clear h hok hu hr ha hal
  go_enter Tryz.func11, Tryz.ntmps11
  go_wp2_with fail
  refine (hrf).mono ?_
  rintro e w2 ⟨rfl, rfl⟩
  clear hrf
  go_wp2_with fail
  clear q1
  go_loopw [10] (fun i wr => ∃ (k : Nat) (D' : Dk) (m : List UInt8) (pre : List Pc), k ≤ 64 ∧ i = .int .i64 (k : Int) ∧ Hid (Cont D l pre D' m ∧ Leads (3 + 64 * s) (at_ + l.length) at_ pre (farW at_ (at_ + l.length) k) ∧ m = l.drop (farW at_ (at_ + l.length) k - at_)) ∧ Hid (RefAt wr r D' ∧ D'.Ok) ∧ Hid (Save r.Off w2 wr)) (fun i _ => 64 - (intOf i).toNat)
  case atStart => exact ⟨0, D, l, [], by omega, rfl, ⟨Cont.nil _ _, by rw [far_start (Nat.le_add_right _ _)]; rfl, by rw [far_start (Nat.le_add_right _ _)]; simp⟩, ⟨HH.out, HOK.out⟩, Save.refl _ _⟩
  case round =>
    obtain ⟨k, D', m, pre, hk, rfl, HC, HRA, HS⟩ := hrel
    by_cases hlt : k < 64
    · by_cases T : at_ < at_ + n ∧ at_ < 64 * k + 64 ∧ 64 * k < at_ + n
      · obtain ⟨x, hx⟩ : ∃ x, Hid (x = pcAt (3 + 64 * s) (at_ + l.length) (farW at_ (at_ + l.length) k)) := ⟨_, rfl⟩
        have HT : Hid (at_ < at_ + l.length ∧ at_ < 64 * k + 64 ∧ 64 * k < at_ + l.length) := by rw [Hid, ← hn.out]; exact T
        obtain ⟨f1, f2, f3⟩ := far_step (Nat.le_add_right at_ l.length) HT.out
        have HF1 := Lib.hid f1
        have HXS : Hid ((x.sec : Int) = 3 + 64 * (s : Int) + (k : Int)) := by rw [Hid, hx.out]; show ((3 + 64 * s + farW at_ (at_ + l.length) k / 64 : Nat) : Int) = _; rw [f3]; omega
        have HLS : Hid (Leads (3 + 64 * s) (at_ + l.length) at_ (pre ++ [x]) (farW at_ (at_ + l.length) (k + 1))) := by rw [Hid, ← f2, hx.out]; exact HC.out.2.1.snoc f1
        have HMD : Hid (m.drop (x.hi - x.lo) = l.drop (farW at_ (at_ + l.length) (k + 1) - at_)) := by
          obtain ⟨q1, q2, q3, q4⟩ := pc_in (base := 3 + 64 * s) f1
          rw [← hx.out] at q1 q2 q3 q4
          have : at_ ≤ farW at_ (at_ + l.length) k := by unfold farW; omega
          rw [Hid, HC.out.2.2, List.drop_drop]
          congr 1
          omega
        obtain ⟨ys, hys⟩ := Leads.exist (3 + 64 * s) (at_ + l.length) ((at_ + l.length) - farW at_ (at_ + l.length) (k + 1)) (farW at_ (at_ + l.length) (k + 1)) (Nat.le_refl _) (by unfold farW; omega)
        have HYS := Lib.hid (HLS.out.append hys)
        have t1 : ¬ (n : Int) = 0 := by omega
        have t2 : ¬ (64 * (k : Int) + 64 ≤ (at_ : Int)) := by omega
        have t3 : ¬ ((at_ : Int) + (n : Int) ≤ 64 * (k : Int)) := by omega
        have hrd := rread_calls wr r D' HRA.out.1 (3 + 64 * (s : Int) + (k : Int))
        clear f1 f2 f3 hys
        rcases readE_cases D' (3 + 64 * (s : Int) + (k : Int)) with ⟨g1, g2, g3, g4⟩ | ⟨g1, g2⟩
        · have HRR : Hid (readR D' (3 + 64 * (s : Int) + (k : Int)) = getR D' x.sec) := by rw [Hid, readR, if_pos ⟨g2, g3, g4⟩, ← HXS.out, Int.toNat_natCast]
          have hr64 : (readR D' (3 + 64 * (s : Int) + (k : Int))).length = 64 := by rw [HRR.out]; exact HRA.out.2.get (by have := HXS.out; omega)
          have HG1 := Lib.hid g1
          rw [g1, hr64] at hrd
          obtain ⟨R, hR⟩ : ∃ R, Hid (R = getR D' x.sec) := ⟨_, rfl⟩
          have HRL : Hid (R.length = 64) := by rw [Hid, hR.out, ← HRR.out]; exact hr64
          rw [HRR.out, ← hR.out] at hrd
          clear g1 g2 g3 g4 hr64
          go_wp2_with fail
          refine (hrd).mono ?_
          rintro e w4 ⟨a4, c4, rfl, hO4, hb4⟩
          obtain ⟨r2, hr2⟩ : ∃ r2 : Rl, Hid (r2 = { r with x := fun k => r.x k ∨ (wr.heap.size ≤ k ∧ k < w4.heap.size) }) := ⟨_, rfl⟩
          have HR4 : Hid (RefAt w4 r2 D') := by rw [Hid, hr2.out]; exact HRA.out.1.more hb4
          have HO4 := Lib.hid hO4
          have HA4 : Hid (∀ g, Go.Cit.blk a4 = some g → r2.x g ∧ wr.heap.size ≤ g) := fun g hg => by rw [hr2.out]; exact ⟨.inr (hO4.blk_ge hg), (hO4.blk_ge hg).1⟩
          have HS4 := Lib.hid (HS.out.trans (Save.of hb4))
          have HRB : Hid (r2.b = r.b ∧ r2.lb = r.lb) := by rw [hr2.out]; exact ⟨rfl, rfl⟩
          have HRLT : Hid (r.b < wr.heap.size ∧ r.lb < wr.heap.size) := by
            obtain ⟨L9, c9, sa9, sc9, hr9⟩ := HRA.out.1
            exact ⟨(Array.getElem?_eq_some_iff.1 hr9.box).1, (Array.getElem?_eq_some_iff.1 hr9.held.blk.choose_spec).1⟩
          have HL2 : Hid (Row w4 a l c) := (HR.out.save' HS4.out HA.out)
          clear hrd hO4 hb4
          go_wp2_with fail
          obtain ⟨wo, hwo⟩ : ∃ wo, wo = wr := ⟨wr, rfl⟩
          subst hwo
          go_loopw [13] (fun j wq => ∃ q : Nat, q ≤ 64 ∧ j = .int .i64 (q : Int) ∧ Hid (Cit.Own 5 wo.heap.size wq a4 (overB R l at_ k q) c4 ∧ RefAt wq r2 D' ∧ Save r.Off w2 wq ∧ Row wq a l c)) (fun j _ => 64 - (intOf j).toNat)
          case atStart => exact ⟨0, by omega, rfl, by rw [overB_zero]; exact HO4.out, HR4.out, HS4.out, HL2.out⟩
          case round =>
            obtain ⟨q, hq, rfl, HI⟩ := hrel
            by_cases hq64 : q < 64
            · by_cases G : at_ ≤ 64 * k + q ∧ 64 * k + q < at_ + n
              · have hu : 64 * k + q - at_ < l.length := by rw [← hn.out]; omega
                have hql : q < (overB R l at_ k q).length := by rw [overB_len, HRL.out]; exact hq64
                have iu := Row.index (P := Tryz.prog) bt.slice bt.sz HI.out.2.2.2 (64 * k + q - at_) hu
                have eu := HI.out.2.2.2.cell (64 * k + q - at_) hu
                rw [← hn.out, show ((64 * k + q - at_ : Nat) : Int) = 64 * (k : Int) + (q : Int) - (at_ : Int) by omega] at iu
                have iq := Row.index (P := Tryz.prog) bt.slice bt.sz HI.out.1.isRow q hql
                have eq := HI.out.1.isRow.cell q hql
                have fq := HI.out.1.frozen q hql
                rw [overB_len, HRL.out] at iq
                obtain ⟨st1, st2⟩ := HI.out.1.stored q hql l[64 * k + q - at_]
                rw [← overB_step R l at_ k q (by rw [HRL.out]; exact hq64) G.1 hu] at st1
                have HST : Hid (Cit.Own 5 wo.heap.size (wr.setCell (ad a4 q) (vb l[64 * k + q - at_])) a4 (overB R l at_ k (q + 1)) c4 ∧ RefAt (wr.setCell (ad a4 q) (vb l[64 * k + q - at_])) r2 D' ∧ Save r.Off w2 (wr.setCell (ad a4 q) (vb l[64 * k + q - at_])) ∧ Row (wr.setCell (ad a4 q) (vb l[64 * k + q - at_])) a l c) := by
                  refine ⟨st1, HI.out.2.1.saveX (Save.grown st2) (fun g _ hg e => hg (HA4.out g e.symm).1), ?_, HI.out.2.2.2.save' (Save.grown st2) (fun hne g hg e => ?_)⟩
                  · exact ((HI.out.2.2.1.less (T := fun g => r.Off g ∧ g < w2.heap.size) (fun _ _ h => h.1)).trans ((Save.grown st2).less (fun g _ hg e => by have h1 := (HA4.out g e.symm).2; have h2 := HS.out.size; have h3 := hg.2; omega))).less (fun g h1 h2 => ⟨h2, h1⟩)
                  · have h1 := (HA4.out g e.symm).2
                    have h2 := HS.out.size
                    obtain ⟨g', off, rfl⟩ := HR.out.spot hne
                    have h3 := HR.out.blk (i := 0) (List.length_pos_iff.2 hne)
                    simp only [ad] at h3
                    simp only [Go.Cit.blk, Option.map_some, Option.some.injEq] at hg
                    omega
                have t4 : (at_ : Int) ≤ 64 * (k : Int) + (q : Int) := by omega
                have t5 : 64 * (k : Int) + (q : Int) < (at_ : Int) + (n : Int) := by omega
                generalize (overB R l at_ k q)[q] = v0 at eq
                generalize l[64 * k + q - at_] = v1 at eu HST
                clear st1 st2 G hu hql
                go_wp2_with fail
                go_roundw
                case rel => exact ⟨q + 1, by omega, by go_num, HST.out⟩
                case measure => simp [intOf]; omega
              · have HSK : Hid (overB R l at_ k (q + 1) = overB R l at_ k q) := by rw [Hid, overB_skip]; rw [← hn.out]; exact G
                by_cases t4 : (at_ : Int) ≤ 64 * (k : Int) + (q : Int)
                · have t5 : ¬ 64 * (k : Int) + (q : Int) < (at_ : Int) + (n : Int) := by omega
                  clear G
                  go_wp2_with fail
                  go_roundw
                  case rel => exact ⟨q + 1, by omega, by go_num, by rw [HSK.out]; exact HI.out⟩
                  case measure => simp [intOf]; omega
                · clear G
                  go_wp2_with fail
                  go_roundw
                  case rel => exact ⟨q + 1, by omega, by go_num, by rw [HSK.out]; exact HI.out⟩
                  case measure => simp [intOf]; omega
            · have hq2 : q = 64 := by omega
              obtain ⟨Y, hY⟩ : ∃ Y, Hid (Y = patchL R x.lo (m.take (x.hi - x.lo))) := ⟨_, rfl⟩
              have HYE : Hid (overB R l at_ k q = Y) := by rw [Hid, hq2, hY.out]; exact overB_all R l at_ k (3 + 64 * s) HRL.out HT.out m HC.out.2.2 x hx.out
              have HYL : Hid (Y.length = 64) := by rw [Hid, ← HYE.out, overB_len, HRL.out]
              have HIY := HI.out
              rw [HYE.out] at HIY
              have HIZ := Lib.hid HIY
              have hw := rwrite_calls wr r2 D' HIZ.out.2.1 (3 + 64 * (s : Int) + (k : Int)) a4 Y c4 HIZ.out.1.isRow (fun _ g hg => by
                have h1 := (HA4.out g hg).2
                have h2 := HRLT.out
                exact ⟨by rw [HRB.out.1]; omega, by rw [HRB.out.2]; omega⟩)
              rw [HYL.out, HRB.out.1] at hw
              have HSE : Hid (stepE D' x = writeE D' (3 + 64 * (s : Int) + (k : Int)) 64) := by rw [Hid, stepE, HXS.out, if_neg (by rw [HG1.out]; decide)]
              have HSTT : Hid (stepT D' m x = writeT D' (3 + 64 * (s : Int) + (k : Int)) Y) := by rw [Hid, stepT, HXS.out, if_neg (by rw [HG1.out]; decide), ← hR.out, hY.out]
              obtain ⟨E, hE⟩ : ∃ E, Hid (E = writeE D' (3 + 64 * (s : Int) + (k : Int)) 64) := ⟨_, rfl⟩
              rw [← hE.out] at hw
              clear HIY hq2
              by_cases e0 : E = 0
              · have HE0 := Lib.hid e0
                rw [e0] at hw
                clear e0
                go_wp2_with fail
                refine (hw).mono ?_
                rintro e w6 ⟨rfl, hR6, hS6⟩
                have HR6 : Hid (RefAt w6 r (stepT D' m x)) := by
                  rw [Hid, HSTT.out]
                  rw [hr2.out] at hR6
                  exact hR6.less (fun g hg => .inl hg)
                have HS6 : Hid (Save r.Off w2 w6) := HIZ.out.2.2.1.trans (hS6.less (fun g _ hg => ⟨by rw [HRB.out.1]; exact hg.1, by rw [HRB.out.2]; exact hg.2⟩))
                clear hw hR6 hS6
                go_wp2_with fail
                go_roundw
                case rel => exact ⟨k + 1, stepT D' m x, m.drop (x.hi - x.lo), pre ++ [x], hlt, by go_num, ⟨HC.out.1.add x (by rw [HSE.out, ← hE.out]; exact HE0.out), HLS.out, HMD.out⟩, ⟨HR6.out, stepT_ok HRA.out.2 m x⟩, HS6.out⟩
                case measure => simp [intOf]; omega
              · have HE0 := Lib.hid e0
                go_wp2_with fail
                refine (hw).mono ?_
                rintro e w6 ⟨rfl, hR6, hS6⟩
                have HR6 : Hid (RefAt w6 r (stepT D' m x)) := by
                  rw [Hid, HSTT.out]
                  rw [hr2.out] at hR6
                  exact hR6.less (fun g hg => .inl hg)
                have HS6 : Hid (Save r.Off w2 w6) := HIZ.out.2.2.1.trans (hS6.less (fun g _ hg => ⟨by rw [HRB.out.1]; exact hg.1, by rw [HRB.out.2]; exact hg.2⟩))
                clear hw hR6 hS6
                have HWR : Hid (wrP D l (pre ++ [x] ++ ys) = (stepT D' m x, E)) := by
                  rw [Hid, HC.out.1.stop x (by rw [HSE.out, ← hE.out]; exact HE0.out) ys, HSE.out, ← hE.out]
                go_wp2_with fail
                go_ret
                exact ⟨pre ++ [x] ++ ys, by rw [hn.out]; exact HYS.out, by rw [HWR.out]; rfl, by rw [HWR.out]; exact HR6.out, HS6.out⟩
        · obtain ⟨E, hE⟩ : ∃ E, Hid (E = readE D' (3 + 64 * (s : Int) + (k : Int))) := ⟨_, rfl⟩
          rw [← hE.out] at hrd g1
          rw [g2, List.length_nil] at hrd
          have HSE : Hid (stepE D' x = E ∧ stepT D' m x = D') := by
            have h9 : readE D' x.sec ≠ 0 := by rw [HXS.out, ← hE.out]; exact g1
            exact ⟨by rw [stepE, if_pos h9, HXS.out, hE.out], by rw [stepT, if_pos h9]⟩
          have HWR : Hid (wrP D l (pre ++ [x] ++ ys) = (D', E)) := by
            rw [Hid, HC.out.1.stop x (by rw [HSE.out.1]; exact g1) ys, HSE.out.1, HSE.out.2]
          clear g2
          go_wp2_with fail
          refine (hrd).mono ?_
          rintro e w4 ⟨a4, c4, rfl, hO4, hb4⟩
          have HR4 := Lib.hid (HRA.out.1.stay hb4)
          have HS4 := Lib.hid (HS.out.trans (Save.of hb4))
          clear hrd hO4 hb4
          go_wp2_with fail
          obtain ⟨wo, hwo⟩ : ∃ wo, wo = wr := ⟨wr, rfl⟩
          subst hwo
          go_loopw [13] (fun j wq => j = .int .i64 0 ∧ Hid (RefAt wq r D' ∧ Save r.Off w2 wq)) (fun _ _ => 0)
          case atStart => exact ⟨rfl, HR4.out, HS4.out⟩
          case round =>
            obtain ⟨rfl, HI⟩ := hrel
            go_wp2_with fail
            go_ret
            exact ⟨pre ++ [x] ++ ys, by rw [hn.out]; exact HYS.out, by rw [HWR.out]; rfl, by rw [HWR.out]; exact HI.out.1, HI.out.2⟩
      · have HFS : Hid (farW at_ (at_ + l.length) (k + 1) = farW at_ (at_ + l.length) k) := far_skip (Nat.le_add_right _ _) (by rw [← hn.out]; exact T)
        have HREL : Hid (∃ (k2 : Nat) (D' : Dk) (m : List UInt8) (pre : List Pc), k2 = k + 1 ∧ (Cont D l pre D' m ∧ Leads (3 + 64 * s) (at_ + l.length) at_ pre (farW at_ (at_ + l.length) (k + 1)) ∧ m = l.drop (farW at_ (at_ + l.length) (k + 1) - at_)) ∧ (RefAt wr r D' ∧ D'.Ok) ∧ (Save r.Off w2 wr)) := ⟨k + 1, D', m, pre, rfl, by rw [HFS.out]; exact HC.out, HRA.out, HS.out⟩
        obtain ⟨k2, D2, m2, pre2, rfl, HC2, HRA2, HS2⟩ := HREL.out
        have HC3 := Lib.hid HC2
        have HRA3 := Lib.hid HRA2
        have HS3 := Lib.hid HS2
        clear HC2 HRA2 HS2
        by_cases t1 : (n : Int) = 0
        · clear T
          go_wp2_with fail
          go_roundw
          case rel => exact ⟨k + 1, D2, m2, pre2, hlt, by go_num, HC3.out, HRA3.out, HS3.out⟩
          case measure => simp [intOf]; omega
        · by_cases t2 : (64 * (k : Int) + 64 ≤ (at_ : Int))
          · clear T
            go_wp2_with fail
            go_roundw
            case rel => exact ⟨k + 1, D2, m2, pre2, hlt, by go_num, HC3.out, HRA3.out, HS3.out⟩
            case measure => simp [intOf]; omega
          · have t3 : ((at_ : Int) + (n : Int) ≤ 64 * (k : Int)) := by omega
            clear T
            go_wp2_with fail
            go_roundw
            case rel => exact ⟨k + 1, D2, m2, pre2, hlt, by go_num, HC3.out, HRA3.out, HS3.out⟩
            case measure => simp [intOf]; omega
    · have hk6 : k = 64 := by omega
      have HEN : Hid (farW at_ (at_ + l.length) k = at_ + l.length) := by rw [Hid, hk6]; exact far_end (Nat.le_add_right _ _) (by rw [← hn.out]; exact hal2)
      have HWR : Hid (wrP D l pre = (D', 0)) := HC.out.1.all
      have HLD : Hid (Leads (3 + 64 * s) (at_ + l.length) at_ pre (at_ + l.length)) := by have := HC.out.2.1; rw [HEN.out] at this; exact this
      clear hk6
      go_wp2_with fail
      go_ret
      exact ⟨pre, by rw [hn.out]; exact HLD.out, by rw [HWR.out]; rfl, by rw [HWR.out]; exact HRA.out.1, HS.out⟩
end Go.Proofs.YtofagofpeedfcaaGreat
