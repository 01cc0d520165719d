/- The reference's disk: falls, Crash, Flush, Write: walked. -/
import Derived.Test.YtofagofpeedfcaaGreatGr
namespace Go.Proofs.YtofagofpeedfcaaGreat
open Go Go.RowKit Go.Cit

set_option maxRecDepth 100000 in
theorem rfalls_calls (w : World) (r : Rl) (D : Dk) (h : RefAt w r D) :
    Calls Tryz.prog 49 #[.pointer (some ⟨r.b, 0, none⟩)] w fun e w' => e = .returned (.bool (decide (D.left = 1))) ∧ RefAt w' r (if D.left = 1 then fallD D.stay D else tickD D) ∧ Save r.Off w w' := by
  obtain ⟨L, c, sa, sc, h⟩ := h
  obtain ⟨_, _, c2, c3, ff⟩ := h.cells
  have hl9 := h.ok.left
  have HH := Lib.hid h
  clear h
  by_cases h0 : D.left = 0
  · rw [if_neg (by omega), decide_eq_false (by omega)]
    have HE : Hid (tickD D = D) := by rw [Hid, tickD]; cases D; simp at h0; simp [h0]
    rw [h0] at c2
    rw [HE.out]
    clear hl9
    go_enter Tryz.func49, Tryz.ntmps49
    go_wp2_with fail
    go_ret
    exact ⟨rfl, ⟨L, c, sa, sc, HH.out⟩, Save.refl _ _⟩
  · obtain ⟨w1, hw1⟩ : ∃ w1, w1 = w.setCell ⟨r.b, 2, none⟩ (.int .i64 ((D.left - 1 : Nat) : Int)) := ⟨_, rfl⟩
    have hs1 : Save (· ≠ r.b) w w1 := by rw [hw1]; exact Save.set
    have hb1 : w1.heap[r.b]? = some (.cells (rdCells r (tickD D) L.length c sa sc) 42 (0, 0)) := by rw [hw1]; exact setCell_in _ HH.out.box
    have HI1 : Hid (RefIn w1 r (tickD D) L c sa sc) := HH.out.turn hs1 rfl rfl (HH.out.ok.same rfl rfl (by show D.left - 1 ≤ _; omega) HH.out.ok.stay) hb1 (HH.out.srow.save hs1 (fun g hg => (HH.out.sin g hg).2.1.1.1)) (HH.out.sin.mono hs1.size)
    have d2 : w1.cell? ⟨r.b, 2, none⟩ = some (.int .i64 ((D.left - 1 : Nat) : Int)) := HI1.out.cells.2.2.1
    have d3 : w1.cell? ⟨r.b, 3, none⟩ = some (.slice sa D.stay.length sc) := HI1.out.cells.2.2.2.1
    have e0 : ((D.left : Int) == 0) = false := by simp; omega
    have HS1 := Lib.hid hs1
    clear hb1 hs1
    by_cases h1 : D.left = 1
    · rw [if_pos h1, decide_eq_true h1]
      have hf := rfall_calls _ r (tickD D) ⟨L, c, sa, sc, HI1.out⟩ sa D.stay sc HI1.out.srow (fun _ g hg => (HI1.out.sin g hg).2.1.1)
      have HE : Hid (fallD D.stay (tickD D) = fallD D.stay D) := rfl
      rw [HE.out] at hf
      have HF := Lib.hid hf
      rw [show ((D.left - 1 : Nat) : Int) = 0 by rw [h1]; rfl] at hw1 d2
      rw [h1] at c2
      clear hf hl9 e0 h0
      generalize D.stay.length = n9 at *
      go_enter Tryz.func49, Tryz.ntmps49
      go_upto_region 4 with fail
      rw [← hw1]
      clear c2 c3 ff hw1
      go_wp2_with fail
      refine (HF.out).mono ?_
      rintro e w3 ⟨rfl, hr3, hs3⟩
      go_wp2_with fail
      go_ret
      exact ⟨rfl, hr3, (HS1.out.less (fun _ _ hk => hk.1)).trans hs3⟩
    · rw [if_neg h1, decide_eq_false h1]
      have hw : wrap64 ((D.left : Int) - 1) = (D.left : Int) - 1 := by unfold wrap64; omega
      have e1 : (D.left : Int) - 1 = ((D.left - 1 : Nat) : Int) := by omega
      rw [← e1] at hw1 d2
      have e2 : (0 : Int) < (D.left : Int) - 1 := by omega
      have e3 : ¬ (D.left : Int) - 1 ≤ 0 := by omega
      have e4 : (1 : Int) < (D.left : Int) := by omega
      have e5 : 1 < D.left := by omega
      clear d3 e1 h0 h1
      go_enter Tryz.func49, Tryz.ntmps49
      go_upto_region 4 with fail
      rw [← hw1]
      clear hw1 c2
      go_wp2_with fail
      go_ret
      exact ⟨rfl, ⟨L, c, sa, sc, HI1.out⟩, HS1.out.less (fun _ _ hk => hk.1)⟩
set_option maxRecDepth 100000 in
theorem rcrash_calls (w : World) (r : Rl) (D : Dk) (h : RefAt w r D) (a : Option Addr) (l : List UInt8) (c9 : Nat) (hr : Row w a l c9) (ha : l ≠ [] → ∀ g, Go.Cit.blk a = some g → r.Off g) :
    Calls Tryz.prog 21 #[.pointer (some ⟨r.b, 0, none⟩), .slice a l.length c9] w fun e w' => e = .returned (.int .i64 (crashE D)) ∧ RefAt w' r (crashT l D) ∧ Save r.Off w w' := by
  have hf := rfall_calls w r D h a l c9 hr ha
  have HR := Lib.hid h
  obtain ⟨L, c, sa, sc, h⟩ := h
  obtain ⟨_, c1, _⟩ := h.cells
  clear h hr ha
  by_cases hu : D.up = true
  · rw [hu] at c1
    rw [show crashE D = 0 by rw [crashE, if_neg (by rw [hu]; simp)], show crashT l D = fallD l D by rw [crashT, if_neg (by rw [hu]; simp)]]
    go_enter Tryz.func21, Tryz.ntmps21
    go_wp2_with fail
    refine (hf).mono ?_
    rintro e w3 ⟨rfl, hD, hs⟩
    go_wp2_with fail
    go_ret
    exact ⟨rfl, hD, hs⟩
  · have hu : D.up = false := by simpa using hu
    rw [hu] at c1
    rw [show crashE D = 60 by rw [crashE, if_pos hu], show crashT l D = D by rw [crashT, if_pos hu]]
    clear hf
    go_enter Tryz.func21, Tryz.ntmps21
    go_wp2_with fail
    go_ret
    exact ⟨rfl, HR.out, Save.refl _ _⟩

def rl7 (r : Rl) (M c k : Nat) (y : Addr) (n1 n2 : Nat) : Nat → Value
  | 30 => (.pointer (some ⟨r.b, 0, none⟩))
  | 31 => (.pointer (some ⟨r.b, 0, none⟩))
  | 32 => (.pointer (some ⟨r.b, 0, none⟩))
  | 33 => (.slice (some ⟨r.lb, 0, none⟩) M c)
  | 34 => (.int .i64 (k : Int))
  | 35 => (.pointer (some ⟨r.b, 0, none⟩))
  | 36 => (.pointer (some ⟨r.b, 0, none⟩))
  | 37 => (.pointer (some ⟨r.b, 0, none⟩))
  | 38 => (.slice (some ⟨r.lb, 0, none⟩) M c)
  | 39 => (.int .i64 (k : Int))
  | 40 => (.pointer (some ⟨r.lb, k * 2, none⟩))
  | 41 => (.pointer (some ⟨r.lb, k * 2 + 1, none⟩))
  | 42 => (.slice (some y) n1 n2)
  | 43 => (.pointer (some ⟨r.lb, k * 2, none⟩))
  | 44 => (.pointer (some ⟨r.lb, k * 2, none⟩))
  | _ => undef
def rl7o (r : Rl) (_ _ k : Nat) (_ : Addr) (_ _ : Nat) : Nat → Value
  | 0 => (.pointer (some ⟨r.b, 0, none⟩))
  | 3 => (.int .i64 (k : Int))
  | _ => undef
set_option maxRecDepth 100000 in
set_option maxHeartbeats 2000000 in
theorem rflush_go (w0 : World) (r : Rl) (D0 : Dk) (h0 : RefAt w0 r D0) (hu : D0.up = true) (hl1 : D0.left ≠ 1) :
    Calls Tryz.prog 19 #[.pointer (some ⟨r.b, 0, none⟩)] w0 fun e w' => e = .returned (.int .i64 0) ∧ RefAt w' r (flushD (tickD D0)) ∧ Save r.Off w0 w' := by
  have hfl := rfalls_calls w0 r D0 h0
  rw [if_neg hl1, decide_eq_false hl1] at hfl
  have c1 : w0.cell? ⟨r.b, 1, none⟩ = some (.bool false) := by
    obtain ⟨L, c, sa, sc, h⟩ := h0
    have := h.cells.2.1
    rwa [hu] at this
  obtain ⟨D, hD⟩ : ∃ D, D = tickD D0 := ⟨_, rfl⟩
  rw [← hD] at hfl ⊢
  clear h0 hu hl1 hD
  have hen := nilSl
  go_enter Tryz.func19, Tryz.ntmps19
  go_wp2_with fail
  refine (hfl).mono ?_
  rintro e w ⟨rfl, hRA, hSA⟩
  obtain ⟨L0, c, sa, sc, h⟩ := hRA
  have HLN : Hid (L0.length = D.C.length) := by rw [Hid, h.len, h.ok.len]
  have hfew : D.C.length ≤ 1024 := by rw [h.ok.len]; exact h.ok.few
  have HH := Lib.hid h
  have HSA := Lib.hid hSA
  clear h c1 hfl hSA
  go_wp2_with fail
  go_loopw [3] (fun i wr => ∃ (k : Nat) (L : List Ro), k ≤ D.C.length ∧ i = .int .i64 (k : Int) ∧ Hid (L.length = D.C.length) ∧ Hid (RefIn wr r (midD (fun _ => true) D k) L c sa sc ∧ Save r.Off w wr)) (fun i _ => D.C.length - (intOf i).toNat)
  case atStart => exact ⟨0, L0, Nat.zero_le _, rfl, HLN, by rw [Hid, midD_zero]; exact ⟨HH.out, Save.refl _ _⟩⟩
  case round =>
    obtain ⟨k, L, hk, rfl, HL, HI⟩ := hrel
    obtain ⟨c0, _, _, _, ff⟩ := HI.out.1.cells
    rw [HL.out] at c0
    by_cases hlt : k < D.C.length
    · have hx := fun w => ro_index r.lb D.C.length c k hlt w
      have hkL : k < L.length := by rw [HL.out]; exact hlt
      obtain ⟨e0, e1⟩ := HI.out.1.elem k hkL
      have hca : D.C[k] = (L[k]).cache := by
        have h1 := midC_at D.C k hlt
        have h2 : (midD (fun _ => true) D k).C[k]? = some D.C[k] := h1
        rw [HI.out.1.hC, List.getElem?_map, List.getElem?_eq_getElem hkL] at h2
        exact (Option.some.inj h2).symm
      obtain ⟨x, hx0⟩ : ∃ x, Hid (x = L[k]) := ⟨L[k], rfl⟩
      rw [← hx0.out] at e0 e1 hca
      cases hka : x.ka with
      | none =>
        have HE : Hid (midD (fun _ => true) D (k + 1) = midD (fun _ => true) D k) := midD_none _ _ _ hlt (by rw [hca, Ro.cache, hka]; rfl)
        rw [hka] at e1
        clear hka hca e0
        go_wp2_with fail
        go_roundw
        case rel => exact ⟨k + 1, L, hlt, by go_num, HL, by rw [Hid, HE.out]; exact HI.out⟩
        case measure => simp [intOf]; omega
      | some y =>
        obtain ⟨_, HM0⟩ := midD_some (fun _ => true) D k hlt x.k (by rw [hca, Ro.cache, hka]; rfl)
        rw [hka] at e1
        have HF64 : Hid (x.f.length = 64) := by rw [Hid, hx0.out]; exact HI.out.1.fl k hkL
        have HK64 : Hid (x.k.length = 64) := by rw [Hid, hx0.out]; exact HI.out.1.kl k hkL (by rw [← hx0.out, hka]; simp)
        have HKA := Lib.hid hka
        clear hka hca
        obtain ⟨b, hb⟩ : ∃ b : Bool, Hid (b = true) := ⟨true, rfl⟩
        have HM : Hid (midD (fun _ => true) D (k + 1) = { midD (fun _ => true) D k with S := if b then (midD (fun _ => true) D k).S.set k x.k else (midD (fun _ => true) D k).S, C := (midD (fun _ => true) D k).C.set k none }) := by rw [Hid, HM0, hb.out]
        clear HM0
        -- what it comes to behind both stores
        have HX : Hid (∀ w1 L1, RefIn w1 r { midD (fun _ => true) D k with S := if b then (midD (fun _ => true) D k).S.set k x.k else (midD (fun _ => true) D k).S } L1 c sa sc → Save r.Off w w1 → L1.length = D.C.length →
            ∃ L2, L2.length = D.C.length ∧ RefIn (w1.setCell ⟨r.lb, k * 2 + 1, none⟩ (.slice none 0 0)) r (midD (fun _ => true) D (k + 1)) L2 c sa sc ∧ Save r.Off w (w1.setCell ⟨r.lb, k * 2 + 1, none⟩ (.slice none 0 0))) := fun w1 L1 h1 hs1 hl1 => by
          have hk1 : k < L1.length := by rw [hl1]; exact hlt
          refine ⟨L1.set k { L1[k] with k := [], ka := none, kc := 0 }, by rw [List.length_set]; exact hl1, ?_, hs1.trans (Save.set.less (fun _ _ hk => hk.2))⟩
          refine h1.put Save.set ((ro_set h1.held hk1).2 [] none 0) (by rw [List.length_set]) ?_ ?_ ?_ (by rw [HM.out]) (by rw [HM.out]) (by rw [HM.out]) (midD_ok _ _ HH.out.ok _ hlt)
          · intro z hz
            rcases List.mem_or_eq_of_mem_set hz with hz | rfl
            · exact (h1.rows z hz).save (T := (· ≠ r.lb)) Save.set (fun _ _ hk => hk.2)
            · have h2 := (h1.rows L1[k] (List.getElem_mem hk1)).save (T := (· ≠ r.lb)) (Save.set (w := w1) (i := k * 2 + 1) (v := .slice none 0 0)) (fun _ _ hk => hk.2)
              exact ⟨h2.rf, Row.nil_ _, h2.inf, fun g hg => by simp [Go.Cit.blk] at hg⟩
          · rw [HM.out]
            have h2 := h1.hS
            rw [List.map_set]
            show (if b then _ else _) = (L1.map (·.f)).set k L1[k].f
            rw [show L1[k].f = (L1.map (·.f))[k]'(by simpa using hk1) by simp, List.set_getElem_self]
            exact h2
          · rw [HM.out, List.map_set]
            show (midD (fun _ => true) D k).C.set k none = (L1.map Ro.cache).set k none
            rw [← h1.hC]
        have E0 : Hid (∀ q : After wr, q.to.cell? ⟨r.b, 0, none⟩ = some (.slice (some ⟨r.lb, 0, none⟩) D.C.length c)) := fun q => After.cell c0 q
        have E1 : Hid (∀ q : After wr, q.to.cell? ⟨r.lb, k * 2 + 1, none⟩ = some (.slice (some y) x.k.length x.kc)) := fun q => After.cell e1 q
        have EX := Lib.hid hx
        obtain ⟨L1, hL1⟩ : ∃ L1, Hid (L1 = L.set k { L[k] with f := x.k, fa := some y, fc := x.kc }) := ⟨L.set k { L[k] with f := x.k, fa := some y, fc := x.kc }, rfl⟩
        have EST : Hid (∀ wx, Cit.Alike wr wx → ∃ w', (Instr.storeAt 31 (.pointer (some ⟨r.lb, k * 2, none⟩)) (.slice (some y) x.k.length x.kc)).run Tryz.prog wx = .ok () w' ∧ Held cRo 2 44 w' r.lb L1 c ∧ Save (· ≠ r.lb) wr w') := fun wx ha => by
          have hI := HI.out.1.stay ha.1
          have h1 := (hI.elem k hkL).1
          refine ⟨_, store_slice (fun w => by kernel_rfl) h1 (hI.held.free _), ?_, (Save.of ha.1).trans Save.set⟩
          rw [hL1.out]
          exact (ro_set hI.held hkL).1 x.k (some y) x.kc
        have HLL : Hid (∀ wz, Held cRo 2 44 wz r.lb L1 c → Save (· ≠ r.lb) wr wz → b = true → RefIn wz r { midD (fun _ => true) D k with S := if b then (midD (fun _ => true) D k).S.set k x.k else (midD (fun _ => true) D k).S } L1 c sa sc) := fun wz hh hs hb1 => by
          refine HI.out.1.put hs hh (by rw [hL1.out, List.length_set]) ?_ ?_ ?_ rfl rfl rfl ?_
          · intro z hz
            rw [hL1.out] at hz
            rcases List.mem_or_eq_of_mem_set hz with hz | rfl
            · exact (HI.out.1.rows z hz).save hs (fun _ _ hk => hk.2)
            · have h2 := (HI.out.1.rows L[k] (List.getElem_mem hkL)).save hs (fun _ _ hk => hk.2)
              have h3 : L[k].k = x.k ∧ L[k].ka = some y ∧ L[k].kc = x.kc := ⟨by rw [hx0.out], by rw [← hx0.out]; exact HKA.out, by rw [hx0.out]⟩
              have h4 := h2.rk
              have h5 := h2.ink
              rw [h3.1, h3.2.1, h3.2.2] at h4
              rw [h3.2.1] at h5
              exact ⟨h4, h2.rk, h5, h2.ink⟩
          · rw [hb1, hL1.out, List.map_set]
            show (midD (fun _ => true) D k).S.set k x.k = (L.map (·.f)).set k x.k
            rw [← HI.out.1.hS]
          · rw [hL1.out, List.map_set]
            show (midD (fun _ => true) D k).C = (L.map Ro.cache).set k (Ro.cache { L[k] with f := x.k, fa := some y, fc := x.kc })
            rw [show Ro.cache { L[k] with f := x.k, fa := some y, fc := x.kc } = (L.map Ro.cache)[k]'(by simpa using hkL) by simp [Ro.cache], List.set_getElem_self]
            exact HI.out.1.hC
          · rw [hb1]
            have h0 := midD_ok (fun _ => true) D HH.out.ok k hk
            refine ⟨fun z hz => ?_, h0.cac, by show _ = ((midD (fun _ => true) D k).S.set k x.k).length; rw [List.length_set]; exact h0.len, by show ((midD (fun _ => true) D k).S.set k x.k).length ≤ _; rw [List.length_set]; exact h0.few, by show 0 < ((midD (fun _ => true) D k).S.set k x.k).length; rw [List.length_set]; exact h0.pos, h0.left, h0.stay⟩
            rcases List.mem_or_eq_of_mem_set hz with hz | rfl
            · exact h0.sec z hz
            · exact HK64.out
        have HL1L : Hid (L1.length = D.C.length) := by rw [Hid, hL1.out, List.length_set]; exact HL.out
        have hb0 := hb.out
        subst hb0
        generalize x.k.length = n1 at *
        generalize x.kc = n2 at *
        go_upto_region 7 with fail
        clear c0 e1 hx
        refine wp_region_once (rl7 r D.C.length c k y n1 n2) (rl7o r D.C.length c k y n1 n2) [0, 3] 15 (fun wx => Held cRo 2 44 wx r.lb L1 c ∧ Save (· ≠ r.lb) wr wx) (by kernel_rfl) (by kernel_rfl) (by decide) ⟨rfl, rfl, trivial⟩ ?_ ?_
        · refine opsAll_cons ?_ (opsAll_cons ?_ (opsAll_cons ?_ (opsAll_cons ?_ (opsAll_cons ?_ (opsAll_cons ?_ (opsAll_cons ?_ (opsAll_cons ?_ (opsAll_cons ?_ (opsAll_cons ?_ (opsAll_cons ?_ (opsAll_cons ?_ (opsAll_cons ?_ (opsAll_cons ?_ (opsAll_cons ?_ (opsAll_cons ?_ opsAll_nil)))))))))))))))
          all_goals intro a hk
          · exact ⟨wanted_free rfl, .inr ⟨by decide, fun wx hst => gp_move (.tmp 0) rfl ⟨rfl, (show a.eval (.tmp 0) = (.pointer (some ⟨r.b, 0, none⟩)) from hk.old 0 (by kernel_rfl))⟩⟩⟩
          · exact ⟨wanted_free rfl, .inr ⟨by decide, fun wx hst => gp_nil (.tmp 30) rfl (show a.eval (.tmp 30) = (.pointer (some ⟨r.b, 0, none⟩)) from hk.slot 30 (by kernel_rfl)) ⟨rfl, rfl⟩⟩⟩
          · exact ⟨wanted_free rfl, .inr ⟨by decide, fun wx hst => gp_field (.tmp 31) rfl (show a.eval (.tmp 31) = (.pointer (some ⟨r.b, 0, none⟩)) from hk.slot 31 (by kernel_rfl)) (v := (.pointer (some ⟨r.b, 0, none⟩))) (fun w => by kernel_rfl) ⟨rfl, rfl⟩⟩⟩
          · exact ⟨wanted_free rfl, .inr ⟨by decide, fun wx hst => gp_load (.tmp 32) rfl (show a.eval (.tmp 32) = (.pointer (some ⟨r.b, 0, none⟩)) from hk.slot 32 (by kernel_rfl)) (v := (.slice (some ⟨r.lb, 0, none⟩) D.C.length c)) ((fun (q : After _) => load_at (fun w => by kernel_rfl) (E0.out q)) ⟨wx, (hst (by kernel_rfl)).1⟩) ⟨rfl, rfl⟩⟩⟩
          · exact ⟨wanted_free rfl, .inr ⟨by decide, fun wx hst => gp_move (.tmp 3) rfl ⟨rfl, (show a.eval (.tmp 3) = (.int .i64 (k : Int)) from hk.old 3 (by kernel_rfl))⟩⟩⟩
          · exact ⟨wanted_free rfl, .inr ⟨by decide, fun wx hst => gp_move (.tmp 0) rfl ⟨rfl, (show a.eval (.tmp 0) = (.pointer (some ⟨r.b, 0, none⟩)) from hk.old 0 (by kernel_rfl))⟩⟩⟩
          · exact ⟨wanted_free rfl, .inr ⟨by decide, fun wx hst => gp_nil (.tmp 35) rfl (show a.eval (.tmp 35) = (.pointer (some ⟨r.b, 0, none⟩)) from hk.slot 35 (by kernel_rfl)) ⟨rfl, rfl⟩⟩⟩
          · exact ⟨wanted_free rfl, .inr ⟨by decide, fun wx hst => gp_field (.tmp 36) rfl (show a.eval (.tmp 36) = (.pointer (some ⟨r.b, 0, none⟩)) from hk.slot 36 (by kernel_rfl)) (v := (.pointer (some ⟨r.b, 0, none⟩))) (fun w => by kernel_rfl) ⟨rfl, rfl⟩⟩⟩
          · exact ⟨wanted_free rfl, .inr ⟨by decide, fun wx hst => gp_load (.tmp 37) rfl (show a.eval (.tmp 37) = (.pointer (some ⟨r.b, 0, none⟩)) from hk.slot 37 (by kernel_rfl)) (v := (.slice (some ⟨r.lb, 0, none⟩) D.C.length c)) ((fun (q : After _) => load_at (fun w => by kernel_rfl) (E0.out q)) ⟨wx, (hst (by kernel_rfl)).1⟩) ⟨rfl, rfl⟩⟩⟩
          · exact ⟨wanted_free rfl, .inr ⟨by decide, fun wx hst => gp_move (.tmp 3) rfl ⟨rfl, (show a.eval (.tmp 3) = (.int .i64 (k : Int)) from hk.old 3 (by kernel_rfl))⟩⟩⟩
          · exact ⟨wanted_free rfl, .inr ⟨by decide, fun wx hst => gp_index (.tmp 38) (.tmp 39) rfl (show a.eval (.tmp 38) = (.slice (some ⟨r.lb, 0, none⟩) D.C.length c) from hk.slot 38 (by kernel_rfl)) (show a.eval (.tmp 39) = (.int .i64 (k : Int)) from hk.slot 39 (by kernel_rfl)) (v := (.pointer (some ⟨r.lb, k * 2, none⟩))) (EX.out wx) ⟨rfl, rfl⟩⟩⟩
          · exact ⟨wanted_free rfl, .inr ⟨by decide, fun wx hst => gp_field (.tmp 40) rfl (show a.eval (.tmp 40) = (.pointer (some ⟨r.lb, k * 2, none⟩)) from hk.slot 40 (by kernel_rfl)) (v := (.pointer (some ⟨r.lb, k * 2 + 1, none⟩))) (fun w => by kernel_rfl) ⟨rfl, rfl⟩⟩⟩
          · exact ⟨wanted_free rfl, .inr ⟨by decide, fun wx hst => gp_load (.tmp 41) rfl (show a.eval (.tmp 41) = (.pointer (some ⟨r.lb, k * 2 + 1, none⟩)) from hk.slot 41 (by kernel_rfl)) (v := (.slice (some y) n1 n2)) ((fun (q : After _) => load_at (fun w => by kernel_rfl) (E1.out q)) ⟨wx, (hst (by kernel_rfl)).1⟩) ⟨rfl, rfl⟩⟩⟩
          · exact ⟨wanted_free rfl, .inr ⟨by decide, fun wx hst => gp_index (.tmp 33) (.tmp 34) rfl (show a.eval (.tmp 33) = (.slice (some ⟨r.lb, 0, none⟩) D.C.length c) from hk.slot 33 (by kernel_rfl)) (show a.eval (.tmp 34) = (.int .i64 (k : Int)) from hk.slot 34 (by kernel_rfl)) (v := (.pointer (some ⟨r.lb, k * 2, none⟩))) (EX.out wx) ⟨rfl, rfl⟩⟩⟩
          · exact ⟨wanted_free rfl, .inr ⟨by decide, fun wx hst => gp_field (.tmp 43) rfl (show a.eval (.tmp 43) = (.pointer (some ⟨r.lb, k * 2, none⟩)) from hk.slot 43 (by kernel_rfl)) (v := (.pointer (some ⟨r.lb, k * 2, none⟩))) (fun w => by kernel_rfl) ⟨rfl, rfl⟩⟩⟩
          · refine ⟨wanted_free rfl, .inl ⟨rfl, fun wx hst => ?_⟩⟩
            refine gp_store (.tmp 44) (.tmp 42) rfl (show a.eval (.tmp 44) = (.pointer (some ⟨r.lb, k * 2, none⟩)) from hk.slot 44 (by kernel_rfl)) (show a.eval (.tmp 42) = (.slice (some y) n1 n2) from hk.slot 42 (by kernel_rfl)) (EST.out wx hst).choose_spec.1 ⟨(EST.out wx hst).choose_spec.2, trivial⟩
        intro a wz hfin hsame hall
        have he := act_same hsame [30, 31, 32, 33, 34, 35, 36, 37, 38, 39, 40, 41, 42, 43, 44] (by kernel_rfl)
        simp only [List.foldl_cons, List.foldl_nil] at he
        generalize a.eval (.tmp 30) = y30 at he
        generalize a.eval (.tmp 31) = y31 at he
        generalize a.eval (.tmp 32) = y32 at he
        generalize a.eval (.tmp 33) = y33 at he
        generalize a.eval (.tmp 34) = y34 at he
        generalize a.eval (.tmp 35) = y35 at he
        generalize a.eval (.tmp 36) = y36 at he
        generalize a.eval (.tmp 37) = y37 at he
        generalize a.eval (.tmp 38) = y38 at he
        generalize a.eval (.tmp 39) = y39 at he
        generalize a.eval (.tmp 40) = y40 at he
        generalize a.eval (.tmp 41) = y41 at he
        generalize a.eval (.tmp 42) = y42 at he
        generalize a.eval (.tmp 43) = y43 at he
        generalize a.eval (.tmp 44) = y44 at he
        simp only [put_lit] at he
        dsimp only [List.set_cons_zero, List.set_cons_succ] at he
        subst he
        clear hsame hall
        obtain ⟨hfh, hfs⟩ := hfin
        have HZ := Lib.hid (HLL.out wz hfh hfs rfl)
        have HZS := Lib.hid (HI.out.2.trans (hfs.less (fun _ _ hk => hk.2)))
        have hx := EX.out
        obtain ⟨c0, _⟩ := HZ.out.cells
        rw [HL1L.out] at c0
        have e1 := (HZ.out.elem k (by rw [HL1L.out]; exact hlt)).2
        have ff2 := fun j => HZ.out.held.free j
        generalize (L1[k]'(by rw [HL1L.out]; exact hlt)) = z at e1
        generalize Value.slice z.ka z.k.length z.kc = zz at e1
        clear hfh hfs
        go_wp2_with fail
        obtain ⟨L2, hl2, hr2, hs2⟩ := HX.out wz L1 HZ.out HZS.out HL1L.out
        go_roundw
        case rel => exact ⟨k + 1, L2, hlt, by go_num, hl2, hr2, hs2⟩
        case measure => simp [intOf]; omega
    · have HE : Hid (midD (fun _ => true) D k = flushD D) := by rw [Hid, show k = D.C.length by omega, midD_end]; rfl
      rw [HE.out] at HI
      go_wp2_with fail
      go_ret
      exact ⟨rfl, ⟨L, c, sa, sc, HI.out.1⟩, HSA.out.trans HI.out.2⟩
set_option maxRecDepth 100000 in
theorem rflush_calls (w : World) (r : Rl) (D : Dk) (h : RefAt w r D) :
    Calls Tryz.prog 19 #[.pointer (some ⟨r.b, 0, none⟩)] w fun e w' => e = .returned (.int .i64 (flushE D)) ∧ RefAt w' r (flushT D) ∧ Save r.Off w w' := by
  by_cases hu : D.up = true
  · by_cases hl : D.left = 1
    · rw [show flushE D = 60 by rw [flushE, if_pos (.inr hl)], show flushT D = fallD D.stay D by rw [flushT, if_neg (by rw [hu]; simp), if_pos hl]]
      have hfl := rfalls_calls w r D h
      rw [if_pos hl, decide_eq_true hl] at hfl
      have c1 : w.cell? ⟨r.b, 1, none⟩ = some (.bool false) := by
        obtain ⟨L, c, sa, sc, h⟩ := h
        have := h.cells.2.1
        rwa [hu] at this
      clear h hl
      go_enter Tryz.func19, Tryz.ntmps19
      go_wp2_with fail
      refine (hfl).mono ?_
      rintro e w3 ⟨rfl, hR, hs⟩
      go_wp2_with fail
      go_ret
      exact ⟨rfl, hR, hs⟩
    · rw [show flushE D = 0 by rw [flushE, if_neg (by rw [hu]; simp [hl])], show flushT D = flushD (tickD D) by rw [flushT, if_neg (by rw [hu]; simp), if_neg hl]]
      exact rflush_go w r D h hu hl
  · have hu : D.up = false := by simpa using hu
    rw [show flushE D = 60 by rw [flushE, if_pos (.inl hu)], show flushT D = D by rw [flushT, if_pos hu]]
    have c1 : w.cell? ⟨r.b, 1, none⟩ = some (.bool true) := by
      obtain ⟨L, c, sa, sc, h⟩ := h
      have := h.cells.2.1
      rwa [hu] at this
    have HR := Lib.hid h
    clear h
    go_enter Tryz.func19, Tryz.ntmps19
    go_wp2_with fail
    go_ret
    exact ⟨rfl, HR.out, Save.refl _ _⟩
def rwFin (w : World) (r : Rl) (L : List Ro) (k : Nat) (hk : k < L.length) (l : List UInt8) (c : Nat) (wx : World) : Prop :=
  ∃ a9 c8, a9 ≠ none ∧ Held cRo 2 44 wx r.lb (L.set k { L[k] with k := l, ka := a9, kc := c8 }) c ∧ Row wx a9 l c8 ∧ (∀ g, Go.Cit.blk a9 = some g → w.heap.size ≤ g ∧ g < wx.heap.size) ∧ Save (· ≠ r.lb) w wx
def rwSt (w : World) (r : Rl) (L : List Ro) (k : Nat) (hk : k < L.length) (l : List UInt8) (c : Nat) : List Value → World → Prop
  | [], wx => Cit.Alike w wx
  | [v], wx => ∃ a9 c8, v = .slice a9 64 c8 ∧ Cit.Own 5 w.heap.size wx a9 l c8 ∧ Below w.heap.size w wx
  | _ :: _ :: _, wx => rwFin w r L k hk l c wx
def rw9 (r : Rl) (M c k : Nat) (a : Option Addr) (c9 : Nat) : Nat → Value
  | 31 => (.pointer (some ⟨r.b, 0, none⟩))
  | 32 => (.pointer (some ⟨r.b, 0, none⟩))
  | 33 => (.pointer (some ⟨r.b, 0, none⟩))
  | 34 => (.slice (some ⟨r.lb, 0, none⟩) M c)
  | 35 => (.int .i64 (k : Int))
  | 36 => (.slice a 64 c9)
  | 38 => (.pointer (some ⟨r.lb, k * 2, none⟩))
  | 39 => (.pointer (some ⟨r.lb, k * 2 + 1, none⟩))
  | _ => undef
def rw9o (r : Rl) (_ _ k : Nat) (a : Option Addr) (c9 : Nat) : Nat → Value
  | 0 => (.pointer (some ⟨r.b, 0, none⟩))
  | 1 => (.int .i64 (k : Int))
  | 2 => (.slice a 64 c9)
  | _ => undef
set_option maxRecDepth 100000 in
set_option maxHeartbeats 2000000 in
theorem rwrite_does (w0 : World) (r : Rl) (D0 : Dk) (h0 : RefAt w0 r D0) (k : Nat) (hkD : k < D0.S.length) (hu : D0.up = true) (hl1 : D0.left ≠ 1) (a : Option Addr) (l : List UInt8) (c9 : Nat) (h64 : l.length = 64) (hr : Row w0 a l c9) (ha : l ≠ [] → ∀ g, Go.Cit.blk a = some g → r.Off g) :
    Calls Tryz.prog 37 #[.pointer (some ⟨r.b, 0, none⟩), .int .i64 (k : Int), .slice a 64 c9] w0 fun e w' => e = .returned (.int .i64 0) ∧ RefAt w' r (putD k l (tickD D0)) ∧ Save r.Off w0 w' := by
  have hfl := rfalls_calls w0 r D0 h0
  rw [if_neg hl1, decide_eq_false hl1] at hfl
  obtain ⟨c0, c1, hN0⟩ : (∃ c, w0.cell? ⟨r.b, 0, none⟩ = some (.slice (some ⟨r.lb, 0, none⟩) D0.S.length c)) ∧ w0.cell? ⟨r.b, 1, none⟩ = some (.bool false) ∧ D0.S.length ≤ 1024 := by
    obtain ⟨L, c, sa, sc, h⟩ := h0
    have h1 := h.cells.2.1
    have h2 := h.cells.1
    rw [hu] at h1
    rw [h.len] at h2
    exact ⟨⟨c, h2⟩, h1, h.ok.few⟩
  obtain ⟨cc, c0⟩ := c0
  obtain ⟨D, hD⟩ : ∃ D, D = tickD D0 := ⟨_, rfl⟩
  have hS : D.S.length = D0.S.length := by rw [hD]; rfl
  rw [← hD] at hfl ⊢
  rw [← hS] at c0 hkD hN0
  have HR0 := Lib.hid hr
  clear h0 hu hl1 hD hS hr
  have t1 : ¬ (k : Int) ≥ D.S.length := by omega
  have t2 : ¬ (D.S.length : Int) ≤ k := by omega
  have t3 : ¬ D.S.length ≤ k := by omega
  go_enter Tryz.func37, Tryz.ntmps37
  go_wp2_with fail
  refine (hfl).mono ?_
  rintro e w ⟨rfl, hRA, hSA⟩
  obtain ⟨L, c, sa, sc, h⟩ := hRA
  have hkL : k < L.length := by rw [h.len]; exact hkD
  have HH := Lib.hid h
  have HSA := Lib.hid hSA
  have HR := Lib.hid (HR0.out.save' hSA ha)
  obtain ⟨d0, _⟩ := h.cells
  have E0 : Hid (∀ q : After w, q.to.cell? ⟨r.b, 0, none⟩ = some (.slice (some ⟨r.lb, 0, none⟩) L.length c)) := fun q => After.cell d0 q
  have EX : Hid (∀ w, (Instr.indexAt 40 (.slice (some ⟨r.lb, 0, none⟩) L.length c) (.int .i64 (k : Int))).run Tryz.prog w = .ok (.pointer (some ⟨r.lb, k * 2, none⟩)) w) := fun w => ro_index r.lb L.length c k hkL w
  have WSt0 : ∀ w', Cit.Alike w w' → rwSt w r L k hkL l c [] w' := fun _ h => h
  have WBE : Hid (∀ vs wx, rwSt w r L k hkL l c vs wx → vs.length ≤ 1 → Below w.heap.size w wx) := fun vs wx h hl => by
    match vs, h, hl with
    | [], h, _ => exact h.1
    | [v], h, _ => obtain ⟨_, _, _, _, hb⟩ := h; exact hb
    | _ :: _ :: _, _, hl => simp at hl
  have WCP : Hid (∀ wx, Below w.heap.size w wx → Calls Tryz.prog 9 #[.slice a 64 c9] wx fun e w' => ∃ a' c', e = .returned (.slice a' 64 c') ∧ Cit.Own 5 wx.heap.size w' a' l c' ∧ Below wx.heap.size wx w') := fun wx hb => by
    have := copy_calls wx a l c9 (HR.out.stay hb) (by omega)
    rwa [h64] at this
  have WS1 : Hid (∀ vs wx w9 a9 c8, rwSt w r L k hkL l c vs wx → vs.length = 0 → Cit.Own 5 wx.heap.size w9 a9 l c8 → Below wx.heap.size wx w9 → rwSt w r L k hkL l c (vs ++ [.slice a9 64 c8]) w9) := fun vs wx w9 a9 c8 h hl hO hb => by
    obtain rfl : vs = [] := List.eq_nil_of_length_eq_zero hl
    have hs : wx.heap.size = w.heap.size := by rw [h.2]
    rw [hs] at hO hb
    exact ⟨a9, c8, rfl, hO, h.1.trans hb⟩
  have WS1v : Hid (∀ vs wx, rwSt w r L k hkL l c vs wx → vs.length = 1 → ∃ a9 c8, vs = [.slice a9 64 c8] ∧ Cit.Own 5 w.heap.size wx a9 l c8 ∧ Below w.heap.size w wx) := fun vs wx h hl => by
    match vs, h, hl with
    | [v], h, _ => obtain ⟨a9, c8, rfl, hO, hb⟩ := h; exact ⟨a9, c8, rfl, hO, hb⟩
  have WST : Hid (∀ wx a9 c8, Below w.heap.size w wx → (Instr.storeAt 31 (.pointer (some ⟨r.lb, k * 2 + 1, none⟩)) (.slice a9 64 c8)).run Tryz.prog wx = .ok () (wx.setCell ⟨r.lb, k * 2 + 1, none⟩ (.slice a9 64 c8))) := fun wx a9 c8 hb => by
    have hI := HH.out.stay hb
    exact store_slice (fun w => by kernel_rfl) (hI.elem k hkL).2 (hI.held.free _)
  have WFI : Hid (∀ wx a9 c8, Cit.Own 5 w.heap.size wx a9 l c8 → Below w.heap.size w wx → rwSt w r L k hkL l c [.slice a9 64 c8, undef] (wx.setCell ⟨r.lb, k * 2 + 1, none⟩ (.slice a9 64 c8))) := fun wx a9 c8 hO hb => by
    have hI := HH.out.stay hb
    have hlb := (Array.getElem?_eq_some_iff.1 HH.out.held.blk.choose_spec).1
    refine ⟨a9, c8, fun e => ?_, ?_, hO.isRow.save (S := (· ≠ r.lb)) Save.set (fun g hg => ?_), fun g hg => ⟨(hO.blk_ge hg).1, by simpa [World.setCell] using (hO.blk_ge hg).2⟩, (Save.of hb).trans Save.set⟩
    · subst e
      have h1 := hO.isRow.nil rfl
      have h2 := hO.isRow.le
      omega
    · have := (ro_set hI.held hkL).2 l a9 c8
      rwa [h64] at this
    · have := (hO.blk_ge hg).1; omega
  clear h c0 c1 hfl hSA d0
  go_upto_region 9 with fail
  refine wp_region_line (rw9 r L.length c k a c9) (rw9o r L.length c k a c9) [0, 1, 2] [6, 9] (rwSt w r L k hkL l c) (by kernel_rfl) (by kernel_rfl) (by kernel_rfl) ⟨rfl, rfl, rfl, trivial⟩ WSt0 ?_ ?_
  · refine opsAll_cons ?_ (opsAll_cons ?_ (opsAll_cons ?_ (opsAll_cons ?_ (opsAll_cons ?_ (opsAll_cons ?_ (opsAll_cons ?_ (opsAll_cons ?_ (opsAll_cons ?_ (opsAll_cons ?_ opsAll_nil)))))))))
    all_goals intro a_ vs hk
    · exact ⟨wanted_free rfl, .inr ⟨by decide, fun s1 s2 hle wx hst => gp_move (.tmp 0) rfl ⟨rfl, (show a_.eval (.tmp 0) = (.pointer (some ⟨r.b, 0, none⟩)) from hk.old 0 (by kernel_rfl))⟩⟩⟩
    · exact ⟨wanted_free rfl, .inr ⟨by decide, fun s1 s2 hle wx hst => gp_nil (.tmp 31) rfl (show a_.eval (.tmp 31) = (.pointer (some ⟨r.b, 0, none⟩)) from hk.slot 31 (by kernel_rfl) (by kernel_rfl)) ⟨rfl, rfl⟩⟩⟩
    · exact ⟨wanted_free rfl, .inr ⟨by decide, fun s1 s2 hle wx hst => gp_field (.tmp 32) rfl (show a_.eval (.tmp 32) = (.pointer (some ⟨r.b, 0, none⟩)) from hk.slot 32 (by kernel_rfl) (by kernel_rfl)) (v := (.pointer (some ⟨r.b, 0, none⟩))) (fun w => by kernel_rfl) ⟨rfl, rfl⟩⟩⟩
    · exact ⟨wanted_free rfl, .inr ⟨by decide, fun s1 s2 hle wx hst => gp_load (.tmp 33) rfl (show a_.eval (.tmp 33) = (.pointer (some ⟨r.b, 0, none⟩)) from hk.slot 33 (by kernel_rfl) (by kernel_rfl)) (v := (.slice (some ⟨r.lb, 0, none⟩) L.length c)) ((fun (q : After _) => load_at (fun w => by kernel_rfl) (E0.out q)) ⟨wx, WBE.out _ wx hst (s2 1 9 rfl (by kernel_rfl))⟩) ⟨rfl, rfl⟩⟩⟩
    · exact ⟨wanted_free rfl, .inr ⟨by decide, fun s1 s2 hle wx hst => gp_move (.tmp 1) rfl ⟨rfl, (show a_.eval (.tmp 1) = (.int .i64 (k : Int)) from hk.old 1 (by kernel_rfl))⟩⟩⟩
    · exact ⟨wanted_free rfl, .inr ⟨by decide, fun s1 s2 hle wx hst => gp_move (.tmp 2) rfl ⟨rfl, (show a_.eval (.tmp 2) = (.slice a 64 c9) from hk.old 2 (by kernel_rfl))⟩⟩⟩
    · refine ⟨wanted_free rfl, .inl ⟨0, rfl, fun hvs wx hst => ?_⟩⟩
      refine gp_call rfl rfl #[.slice a 64 c9] (fun w => by kernel_rfl) (by simp only [List.map_toArray, List.map_cons, List.map_nil]; rw [show a_.eval (.tmp 36) = (.slice a 64 c9) from hk.slot 36 (by kernel_rfl) (by kernel_rfl)]) ((WCP.out wx (WBE.out vs wx hst (by omega))).mono ?_)
      rintro e w9 ⟨a9, c8, rfl, hO9, hb9⟩
      exact ⟨_, rfl, WS1.out vs wx w9 a9 c8 hst hvs hO9 hb9⟩
    · exact ⟨wanted_free rfl, .inr ⟨by decide, fun s1 s2 hle wx hst => gp_index (.tmp 34) (.tmp 35) rfl (show a_.eval (.tmp 34) = (.slice (some ⟨r.lb, 0, none⟩) L.length c) from hk.slot 34 (by kernel_rfl) (by kernel_rfl)) (show a_.eval (.tmp 35) = (.int .i64 (k : Int)) from hk.slot 35 (by kernel_rfl) (by kernel_rfl)) (v := (.pointer (some ⟨r.lb, k * 2, none⟩))) (EX.out wx) ⟨rfl, rfl⟩⟩⟩
    · exact ⟨wanted_free rfl, .inr ⟨by decide, fun s1 s2 hle wx hst => gp_field (.tmp 38) rfl (show a_.eval (.tmp 38) = (.pointer (some ⟨r.lb, k * 2, none⟩)) from hk.slot 38 (by kernel_rfl) (by kernel_rfl)) (v := (.pointer (some ⟨r.lb, k * 2 + 1, none⟩))) (fun w => by kernel_rfl) ⟨rfl, rfl⟩⟩⟩
    · refine ⟨wanted_free rfl, .inl ⟨1, rfl, fun hvs wx hst => ?_⟩⟩
      obtain ⟨a9, c8, rfl, hO9, hb9⟩ := WS1v.out vs wx hst hvs
      refine gp_store (.tmp 39) (.tmp 37) rfl (show a_.eval (.tmp 39) = (.pointer (some ⟨r.lb, k * 2 + 1, none⟩)) from hk.slot 39 (by kernel_rfl) (by kernel_rfl)) (show a_.eval (.tmp 37) = (.slice a9 64 c8) from hk.line 0 37 _ rfl (by kernel_rfl)) (WST.out wx a9 c8 hb9) (WFI.out wx a9 c8 hO9 hb9)
  intro a_ vs wz hlen9 hfin hsame hall hline
  have he := act_same hsame [31, 32, 33, 34, 35, 36, 37, 38, 39] (by kernel_rfl)
  simp only [List.foldl_cons, List.foldl_nil] at he
  generalize a_.eval (.tmp 31) = y31 at he
  generalize a_.eval (.tmp 32) = y32 at he
  generalize a_.eval (.tmp 33) = y33 at he
  generalize a_.eval (.tmp 34) = y34 at he
  generalize a_.eval (.tmp 35) = y35 at he
  generalize a_.eval (.tmp 36) = y36 at he
  generalize a_.eval (.tmp 37) = y37 at he
  generalize a_.eval (.tmp 38) = y38 at he
  generalize a_.eval (.tmp 39) = y39 at he
  simp only [put_lit] at he
  dsimp only [List.set_cons_zero, List.set_cons_succ] at he
  subst he
  clear hsame hall
  go_wp2_with fail
  go_ret
  obtain ⟨a9, c8, hne, hh, hrow, hnew, hs⟩ : rwFin w r L k hkL l c wz := by
    match vs, hlen9, hfin with
    | _ :: _ :: _, _, hfin => exact hfin
  have hlb := (Array.getElem?_eq_some_iff.1 HH.out.held.blk.choose_spec).1
  have hbb := (Array.getElem?_eq_some_iff.1 HH.out.box).1
  refine ⟨rfl, ⟨_, c, sa, sc, HH.out.put hs hh (by rw [List.length_set]) ?_ ?_ ?_ rfl rfl rfl (putD_ok HH.out.ok k h64)⟩, HSA.out.trans (hs.less (fun _ _ hk => hk.2))⟩
  · intro z hz
    rcases List.mem_or_eq_of_mem_set hz with hz | rfl
    · exact (HH.out.rows z hz).save hs (fun _ _ hk => hk.2)
    · have h2 := (HH.out.rows L[k] (List.getElem_mem hkL)).save hs (fun _ _ hk => hk.2)
      exact ⟨h2.rf, hrow, h2.inf, fun g hg => by have h1 := (hnew g hg).1; have h3 := HH.out.bB; exact ⟨by omega, ⟨⟨by omega, by omega⟩, fun hx => by have := HH.out.xlt g hx; omega⟩, (hnew g hg).2⟩⟩
  · rw [List.map_set]
    show D.S = (L.map (·.f)).set k L[k].f
    rw [show L[k].f = (L.map (·.f))[k]'(by simpa using hkL) by simp, List.set_getElem_self]
    exact HH.out.hS
  · rw [List.map_set]
    show D.C.set k (some l) = (L.map Ro.cache).set k (Ro.cache { L[k] with k := l, ka := a9, kc := c8 })
    rw [← HH.out.hC]
    congr 1
    rw [Ro.cache]
    cases a9 with
    | none => exact absurd rfl hne
    | some x => rfl
set_option maxRecDepth 100000 in
theorem rwrite_calls (w : World) (r : Rl) (D : Dk) (h : RefAt w r D) (i : Int) (a : Option Addr) (l : List UInt8) (c9 : Nat) (hr : Row w a l c9) (ha : l ≠ [] → ∀ g, Go.Cit.blk a = some g → r.Off g) :
    Calls Tryz.prog 37 #[.pointer (some ⟨r.b, 0, none⟩), .int .i64 i, .slice a l.length c9] w fun e w' => e = .returned (.int .i64 (writeE D i l.length)) ∧ RefAt w' r (writeT D i l) ∧ Save r.Off w w' := by
  obtain ⟨⟨cc, c0⟩, c1, hN0⟩ : (∃ c, w.cell? ⟨r.b, 0, none⟩ = some (.slice (some ⟨r.lb, 0, none⟩) D.S.length c)) ∧ w.cell? ⟨r.b, 1, none⟩ = some (.bool (!D.up)) ∧ D.S.length ≤ 1024 := by
    obtain ⟨L, c, sa, sc, h⟩ := h
    have h1 := h.cells.2.1
    have h2 := h.cells.1
    rw [h.len] at h2
    exact ⟨⟨c, h2⟩, h1, h.ok.few⟩
  have hll := hr.le
  have hlm := hr.top
  unfold maxLen at hlm
  by_cases hu : D.up = true
  · by_cases hi : 0 ≤ i ∧ i < D.S.length
    · by_cases h64 : l.length = 64
      · obtain ⟨k, rfl⟩ : ∃ k : Nat, i = (k : Int) := ⟨i.toNat, by omega⟩
        have hk : k < D.S.length := by omega
        by_cases hl : D.left = 1
        · have e1 : writeE D k l.length = 60 := by rw [writeE, if_neg (by rw [hu]; simp), if_neg (by simpa using hi), if_neg (by simpa using h64), if_pos hl]
          have e2 : writeT D k l = fallD D.stay D := by rw [writeT, if_neg (by rw [hu]; simp [hk, h64]), if_pos hl]
          rw [e1, e2, h64]
          have hfl := rfalls_calls w r D h
          rw [if_pos hl, decide_eq_true hl] at hfl
          rw [hu] at c1
          have t2 : ¬ (D.S.length : Int) ≤ k := by omega
          have t3 : ¬ D.S.length ≤ k := by omega
          clear h hr ha e1 e2 hi hl
          go_enter Tryz.func37, Tryz.ntmps37
          go_wp2_with fail
          refine (hfl).mono ?_
          rintro e w3 ⟨rfl, hR, hs⟩
          go_wp2_with fail
          go_ret
          exact ⟨rfl, hR, hs⟩
        · have e1 : writeE D k l.length = 0 := by rw [writeE, if_neg (by rw [hu]; simp), if_neg (by simpa using hi), if_neg (by simpa using h64), if_neg hl]
          have e2 : writeT D k l = putD k l (tickD D) := by rw [writeT, if_neg (by rw [hu]; simp [hk, h64]), if_neg hl, Int.toNat_natCast]
          rw [e1, e2, h64]
          exact rwrite_does w r D h k hk hu hl a l c9 h64 hr ha
      · have e1 : writeE D i l.length = 2 := by rw [writeE, if_neg (by rw [hu]; simp), if_neg (by simpa using hi), if_pos h64]
        have e2 : writeT D i l = D := by rw [writeT, if_pos (.inr (.inr h64))]
        rw [e1, e2]
        rw [hu] at c1
        have HR := Lib.hid h
        generalize l.length = n at *
        have t1 : ((n : Int) == 64) = false := by simp; omega
        have t2 : ¬ (n : Int) = 64 := by omega
        have t3 : ¬ (D.S.length : Int) ≤ i := by omega
        have t4 : ¬ i < 0 := by omega
        clear e1 e2 hi ha h hr
        go_enter Tryz.func37, Tryz.ntmps37
        go_wp2_with fail
        go_ret
        exact ⟨rfl, HR.out, Save.refl _ _⟩
    · have e1 : writeE D i l.length = 61 := by rw [writeE, if_neg (by rw [hu]; simp), if_pos hi]
      have e2 : writeT D i l = D := by rw [writeT, if_pos (.inr (.inl hi))]
      rw [e1, e2]
      rw [hu] at c1
      have HR := Lib.hid h
      generalize l.length = n at *
      clear e1 e2 ha h hr
      by_cases h0 : i < 0
      · go_enter Tryz.func37, Tryz.ntmps37
        go_wp2_with fail
        go_ret
        exact ⟨rfl, HR.out, Save.refl _ _⟩
      · have t1 : (D.S.length : Int) ≤ i := by omega
        go_enter Tryz.func37, Tryz.ntmps37
        go_wp2_with fail
        go_ret
        exact ⟨rfl, HR.out, Save.refl _ _⟩
  · have hu : D.up = false := by simpa using hu
    have e1 : writeE D i l.length = 60 := by rw [writeE, if_pos hu]
    have e2 : writeT D i l = D := by rw [writeT, if_pos (.inl hu)]
    rw [e1, e2]
    rw [hu] at c1
    have HR := Lib.hid h
    generalize l.length = n at *
    clear e1 e2 ha h hr
    go_enter Tryz.func37, Tryz.ntmps37
    go_wp2_with fail
    go_ret
    exact ⟨rfl, HR.out, Save.refl _ _⟩

end Go.Proofs.YtofagofpeedfcaaGreat
