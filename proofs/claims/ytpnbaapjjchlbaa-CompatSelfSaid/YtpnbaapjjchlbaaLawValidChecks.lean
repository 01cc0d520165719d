/- ValidChecks: the walk of the law, on what All and awake are to answer (RefAllIs, AwakeIs). Under way. -/
import Derived.Test.YtpnbaapjjchlbaaGp
import Derived.Test.YtpnbaapjjchlbaaIs12
import Derived.Test.YtpnbaapjjchlbaaSame11
namespace Go.Proofs.Ytpnbaapjjchlbaa
open Go Go.RowKit Go.Cit

theorem gp_loadC {P : Program} {o : Oper} {ρ : Operand → Value} {w : World} {post : Value → World → Prop} {T E : TypeId} {n b : Nat} {C : Array Value} {fr : Nat × Nat} (hT : RowType P T n) (x : Operand) (ho : o.op = .load T x) (hx : ρ x = .pointer (some ⟨b, 0, none⟩)) (hb : w.heap[b]? = some (.cells C E fr)) (hn : C.size = n)
    (h : post (.agg C) w) : GivesP P post ((execOp ρ o).run P w) := by
  obtain ⟨⟨d, hu, hd⟩, hi⟩ := hT
  have hr := run_loadB (P := P) hu hd (by rw [hi, hn]) hb
  refine gp_run (w' := w) (v := .agg C) ?_ h
  unfold execOp
  simp only [ho, hx, Sem.run_bind, Instr.loadAt, Instr.sureAddr, Sem.run_pure, Result.andThen, hr]
def tE (L : List Int) (v : Value) (w : World) : Prop := ∃ a c, v = .slice a L.length c ∧ Vec cZ 1 w a L c
/-- What is said of the slots of region 4. -/
def vcT (V U : CfgV) : Nat → Value → World → Prop
  | 11 => fun v _ => v = .agg #[.slice U.wa U.ws.length U.wc, .slice U.pa U.ps.length U.pc, .slice U.ca U.cs.length U.cc]
  | 13 => fun v _ => v = .agg #[.slice V.wa V.ws.length V.wc, .slice V.pa V.ps.length V.pc, .slice V.ca V.cs.length V.cc]
  | 12 | 4 => tE (errs U)
  | 14 | 5 => tE (errs V)
  | _ => fun _ _ => True
theorem tE_stay {L : List Int} {v : Value} {w1 w2 : World} (hb : Below w1.heap.size w1 w2) (h : tE L v w1) : tE L v w2 := by
  obtain ⟨a, c, rfl, h⟩ := h
  exact ⟨a, c, rfl, h.stay cZ_len hb⟩
theorem vcT_stay (V U : CfgV) : ∀ d v w1 w2, Below w1.heap.size w1 w2 → vcT V U d v w1 → vcT V U d v w2 := by
  intro d v w1 w2 hb h
  unfold vcT at h ⊢
  split at h <;> first | exact h | exact tE_stay hb h | trivial
theorem small_cfg {U V : CfgV} (h : U.cfg = V.cfg) (hs : SmallV V) : SmallV U := by
  simp only [CfgV.cfg, Cfg.mk.injEq] at h
  obtain ⟨h1, h2, h3⟩ := h
  have hl : U.ps.length = V.ps.length := by have := congrArg List.length h2; simpa using this
  refine ⟨by rw [h1]; exact hs.win, by rw [hl]; exact hs.pts, by rw [h3]; exact hs.chs, fun x hx => ?_⟩
  have hm : x.pt ∈ V.ps.map PtV.pt := by rw [← h2]; exact List.mem_map_of_mem hx
  obtain ⟨y, hy, he⟩ := List.mem_map.1 hm
  have : y.img = x.img := congrArg Pt.img he
  rw [← this]
  exact hs.img y hy
def AwakeIs : Prop := ∀ (w : World), Calls Try.prog 26 #[] w fun e w' => e = .returned (.bool true) ∧ Below w.heap.size w w'

set_option maxRecDepth 100000 in
set_option maxHeartbeats 4000000 in
theorem validChecks_far (w : World) (V : CfgV) (h : V.At w) (hb : ∀ x ∈ V.ps, x.img.length ≤ 140737488351232) (hg : greatV V = true) : Calls Try.prog 3 #[.agg #[.slice V.wa V.ws.length V.wc, .slice V.pa V.ps.length V.pc, .slice V.ca V.cs.length V.cc]] w fun e w' => e = .returned (.bool true) ∧ Below w.heap.size w w' := by
  have B0 : Below w.heap.size w (w.alloc (.cells #[.slice V.wa V.ws.length V.wc, .slice V.pa V.ps.length V.pc, .slice V.ca V.cs.length V.cc] 26)) := (Below.refl _ w).alloc (Nat.le_refl _) _
  have HC := Lib.hid (cgreat_calls _ V (h.stay B0) hb)
  rw [hg] at HC
  have HB0 := Lib.hid B0
  clear h B0 hg hb
  go_enter Try.func3, Try.ntmps3
  go_wp2_with fail
  refine (HC.out).mono ?_
  rintro e w2 ⟨rfl, hb2⟩
  have HB2 := Lib.hid (HB0.out.trans (hb2.mono HB0.out.size))
  clear hb2
  go_wp2_with fail
  go_ret
  exact ⟨rfl, HB2.out⟩

set_option maxRecDepth 100000 in
set_option maxHeartbeats 4000000 in
theorem validChecks_near (hAll : RefAllIs) (hAw : AwakeIs) (w : World) (V : CfgV) (h : V.At w) (hs : SmallV V) (hb : ∀ x ∈ V.ps, x.img.length ≤ 140737488351232) (hg : greatV V = false) : Calls Try.prog 3 #[.agg #[.slice V.wa V.ws.length V.wc, .slice V.pa V.ps.length V.pc, .slice V.ca V.cs.length V.cc]] w fun e w' => e = .returned (.bool true) ∧ Below w.heap.size w w' := by
  have B0 : Below w.heap.size w (w.alloc (.cells #[.slice V.wa V.ws.length V.wc, .slice V.pa V.ps.length V.pc, .slice V.ca V.cs.length V.cc] 26)) := (Below.refl _ w).alloc (Nat.le_refl _) _
  have HV0 := Lib.hid (h.stay B0)
  have HC := Lib.hid (cgreat_calls _ V (h.stay B0) hb)
  rw [hg] at HC
  have HB0 := Lib.hid B0
  clear h B0 hg hb
  go_enter Try.func3, Try.ntmps3
  go_wp2_with fail
  refine (HC.out).mono ?_
  rintro e w2 ⟨rfl, hb2⟩
  have HX2 : Hid (w2.heap[w.heap.size]? = some (.cells #[.slice V.wa V.ws.length V.wc, .slice V.pa V.ps.length V.pc, .slice V.ca V.cs.length V.cc] 26 (0, 0))) := (hb2.block _ (by simp)).trans (heap_alloc_new w _)
  have HB2 := Lib.hid (HB0.out.trans (hb2.mono HB0.out.size))
  have HV2 := Lib.hid (HV0.out.stay hb2)
  have HP := Lib.hid (copied_calls w2 V HV2.out hs)
  clear hb2 HC
  have c0 : w2.cell? ⟨w.heap.size, 0, none⟩ = some (.slice V.wa V.ws.length V.wc) := by rw [World.cell?, HX2.out]; rfl
  have c1 : w2.cell? ⟨w.heap.size, 1, none⟩ = some (.slice V.pa V.ps.length V.pc) := by rw [World.cell?, HX2.out]; rfl
  have c2 : w2.cell? ⟨w.heap.size, 2, none⟩ = some (.slice V.ca V.cs.length V.cc) := by rw [World.cell?, HX2.out]; rfl
  go_wp2_with fail
  refine (HP.out).mono ?_
  rintro e w3 ⟨U, rfl, hU, hO, hb3⟩
  have HU := Lib.hid hU
  have HO3 := Lib.hid hO
  have HB3 := Lib.hid (HB2.out.trans (hb3.mono HB2.out.size))
  have HV3 := Lib.hid (HV2.out.stay hb3)
  have HX3 : Hid (w3.heap[w.heap.size]? = some (.cells #[.slice V.wa V.ws.length V.wc, .slice V.pa V.ps.length V.pc, .slice V.ca V.cs.length V.cc] 26 (0, 0))) := (hb3.block _ (Array.getElem?_eq_some_iff.1 HX2.out).1).trans HX2.out
  clear hU hO hb3 HP c0 c1 c2
  go_wp2_with fail
  obtain ⟨wA, hwA⟩ : ∃ wA, wA = w3.alloc (.cells #[.slice U.wa U.ws.length U.wc, .slice U.pa U.ps.length U.pc, .slice U.ca U.cs.length U.cc] 26) := ⟨_, rfl⟩
  have hBA : Below w3.heap.size w3 wA := by rw [hwA]; exact (Below.refl _ w3).alloc (Nat.le_refl _) _
  have HBA := Lib.hid (HB3.out.trans (hBA.mono HB3.out.size))
  have HVA := Lib.hid (HV3.out.stay hBA)
  have HUA := Lib.hid (HO3.out.at.stay hBA)
  have HXV : Hid (wA.heap[w.heap.size]? = some (.cells #[.slice V.wa V.ws.length V.wc, .slice V.pa V.ps.length V.pc, .slice V.ca V.cs.length V.cc] 26 (0, 0))) := (hBA.block _ (Array.getElem?_eq_some_iff.1 HX3.out).1).trans HX3.out
  obtain ⟨g3, hg3⟩ : ∃ g, g = w3.heap.size := ⟨_, rfl⟩
  have HXU : Hid (wA.heap[g3]? = some (.cells #[.slice U.wa U.ws.length U.wc, .slice U.pa U.ps.length U.pc, .slice U.ca U.cs.length U.cc] 26 (0, 0))) := by rw [Hid, hwA, hg3]; exact heap_alloc_new _ _
  have HSU : Hid (SmallV U) := small_cfg HU.out hs
  rw [← hwA, ← hg3]
  clear hwA hg3 hBA
  refine wp_region_tyg (vcT V U) (by kernel_rfl) (by kernel_rfl) (vcT_stay V U) ?_ ?_
  · refine opsAll_cons ?_ (opsAll_cons ?_ (opsAll_cons ?_ (opsAll_cons ?_ (opsAll_cons ?_ (opsAll_cons ?_ opsAll_nil)))))
    all_goals intro a wx hk
    · exact .inl ⟨wanted_free rfl, gp_loadC rowCfg (.tmp 3) rfl (hk.old 3 (by kernel_rfl)) ((hk.below.block _ (Array.getElem?_eq_some_iff.1 HXU.out).1).trans HXU.out) rfl ⟨Below.refl _ _, rfl⟩⟩
    · refine .inl ⟨wanted_free rfl, gp_call rfl (hk.fn _) #[.agg #[.slice U.wa U.ws.length U.wc, .slice U.pa U.ps.length U.pc, .slice U.ca U.cs.length U.cc]] (fun w => by kernel_rfl) (by simp [show a.eval (.tmp 11) = _ from hk.slot 11 (by kernel_rfl)]) ((vall_calls wx U (HUA.out.stay hk.below) HSU.out).mono ?_)⟩
      rintro e w' ⟨a', c', rfl, hO, hb⟩
      exact ⟨_, rfl, hb, a', c', rfl, hO.vec cZ_len⟩
    · exact .inl ⟨wanted_free rfl, gp_loadC rowCfg (.tmp 1) rfl (hk.old 1 (by kernel_rfl)) ((hk.below.block _ (Array.getElem?_eq_some_iff.1 HXV.out).1).trans HXV.out) rfl ⟨Below.refl _ _, rfl⟩⟩
    · refine .inl ⟨wanted_free rfl, gp_call rfl (hk.fn _) #[.agg #[.slice V.wa V.ws.length V.wc, .slice V.pa V.ps.length V.pc, .slice V.ca V.cs.length V.cc]] (fun w => by kernel_rfl) (by simp [show a.eval (.tmp 13) = _ from hk.slot 13 (by kernel_rfl)]) ((hAll wx V (HVA.out.stay hk.below) hs).mono ?_)⟩
      rintro e w' ⟨a', c', rfl, hO, hb⟩
      exact ⟨_, rfl, hb, a', c', rfl, hO⟩
    · exact .inl ⟨wanted_free rfl, gp_assign (.tmp 12) rfl ⟨Below.refl _ _, hk.slot 12 (by kernel_rfl)⟩⟩
    · exact .inl ⟨wanted_free rfl, gp_assign (.tmp 14) rfl ⟨Below.refl _ _, hk.slot 14 (by kernel_rfl)⟩⟩
  intro a wz hbz hsame hall
  have he := act_same hsame [11, 12, 13, 14, 4, 5] (by kernel_rfl)
  obtain ⟨a12, c12, e12, q12⟩ := hall 12 (by kernel_rfl)
  obtain ⟨a14, c14, e14, q14⟩ := hall 14 (by kernel_rfl)
  obtain ⟨a4, c4, e4, q4⟩ := hall 4 (by kernel_rfl)
  obtain ⟨a5, c5, e5, q5⟩ := hall 5 (by kernel_rfl)
  simp only [List.foldl_cons, List.foldl_nil] at he
  rw [show a.eval (.tmp 11) = _ from hall 11 (by kernel_rfl), e12, show a.eval (.tmp 13) = _ from hall 13 (by kernel_rfl), e14, e4, e5] at he
  simp only [Act.put, List.setIfInBounds_toArray, List.set_cons_zero, List.set_cons_succ] at he
  subst he
  clear hsame hall e12 e14 e4 e5
  have HBZ := Lib.hid (HBA.out.trans (hbz.mono HBA.out.size))
  have HVZ := Lib.hid (HVA.out.stay hbz)
  have HUZ := Lib.hid (HUA.out.stay hbz)
  have bU := (hbz.block _ (Array.getElem?_eq_some_iff.1 HXU.out).1).trans HXU.out
  have bV := (hbz.block _ (Array.getElem?_eq_some_iff.1 HXV.out).1).trans HXV.out
  have c0 : ∀ q : After wz, q.to.cell? ⟨w.heap.size, 0, none⟩ = some (.slice V.wa V.ws.length V.wc) := fun q => After.cell (by rw [World.cell?, bV]; rfl) q
  have c1 : ∀ q : After wz, q.to.cell? ⟨w.heap.size, 1, none⟩ = some (.slice V.pa V.ps.length V.pc) := fun q => After.cell (by rw [World.cell?, bV]; rfl) q
  have c2 : ∀ q : After wz, q.to.cell? ⟨w.heap.size, 2, none⟩ = some (.slice V.ca V.cs.length V.cc) := fun q => After.cell (by rw [World.cell?, bV]; rfl) q
  have c3 : ∀ q : After wz, q.to.cell? ⟨g3, 0, none⟩ = some (.slice U.wa U.ws.length U.wc) := fun q => After.cell (by rw [World.cell?, bU]; rfl) q
  have c4 : ∀ q : After wz, q.to.cell? ⟨g3, 1, none⟩ = some (.slice U.pa U.ps.length U.pc) := fun q => After.cell (by rw [World.cell?, bU]; rfl) q
  have c5 : ∀ q : After wz, q.to.cell? ⟨g3, 2, none⟩ = some (.slice U.ca U.cs.length U.cc) := fun q => After.cell (by rw [World.cell?, bU]; rfl) q
  have eC : chkV U = chkV V := by unfold chkV; rw [errs_cfg HU.out]
  have eF : fitsV U = decide (errs V = []) := by unfold fitsV; rw [errs_cfg HU.out]
  have HC1 : Hid (∀ q : After wz, Calls Try.prog 22 #[.agg #[.slice U.wa U.ws.length U.wc, .slice U.pa U.ps.length U.pc, .slice U.ca U.cs.length U.cc]] q.to fun e w' => e = .returned (.int .i64 (chkV V)) ∧ Below q.to.heap.size q.to w') := fun q => by have := vcheck_calls q.to U (HUZ.out.stay q.bel) HSU.out; rwa [eC] at this
  have HC2 : Hid (∀ q : After wz, Calls Try.prog 23 #[.agg #[.slice V.wa V.ws.length V.wc, .slice V.pa V.ps.length V.pc, .slice V.ca V.cs.length V.cc]] q.to fun e w' => e = .returned (.int .i64 (chkV V)) ∧ Below q.to.heap.size q.to w') := fun q => refcheck_calls hAll q.to V (HVZ.out.stay q.bel) hs
  have HC3 : Hid (∀ q : After wz, Calls Try.prog 24 #[.agg #[.slice U.wa U.ws.length U.wc, .slice U.pa U.ps.length U.pc, .slice U.ca U.cs.length U.cc]] q.to fun e w' => e = .returned (.bool (decide (errs V = []))) ∧ Below q.to.heap.size q.to w') := fun q => by have := fits_calls q.to U (HUZ.out.stay q.bel) HSU.out; rwa [eF] at this
  rw [errs_cfg HU.out] at q12 q4 ⊢
  have HZU := Lib.hid bU
  have HZV := Lib.hid bV
  have HQ4 := Lib.hid q4
  have HQ5 := Lib.hid q5
  have HLL := Lib.hid (errs_len V)
  clear q12 q14 q4 q5 bU bV eC eF hbz
  obtain ⟨R, hR⟩ : ∃ R, Hid (R = chkV V) := ⟨_, rfl⟩
  rw [← hR.out] at HC1 HC2
  obtain ⟨L, hL⟩ : ∃ L, Hid (L = errs V) := ⟨_, rfl⟩
  rw [← hL.out] at HQ4 HQ5 HLL HC3 ⊢
  obtain ⟨F, hF⟩ : ∃ F, Hid (F = decide (L = [])) := ⟨_, rfl⟩
  rw [← hF.out] at HC3
  have t1 : ((L.length : Int) == 0) = F := by rw [hF.out]; cases L <;> simp; omega
  have t2 : (L.length == 0) = F := by rw [hF.out]; cases L <;> simp
  have t3 : decide ((L.length : Int) = 0) = F := by rw [hF.out]; cases L <;> simp; omega
  have t4 : decide (L.length = 0) = F := by rw [hF.out]; cases L <;> simp
  have t5 : decide (L = []) = F := hF.out.symm
  have t6 : L.isEmpty = F := by rw [hF.out]; cases L <;> simp
  go_wp2_with fail
  refine wp_region_after (by kernel_rfl) (by kernel_rfl) ?_
  iterate 20
    refine wq_step (fun K hK => ?_)
    go_simp
    first
      | (refine hK _ ?_; clear hK K)
      | (apply Exists.intro
         refine ⟨fun _ => ?_, hK _ ?_⟩
         first | with_reducible exact after_calls (HC1.out _) | with_reducible exact after_calls (HC2.out _) | with_reducible exact after_calls (HC3.out _)
         clear hK K)
  refine wq_nil ?_
  intro w5 hw'
  obtain ⟨⟨_, hb5⟩, hw'⟩ := hw'
  subst hw'
  go_wp2_with fail
  have HB5 := Lib.hid (HBZ.out.trans (hb5.mono HBZ.out.size))
  have HV5 := Lib.hid (HVZ.out.stay hb5)
  have HU5 := Lib.hid (HUZ.out.stay hb5)
  have HP5 := Lib.hid (HQ4.out.stay cZ_len hb5)
  have HR5 := Lib.hid (HQ5.out.stay cZ_len hb5)
  have H5U := Lib.hid ((hb5.block _ (Array.getElem?_eq_some_iff.1 HZU.out).1).trans HZU.out)
  have H5V := Lib.hid ((hb5.block _ (Array.getElem?_eq_some_iff.1 HZV.out).1).trans HZV.out)
  clear c0 c1 c2 c3 c4 c5 t1 t2 t3 t4 t5 t6 hb5 HC1 HC2 HC3
  go_loopw [6] (fun s wr => ∃ k : Nat, s = .int .i64 k ∧ k ≤ L.length ∧ Below w5.heap.size w5 wr) (fun s _ => L.length - (intOf s).toNat)
  case atStart => exact ⟨0, rfl, Nat.zero_le _, Below.refl _ _⟩
  case round =>
    obtain ⟨k, rfl, hk, B⟩ := hrel
    by_cases hlt : k < L.length
    · have i0 := (HP5.out.stay cZ_len B).index etE k hlt
      have i1 := (HR5.out.stay cZ_len B).index etI k hlt
      have hl5 := HLL.out
      obtain ⟨z, hz⟩ : ∃ z, Hid (z = L[k]) := ⟨L[k], rfl⟩
      have f0 : wr.cell? (ad a4 (k * 1)) = some (.int .i64 z) := by rw [hz.out]; exact (HP5.out.stay cZ_len B).field0 k hlt (by decide) rfl
      have f1 : wr.cell? (ad a5 (k * 1)) = some (.int .i64 z) := by rw [hz.out]; exact (HR5.out.stay cZ_len B).field0 k hlt (by decide) rfl
      rw [Nat.mul_one] at i0 i1 f0 f1
      have e0 := fun q : After wr => After.cell f0 q
      have e1 := fun q : After wr => After.cell f1 q
      go_wp2_with fail
      refine wp_region_after (by kernel_rfl) (by kernel_rfl) ?_
      iterate 9
        refine wq_step (fun K hK => ?_)
        go_simp
        refine hK _ ?_
        clear hK K
      refine wq_nil ?_
      intro w8 hw'
      obtain ⟨⟨_, hb8⟩, hw'⟩ := hw'
      subst hw'
      go_wp2_with fail
      go_roundw
      case rel => exact ⟨k + 1, by go_num, by omega, B.trans (hb8.mono B.size)⟩
      case measure => simp [intOf]; omega
    · have hk2 : k = L.length := by omega
      subst hk2
      have bU := (B.block _ (Array.getElem?_eq_some_iff.1 H5U.out).1).trans H5U.out
      have bV := (B.block _ (Array.getElem?_eq_some_iff.1 H5V.out).1).trans H5V.out
      have c0 : wr.cell? ⟨w.heap.size, 0, none⟩ = some (.slice V.wa V.ws.length V.wc) := by rw [World.cell?, bV]; rfl
      have c1 : wr.cell? ⟨w.heap.size, 1, none⟩ = some (.slice V.pa V.ps.length V.pc) := by rw [World.cell?, bV]; rfl
      have c2 : wr.cell? ⟨w.heap.size, 2, none⟩ = some (.slice V.ca V.cs.length V.cc) := by rw [World.cell?, bV]; rfl
      have c3 : wr.cell? ⟨g3, 0, none⟩ = some (.slice U.wa U.ws.length U.wc) := by rw [World.cell?, bU]; rfl
      have c4 : wr.cell? ⟨g3, 1, none⟩ = some (.slice U.pa U.ps.length U.pc) := by rw [World.cell?, bU]; rfl
      have c5 : wr.cell? ⟨g3, 2, none⟩ = some (.slice U.ca U.cs.length U.cc) := by rw [World.cell?, bU]; rfl
      have hsm := same11_calls wr U V (HU5.out.stay B) (HV5.out.stay B)
      rw [decide_eq_true HU.out] at hsm
      have HSM := Lib.hid hsm
      have HB9 := Lib.hid (HB5.out.trans (B.mono HB5.out.size))
      clear bU bV hsm B
      go_wp2_with fail
      refine HSM.out.mono ?_
      rintro e wS ⟨rfl, hbS⟩
      have HBS := Lib.hid (HB9.out.trans (hbS.mono HB9.out.size))
      have HAW := Lib.hid (hAw wS)
      clear hbS HSM c0 c1 c2 c3 c4 c5
      go_wp2_with fail
      refine HAW.out.mono ?_
      rintro e wT ⟨rfl, hbT⟩
      have HBT := Lib.hid (HBS.out.trans (hbT.mono HBS.out.size))
      clear hbT HAW
      go_wp2_with fail
      go_ret
      exact ⟨rfl, HBT.out⟩

theorem validChecks_law (hAll : RefAllIs) (hAw : AwakeIs) (w : World) (V : CfgV) (h : V.At w) (hb : ∀ x ∈ V.ps, x.img.length ≤ 140737488351232) : Calls Try.prog 3 #[.agg #[.slice V.wa V.ws.length V.wc, .slice V.pa V.ps.length V.pc, .slice V.ca V.cs.length V.cc]] w fun e w' => e = .returned (.bool true) ∧ Below w.heap.size w w' := by
  cases hg : greatV V with
  | true => exact validChecks_far w V h hb hg
  | false => exact validChecks_near hAll hAw w V h (small_of hg) hb hg
end Go.Proofs.Ytpnbaapjjchlbaa
