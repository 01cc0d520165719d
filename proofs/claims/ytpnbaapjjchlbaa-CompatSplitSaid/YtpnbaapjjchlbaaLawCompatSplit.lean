/- CompatSplit: the walk of the law. -/
import Derived.Test.YtpnbaapjjchlbaaLawCompatLists
namespace Go.Proofs.Ytpnbaapjjchlbaa
open Go Go.RowKit Go.Cit

theorem allocCh (ρ : Operand → Value) (o : Oper) (w : World) (h : o.op = .alloc 54) : (execOp ρ o).run Try.prog w = .ok (.value (.pointer (some ⟨w.heap.size, 0, none⟩))) (w.alloc (.cells #[.int .i64 0, .int .i64 0, .int .i64 0, .int .i64 0, .int .i64 0] 54)) := by
  unfold execOp; rw [h]; kernel_rfl
theorem storeCh (ρ : Operand → Value) (o : Oper) (wx : World) (p s : Operand) (h : o.op = .store 54 p s) {x : Ch} {g : Nat} {D : Array Value} (hg : ρ p = .pointer (some ⟨g, 0, none⟩)) (hs : ρ s = .agg (cA5 x))
    (hD : wx.heap[g]? = some (.cells D 54 (0, 0))) (hDs : D.size = (cA5 x).size) :
    ∃ w', (execOp ρ o).run Try.prog wx = .ok .skip w' ∧ w'.heap[g]? = some (.cells (cA5 x) 54 (0, 0)) ∧ Save (· ≠ g) wx w' := by
  have hr := run_storeVar_row (P := Try.prog) wx g 54 54 D (cA5 x) hD (by kernel_rfl) hDs (by simp [Value.oneCell'])
  refine ⟨wx.setRow g (cA5 x), ?_, setRow_same hD, setRow_save _ _ _⟩
  unfold execOp
  simp only [h, hg, hs, Sem.run_bind, Instr.storeAt, Instr.sureAddr, Sem.run_pure, Result.andThen, hr]
theorem run_add_i64 (x y z : Int) (hz : x + y = z) (h : -9223372036854775808 ≤ z ∧ z ≤ 9223372036854775807) (w : World) (p q : Operand) : (do eqGuard .add 3 p q (.int .i64 x) (.int .i64 y); binOp .add 3 (.int .i64 x) (.int .i64 y) : Sem Value).run Try.prog w = .ok (.int .i64 z) w := by
  subst hz
  go_simp
  exact IntWalk.i64_in _ h
def cp3 (V W : CfgV) : Nat → Value → World → Prop
  | 32 => fun v _ => v = (.agg #[.slice V.wa V.ws.length V.wc, .slice V.pa V.ps.length V.pc, .slice V.ca V.cs.length V.cc])
  | 33 => fun v _ => v = (.agg #[.slice W.wa W.ws.length W.wc, .slice W.pa W.ps.length W.pc, .slice W.ca W.cs.length W.cc])
  | 34 => tE (partsK V W)
  | 35 => fun v _ => v = (.int .i64 ((partsK V W).length : Int))
  | 36 => fun v _ => v = (.agg #[.slice V.wa V.ws.length V.wc, .slice V.pa V.ps.length V.pc, .slice V.ca V.cs.length V.cc])
  | 37 => fun v _ => v = (.agg #[.slice W.wa W.ws.length W.wc, .slice W.pa W.ps.length W.pc, .slice W.ca W.cs.length W.cc])
  | 38 => tE (leavK V W)
  | 39 => fun v _ => v = (.int .i64 ((leavK V W).length : Int))
  | 40 => fun v _ => v = (.int .i64 (V.ps.length : Int))
  | 5 => fun v _ => v = (.int .i64 (V.ps.length : Int))
  | _ => fun _ _ => True
theorem cp3_stay (V W : CfgV) : ∀ d v w1 w2, Below w1.heap.size w1 w2 → cp3 V W d v w1 → cp3 V W d v w2 := by
  intro d v w1 w2 hb h
  unfold cp3 at h ⊢
  split at h <;> first | exact h | exact tE_stay hb h | trivial
def cp7B : Boxes := ⟨1, fun _ => 11, fun _ => 12, fun _ => 7, fun _ => 43, fun _ => #[.int .i64 0, .int .i64 0, .int .i64 0, .bool false, .slice none 0 0]⟩
theorem necp7 {n : Nat} {o : Option Nat} (h1 : n ≠ 11) (h2 : n ≠ 12) (h3 : o ≠ some 7) : ∀ j, j < cp7B.nb → n ≠ cp7B.ia j ∧ n ≠ cp7B.is_ j ∧ o ≠ some (cp7B.d j) := fun _ _ => ⟨h1, h2, h3⟩
def cp7T (V X : CfgV) (B k : Nat) (i : Int) (Q : Pt) (h : Bool) (d : Nat) (v : Value) (w : World) : Prop := match d with
  | 49 => v = (.agg #[.slice X.wa X.ws.length X.wc, .slice X.pa X.ps.length X.pc, .slice X.ca X.cs.length X.cc])
  | 50 => v = (.pointer (some ⟨B, 1, none⟩))
  | 51 => v = (.slice V.pa V.ps.length V.pc)
  | 52 => v = (.int .i64 (k : Int))
  | 53 => v = (.pointer (some (ad V.pa (k * 5))))
  | 54 => v = (.pointer (some (ad V.pa (k * 5))))
  | 55 => v = (.int .i64 i)
  | 56 => isTup (Q) (h) v w
  | 48 => isTup (Q) (h) v w
  | 57 => isPt (Q) v w
  | 58 => v = (.bool h)
  | 8 => v = (.bool h)
  | _ => True
theorem cp7T_bx (V X : CfgV) (B k : Nat) (i : Int) (Q : Pt) (h : Bool) {d : Nat} {v : Value} {W w w' : World} (hG : bxG cp7B W w w') (hyp : cp7T V X B k i Q h d v w) : cp7T V X B k i Q h d v w' := by
  have hne : ∀ j, j < cp7B.nb → (5 : Nat) ≠ cp7B.ty j := fun _ _ => neUP
  unfold cp7T at *
  split at hyp <;> first | exact hyp | exact isTup_bx hne hG hyp | exact isPt_bx hne hG hyp
def cp8 (V W : CfgV) (B k p1 : Nat) (i s1 s2 : Int) (h q t e : Bool) : Nat → Value
  | 59 => (.agg #[.slice V.wa V.ws.length V.wc, .slice V.pa V.ps.length V.pc, .slice V.ca V.cs.length V.cc])
  | 60 => (.agg #[.slice W.wa W.ws.length W.wc, .slice W.pa W.ps.length W.pc, .slice W.ca W.cs.length W.cc])
  | 61 => (.pointer (some ⟨B, 1, none⟩))
  | 62 => (.slice V.pa V.ps.length V.pc)
  | 63 => (.int .i64 (k : Int))
  | 64 => (.pointer (some (ad V.pa (k * 5))))
  | 65 => (.pointer (some (ad V.pa (k * 5))))
  | 66 => (.int .i64 i)
  | 67 => (.bool (((h && q) && t) && e))
  | 68 => (.bool h)
  | 69 => (.bool h)
  | 70 => (bif h then (.pointer (some ⟨p1, 3, none⟩)) else undef)
  | 71 => (bif h then (.bool q) else undef)
  | 72 => (.bool (h && q))
  | 73 => (.bool (h && q))
  | 74 => (bif (h && q) then (.pointer (some ⟨B, 1, none⟩)) else undef)
  | 75 => (bif (h && q) then (.slice V.pa V.ps.length V.pc) else undef)
  | 76 => (bif (h && q) then (.int .i64 (k : Int)) else undef)
  | 77 => (bif (h && q) then (.pointer (some (ad V.pa (k * 5)))) else undef)
  | 78 => (bif (h && q) then (.pointer (some ⟨(ad V.pa (k * 5)).block, (ad V.pa (k * 5)).off + 3, none⟩)) else undef)
  | 79 => (bif (h && q) then (.bool t) else undef)
  | 80 => (.bool ((h && q) && t))
  | 81 => (.bool ((h && q) && t))
  | 82 => (bif ((h && q) && t) then (.pointer (some ⟨p1, 1, none⟩)) else undef)
  | 83 => (bif ((h && q) && t) then (.pointer (some ⟨p1, 2, none⟩)) else undef)
  | 84 => (bif ((h && q) && t) then (.int .i64 s1) else undef)
  | 85 => (bif ((h && q) && t) then (.pointer (some ⟨B, 1, none⟩)) else undef)
  | 86 => (bif ((h && q) && t) then (.slice V.pa V.ps.length V.pc) else undef)
  | 87 => (bif ((h && q) && t) then (.int .i64 (k : Int)) else undef)
  | 88 => (bif ((h && q) && t) then (.pointer (some (ad V.pa (k * 5)))) else undef)
  | 89 => (bif ((h && q) && t) then (.pointer (some ⟨(ad V.pa (k * 5)).block, (ad V.pa (k * 5)).off + 1, none⟩)) else undef)
  | 90 => (bif ((h && q) && t) then (.pointer (some ⟨(ad V.pa (k * 5)).block, (ad V.pa (k * 5)).off + 2, none⟩)) else undef)
  | 91 => (bif ((h && q) && t) then (.int .i64 s2) else undef)
  | 92 => (bif ((h && q) && t) then (.bool e) else undef)
  | 93 => (.bool (((h && q) && t) && e))
  | 94 => (.bool false)
  | _ => undef
def cp8o (_ _ : CfgV) (B k p1 : Nat) (_ _ _ : Int) (h _ _ _ : Bool) : Nat → Value
  | 2 => (.pointer (some ⟨B, 0, none⟩))
  | 3 => (.pointer (some ⟨B + 1, 0, none⟩))
  | 6 => (.int .i64 (k : Int))
  | 7 => (.pointer (some ⟨p1, 0, none⟩))
  | 8 => (.bool h)
  | _ => undef
def cp14B : Boxes := ⟨1, fun _ => 9, fun _ => 10, fun _ => 11, fun _ => 54, fun _ => #[.int .i64 0, .int .i64 0, .int .i64 0, .int .i64 0, .int .i64 0]⟩
theorem necp14 {n : Nat} {o : Option Nat} (h1 : n ≠ 9) (h2 : n ≠ 10) (h3 : o ≠ some 11) : ∀ j, j < cp14B.nb → n ≠ cp14B.ia j ∧ n ≠ cp14B.is_ j ∧ o ≠ some (cp14B.d j) := fun _ _ => ⟨h1, h2, h3⟩
def cp14T (V : CfgV) (L : List Int) (k : Nat) (z : Int) (x : Ch) (a9 : Option Addr) (c9 : Nat) (d : Nat) (v : Value) (_ : World) : Prop := match d with
  | 105 => v = (.agg #[.slice V.wa V.ws.length V.wc, .slice V.pa V.ps.length V.pc, .slice V.ca V.cs.length V.cc])
  | 106 => v = (.slice a9 L.length c9)
  | 107 => v = (.int .i64 (k : Int))
  | 108 => v = (.pointer (some (ad a9 k)))
  | 109 => v = (.int .i64 z)
  | 110 => v = (.tuple #[.agg (cA5 x), .bool true])
  | 104 => v = (.tuple #[.agg (cA5 x), .bool true])
  | 111 => v = (.agg (cA5 x))
  | 112 => v = (.bool true)
  | 12 => v = (.bool true)
  | _ => True
def cp15B : Boxes := ⟨1, fun _ => 9, fun _ => 10, fun _ => 13, fun _ => 54, fun _ => #[.int .i64 0, .int .i64 0, .int .i64 0, .int .i64 0, .int .i64 0]⟩
theorem necp15 {n : Nat} {o : Option Nat} (h1 : n ≠ 9) (h2 : n ≠ 10) (h3 : o ≠ some 13) : ∀ j, j < cp15B.nb → n ≠ cp15B.ia j ∧ n ≠ cp15B.is_ j ∧ o ≠ some (cp15B.d j) := fun _ _ => ⟨h1, h2, h3⟩
def cp15T (W : CfgV) (L : List Int) (k : Nat) (z : Int) (x : Ch) (a9 : Option Addr) (c9 : Nat) (d : Nat) (v : Value) (_ : World) : Prop := match d with
  | 114 => v = (.agg #[.slice W.wa W.ws.length W.wc, .slice W.pa W.ps.length W.pc, .slice W.ca W.cs.length W.cc])
  | 115 => v = (.slice a9 L.length c9)
  | 116 => v = (.int .i64 (k : Int))
  | 117 => v = (.pointer (some (ad a9 k)))
  | 118 => v = (.int .i64 z)
  | 119 => v = (.tuple #[.agg (cA5 x), .bool true])
  | 113 => v = (.tuple #[.agg (cA5 x), .bool true])
  | 120 => v = (.agg (cA5 x))
  | 121 => v = (.bool true)
  | 14 => v = (.bool true)
  | _ => True
set_option maxRecDepth 100000 in
set_option maxHeartbeats 8000000 in
theorem compatSplit_law (w : World) (V W : CfgV) (h : V.At w) (hb : ∀ x ∈ V.ps, x.img.length ≤ 140737488351232) (k : W.At w) (kb : ∀ x ∈ W.ps, x.img.length ≤ 140737488351232) : Calls Try.prog 11 #[.agg (cCfg V).toArray, .agg (cCfg W).toArray] w fun e w' => e = .returned (.bool true) ∧ Below w.heap.size w w' := by
  obtain ⟨w0, hw0⟩ : ∃ w0, w0 = (w.alloc (.cells #[.slice V.wa V.ws.length V.wc, .slice V.pa V.ps.length V.pc, .slice V.ca V.cs.length V.cc] 26)).alloc (.cells #[.slice W.wa W.ws.length W.wc, .slice W.pa W.ps.length W.pc, .slice W.ca W.cs.length W.cc] 26) := ⟨_, rfl⟩
  have B0 : Below w.heap.size w w0 := by rw [hw0]; exact ((Below.refl _ w).alloc (Nat.le_refl _) _).alloc (by simp) _
  have hI := two_box w V W
  rw [← hw0] at hI
  have HI := Lib.hid hI
  have HV := Lib.hid (And.intro (h.stay B0) (k.stay B0))
  have HB0 := Lib.hid B0
  have HKB := Lib.hid (And.intro hb kb)
  have hl1 := h.pts.len_le
  obtain ⟨g1, hg1⟩ : ∃ g, Hid (g = greatV V) := ⟨_, rfl⟩
  obtain ⟨g2, hg2⟩ : ∃ g, Hid (g = greatV W) := ⟨_, rfl⟩
  obtain ⟨g3, hg3⟩ : ∃ g, Hid (g = fitsV V) := ⟨_, rfl⟩
  obtain ⟨g4, hg4⟩ : ∃ g, Hid (g = fitsV W) := ⟨_, rfl⟩
  have hc := cgreat_calls w0 V HV.out.1 hb
  rw [← hg1.out] at hc
  have HC := Lib.hid hc
  clear h k B0 hI hb kb hc
  obtain ⟨⟨c0, c1, c2⟩, ⟨d0, d1, d2⟩⟩ := HI.out
  go_enter Try.func11, Try.ntmps11
  go_wp2_with fail
  rw [← hw0]
  clear hw0
  refine (HC.out).mono ?_
  rintro e w1 ⟨rfl, hb1⟩
  have HB1 := Lib.hid hb1
  clear c0 c1 c2 d0 d1 d2 HC hb1
  by_cases hz : g1 = true
  · subst hz
    go_wp2_with fail
    refine (awake13_calls _).mono ?_
    rintro e wq ⟨rfl, hbq⟩
    have HQ := Lib.hid (HB1.out.trans (hbq.mono HB1.out.size))
    clear hbq
    go_wp2_with fail
    go_ret
    exact ⟨rfl, HB0.out.trans (HQ.out.mono HB0.out.size)⟩
  obtain rfl : g1 = false := by cases g1 <;> simp_all
  clear hz
  have hc := cgreat_calls w1 W (HV.out.2.stay HB1.out) HKB.out.2
  rw [← hg2.out] at hc
  have HC := Lib.hid hc
  clear hc
  obtain ⟨d0, d1, d2⟩ := HI.out.2.keep HB1.out
  go_wp2_with fail
  refine (HC.out).mono ?_
  rintro e w2 ⟨rfl, hb2⟩
  have HB2 := Lib.hid (HB1.out.trans (hb2.mono HB1.out.size))
  clear d0 d1 d2 HC hb2
  by_cases hz : g2 = true
  · subst hz
    go_wp2_with fail
    refine (awake13_calls _).mono ?_
    rintro e wq ⟨rfl, hbq⟩
    have HQ := Lib.hid (HB2.out.trans (hbq.mono HB2.out.size))
    clear hbq
    go_wp2_with fail
    go_ret
    exact ⟨rfl, HB0.out.trans (HQ.out.mono HB0.out.size)⟩
  obtain rfl : g2 = false := by cases g2 <;> simp_all
  clear hz
  have HSM := Lib.hid (And.intro (small_of hg1.out.symm) (small_of hg2.out.symm))
  have hc := fits_calls w2 V (HV.out.1.stay HB2.out) HSM.out.1
  rw [← hg3.out] at hc
  have HC := Lib.hid hc
  clear hc
  obtain ⟨c0, c1, c2⟩ := HI.out.1.keep HB2.out
  go_wp2_with fail
  refine (HC.out).mono ?_
  rintro e w3 ⟨rfl, hb3⟩
  have HB3 := Lib.hid (HB2.out.trans (hb3.mono HB2.out.size))
  clear c0 c1 c2 HC hb3
  by_cases hz : g3 = false
  · subst hz
    go_wp2_with fail
    refine (awake13_calls _).mono ?_
    rintro e wq ⟨rfl, hbq⟩
    have HQ := Lib.hid (HB3.out.trans (hbq.mono HB3.out.size))
    clear hbq
    go_wp2_with fail
    go_ret
    exact ⟨rfl, HB0.out.trans (HQ.out.mono HB0.out.size)⟩
  obtain rfl : g3 = true := by cases g3 <;> simp_all
  clear hz
  have hc := fits_calls w3 W (HV.out.2.stay HB3.out) HSM.out.2
  rw [← hg4.out] at hc
  have HC := Lib.hid hc
  clear hc
  obtain ⟨d0, d1, d2⟩ := HI.out.2.keep HB3.out
  go_wp2_with fail
  refine (HC.out).mono ?_
  rintro e w4 ⟨rfl, hb4⟩
  have HB4 := Lib.hid (HB3.out.trans (hb4.mono HB3.out.size))
  clear d0 d1 d2 HC hb4
  by_cases hz : g4 = false
  · subst hz
    go_wp2_with fail
    refine (awake13_calls _).mono ?_
    rintro e wq ⟨rfl, hbq⟩
    have HQ := Lib.hid (HB4.out.trans (hbq.mono HB4.out.size))
    clear hbq
    go_wp2_with fail
    go_ret
    exact ⟨rfl, HB0.out.trans (HQ.out.mono HB0.out.size)⟩
  obtain rfl : g4 = true := by cases g4 <;> simp_all
  clear hz
  have HM : Hid (mayK V W = true) := by rw [Hid, mayK, ← hg3.out, ← hg4.out]; rfl
  have HVW := Lib.hid (And.intro (HV.out.1.stay HB4.out) (HV.out.2.stay HB4.out))
  have HIW := Lib.hid (And.intro (HI.out.1.keep HB4.out) (HI.out.2.keep HB4.out))
  have HADD : Hid (∀ (w : World) (p q : Operand), (do eqGuard .add 3 p q (.int .i64 ((partsK V W).length : Int)) (.int .i64 ((leavK V W).length : Int)); binOp .add 3 (.int .i64 ((partsK V W).length : Int)) (.int .i64 ((leavK V W).length : Int)) : Sem Value).run Try.prog w = .ok (.int .i64 (V.ps.length : Int)) w) := run_add_i64 _ _ _ (by have := split_len HM.out; omega) (by omega)
  have HC1 : Hid (∀ q : After w4, Calls Try.prog 39 #[.agg #[.slice V.wa V.ws.length V.wc, .slice V.pa V.ps.length V.pc, .slice V.ca V.cs.length V.cc], .agg #[.slice W.wa W.ws.length W.wc, .slice W.pa W.ps.length W.pc, .slice W.ca W.cs.length W.cc]] q.to fun e w' => ∃ a' c', e = .returned (.slice a' (partsK V W).length c') ∧ Vec cZ 1 w' a' (partsK V W) c' ∧ Below q.to.heap.size q.to w') := fun q => ints_eq (cparts_calls q.to V W (HVW.out.1.stay q.bel) (HVW.out.2.stay q.bel) HSM.out.1 HSM.out.2) rfl
  have HC2 : Hid (∀ q : After w4, Calls Try.prog 44 #[.agg #[.slice V.wa V.ws.length V.wc, .slice V.pa V.ps.length V.pc, .slice V.ca V.cs.length V.cc], .agg #[.slice W.wa W.ws.length W.wc, .slice W.pa W.ps.length W.pc, .slice W.ca W.cs.length W.cc]] q.to fun e w' => ∃ a' c', e = .returned (.slice a' (leavK V W).length c') ∧ Vec cZ 1 w' a' (leavK V W) c' ∧ Below q.to.heap.size q.to w') := fun q => ints_eq (cleav_calls q.to V W (HVW.out.1.stay q.bel) (HVW.out.2.stay q.bel) HSM.out.1 HSM.out.2) rfl
  obtain ⟨c0, c1, c2⟩ := HIW.out.1
  obtain ⟨d0, d1, d2⟩ := HIW.out.2
  go_upto_region 3 with fail
  refine wp_region_tyg (cp3 V W) (by kernel_rfl) (by kernel_rfl) (cp3_stay V W) ?_ ?_
  · refine opsAll_cons ?_ (opsAll_cons ?_ (opsAll_cons ?_ (opsAll_cons ?_ (opsAll_cons ?_ (opsAll_cons ?_ (opsAll_cons ?_ (opsAll_cons ?_ (opsAll_cons ?_ (opsAll_cons ?_ opsAll_nil)))))))))
    all_goals intro a wx hk
    · exact .inl ⟨wanted_free rfl, gp_load (.tmp 2) rfl (show a.eval (.tmp 2) = (.pointer (some ⟨w.heap.size, 0, none⟩)) from ((hk.old 2 (by kernel_rfl)).trans rfl)) ((fun (q : After _) => load3 (fun w => by kernel_rfl) (fun w => by kernel_rfl) (keep q.bel c0) (keep q.bel c1) (keep q.bel c2)) ⟨wx, hk.below⟩) ⟨Below.refl _ _, rfl⟩⟩
    · exact .inl ⟨wanted_free rfl, gp_load (.tmp 3) rfl (show a.eval (.tmp 3) = (.pointer (some ⟨w.heap.size + 1, 0, none⟩)) from ((hk.old 3 (by kernel_rfl)).trans rfl)) ((fun (q : After _) => load3 (fun w => by kernel_rfl) (fun w => by kernel_rfl) (keep q.bel d0) (keep q.bel d1) (keep q.bel d2)) ⟨wx, hk.below⟩) ⟨Below.refl _ _, rfl⟩⟩
    · exact .inl ⟨wanted_free rfl, gp_call rfl (hk.fn _) #[.agg #[.slice V.wa V.ws.length V.wc, .slice V.pa V.ps.length V.pc, .slice V.ca V.cs.length V.cc], .agg #[.slice W.wa W.ws.length W.wc, .slice W.pa W.ps.length W.pc, .slice W.ca W.cs.length W.cc]] (fun w => by kernel_rfl) (by simp only [List.map_toArray, List.map_cons, List.map_nil, (show a.eval (.tmp 32) = (.agg #[.slice V.wa V.ws.length V.wc, .slice V.pa V.ps.length V.pc, .slice V.ca V.cs.length V.cc]) from hk.slot 32 (by kernel_rfl)), (show a.eval (.tmp 33) = (.agg #[.slice W.wa W.ws.length W.wc, .slice W.pa W.ps.length W.pc, .slice W.ca W.cs.length W.cc]) from hk.slot 33 (by kernel_rfl))]) (((fun (q : After _) => HC1.out q) ⟨wx, hk.below⟩).mono fun e w' ⟨b, c, he, hv, hb⟩ => ⟨_, he, hb, b, c, rfl, hv⟩)⟩
    · obtain ⟨b1, k1, e1, q1⟩ := hk.slot 34 (by kernel_rfl)
      exact .inl ⟨wanted_free rfl, gp_len rfl (by kernel_rfl) e1 ⟨Below.refl _ _, rfl⟩⟩
    · exact .inl ⟨wanted_free rfl, gp_load (.tmp 2) rfl (show a.eval (.tmp 2) = (.pointer (some ⟨w.heap.size, 0, none⟩)) from ((hk.old 2 (by kernel_rfl)).trans rfl)) ((fun (q : After _) => load3 (fun w => by kernel_rfl) (fun w => by kernel_rfl) (keep q.bel c0) (keep q.bel c1) (keep q.bel c2)) ⟨wx, hk.below⟩) ⟨Below.refl _ _, rfl⟩⟩
    · exact .inl ⟨wanted_free rfl, gp_load (.tmp 3) rfl (show a.eval (.tmp 3) = (.pointer (some ⟨w.heap.size + 1, 0, none⟩)) from ((hk.old 3 (by kernel_rfl)).trans rfl)) ((fun (q : After _) => load3 (fun w => by kernel_rfl) (fun w => by kernel_rfl) (keep q.bel d0) (keep q.bel d1) (keep q.bel d2)) ⟨wx, hk.below⟩) ⟨Below.refl _ _, rfl⟩⟩
    · exact .inl ⟨wanted_free rfl, gp_call rfl (hk.fn _) #[.agg #[.slice V.wa V.ws.length V.wc, .slice V.pa V.ps.length V.pc, .slice V.ca V.cs.length V.cc], .agg #[.slice W.wa W.ws.length W.wc, .slice W.pa W.ps.length W.pc, .slice W.ca W.cs.length W.cc]] (fun w => by kernel_rfl) (by simp only [List.map_toArray, List.map_cons, List.map_nil, (show a.eval (.tmp 36) = (.agg #[.slice V.wa V.ws.length V.wc, .slice V.pa V.ps.length V.pc, .slice V.ca V.cs.length V.cc]) from hk.slot 36 (by kernel_rfl)), (show a.eval (.tmp 37) = (.agg #[.slice W.wa W.ws.length W.wc, .slice W.pa W.ps.length W.pc, .slice W.ca W.cs.length W.cc]) from hk.slot 37 (by kernel_rfl))]) (((fun (q : After _) => HC2.out q) ⟨wx, hk.below⟩).mono fun e w' ⟨b, c, he, hv, hb⟩ => ⟨_, he, hb, b, c, rfl, hv⟩)⟩
    · obtain ⟨b1, k1, e1, q1⟩ := hk.slot 38 (by kernel_rfl)
      exact .inl ⟨wanted_free rfl, gp_len rfl (by kernel_rfl) e1 ⟨Below.refl _ _, rfl⟩⟩
    · exact .inl ⟨wanted_free rfl, gp_bin rfl (show a.eval (.tmp 35) = (.int .i64 ((partsK V W).length : Int)) from hk.slot 35 (by kernel_rfl)) (show a.eval (.tmp 39) = (.int .i64 ((leavK V W).length : Int)) from hk.slot 39 (by kernel_rfl)) (v := .int .i64 (V.ps.length : Int)) (fun w => HADD.out w _ _) ⟨Below.refl _ _, rfl⟩⟩
    · exact .inl ⟨wanted_free rfl, gp_assign (.tmp 40) rfl ⟨Below.refl _ _, hk.slot 40 (by kernel_rfl)⟩⟩
  intro a w5 hbz hsame hall
  have he := act_same hsame [32, 33, 34, 35, 36, 37, 38, 39, 40, 5] (by kernel_rfl)
  simp only [List.foldl_cons, List.foldl_nil] at he
  rw [show a.eval (.tmp 5) = (.int .i64 (V.ps.length : Int)) from hall 5 (by kernel_rfl)] at he
  generalize a.eval (.tmp 32) = y32 at he
  generalize a.eval (.tmp 33) = y33 at he
  generalize a.eval (.tmp 34) = y34 at he
  generalize a.eval (.tmp 35) = y35 at he
  generalize a.eval (.tmp 36) = y36 at he
  generalize a.eval (.tmp 37) = y37 at he
  generalize a.eval (.tmp 38) = y38 at he
  generalize a.eval (.tmp 39) = y39 at he
  generalize a.eval (.tmp 40) = y40 at he
  simp only [put_lit] at he
  dsimp only [List.set_cons_zero, List.set_cons_succ] at he
  subst he
  clear hsame hall
  have HB5 := Lib.hid hbz
  clear hbz c0 c1 c2 d0 d1 d2 HC1 HC2 HADD
  go_wp2_with fail
  go_loopw [6] (fun i wr => ∃ k : Nat, i = .int .i64 (k : Int) ∧ k ≤ V.ps.length ∧ Below w4.heap.size w4 wr) (fun i _ => V.ps.length - (intOf i).toNat)
  case atStart => exact ⟨0, rfl, Nat.zero_le _, HB5.out⟩
  case round =>
    obtain ⟨k, rfl, hk, B⟩ := hrel
    have HBB := Lib.hid B
    obtain ⟨c0, c1, c2⟩ := HIW.out.1.keep B
    obtain ⟨d0, d1, d2⟩ := HIW.out.2.keep B
    clear B
    by_cases hlt : k < V.ps.length
    · have i0 := HVW.out.1.pts.index etP k hlt
      have u : ∀ q : After wr, _ := fun q => pts_cells HVW.out.1.pts (HBB.out.trans (q.bel.mono HBB.out.size)) k hlt
      have HSS := Lib.hid (split_surv HM.out V.ps[k] (List.getElem_mem hlt))
      obtain ⟨x, hx⟩ : ∃ x, Hid (x = V.ps[k]) := ⟨V.ps[k], rfl⟩
      rw [← hx.out] at HSS
      have u0 : ∀ q : After wr, q.to.cell? (ad V.pa (k * 5)) = some (.int .i64 x.id.1) := fun q => by rw [hx.out]; exact (u q).1
      obtain ⟨i, hi⟩ : ∃ i, Hid (i = x.id.1) := ⟨_, rfl⟩
      rw [← hi.out] at u0 HSS
      obtain ⟨Q, hQ⟩ : ∃ Q, Hid (Q = getP W.ps i) := ⟨_, rfl⟩
      have HQ : Hid (getP W.ps i = Q) := hQ.out.symm
      obtain ⟨h, hh⟩ : ∃ h, Hid (h = hasP W.ps i) := ⟨_, rfl⟩
      have HK : Hid (hasP W.ps i = h) := hh.out.symm
      go_upto_region 7 with fail
      refine wp_region_boxes cp7B (fun _ => isBx (Q)) (cp7T V W w.heap.size k i Q h) (by kernel_rfl) (by kernel_rfl) (by kernel_rfl) (fun _ _ _ _ hG hyp => cp7T_bx V W w.heap.size k i Q h hG hyp) (fun _ _ _ _ hG hyp => isBx_bx (fun _ _ => neUP) hG hyp) ?_ ?_ (fun j hj => by
          have : j = 0 := by have : j < 1 := hj; omega
          subst this; exact ⟨by decide, by decide⟩)
      · refine opsAll_cons ?_ (opsAll_cons ?_ (opsAll_cons ?_ (opsAll_cons ?_ (opsAll_cons ?_ (opsAll_cons ?_ (opsAll_cons ?_ (opsAll_cons ?_ (opsAll_cons ?_ (opsAll_cons ?_ (opsAll_cons ?_ (opsAll_cons ?_ (opsAll_cons ?_ (opsAll_cons ?_ opsAll_nil)))))))))))))
        all_goals intro δ wa wx hk
        · exact .inl ⟨wanted_free rfl, necp7 (by decide) (by decide) (by decide), gp_load (.tmp 3) rfl ((hk.old 3 (by kernel_rfl)).trans rfl) (v := (.agg #[.slice W.wa W.ws.length W.wc, .slice W.pa W.ps.length W.pc, .slice W.ca W.cs.length W.cc])) ((fun (q : After _) => load3 (fun w => by kernel_rfl) (fun w => by kernel_rfl) (keep q.bel d0) (keep q.bel d1) (keep q.bel d2)) ⟨wx, hk.inv.1⟩) ⟨Below.refl _ _, rfl⟩⟩
        · exact .inl ⟨wanted_free rfl, necp7 (by decide) (by decide) (by decide), gp_field (.tmp 2) rfl ((hk.old 2 (by kernel_rfl)).trans rfl) (v := (.pointer (some ⟨w.heap.size, 1, none⟩))) (fun w => by kernel_rfl) ⟨Below.refl _ _, rfl⟩⟩
        · exact .inl ⟨wanted_free rfl, necp7 (by decide) (by decide) (by decide), gp_load (.tmp 50) rfl (hk.slot 50 (by kernel_rfl)) (v := (.slice V.pa V.ps.length V.pc)) ((fun (q : After _) => load_at (fun w => by kernel_rfl) (keep q.bel c1)) ⟨wx, hk.inv.1⟩) ⟨Below.refl _ _, rfl⟩⟩
        · exact .inl ⟨wanted_free rfl, necp7 (by decide) (by decide) (by decide), gp_move (.tmp 6) rfl ⟨Below.refl _ _, ((hk.old 6 (by kernel_rfl)).trans rfl)⟩⟩
        · exact .inl ⟨wanted_free rfl, necp7 (by decide) (by decide) (by decide), gp_index (.tmp 51) (.tmp 52) rfl (hk.slot 51 (by kernel_rfl)) (hk.slot 52 (by kernel_rfl)) (v := (.pointer (some (ad V.pa (k * 5))))) (i0 wx) ⟨Below.refl _ _, rfl⟩⟩
        · exact .inl ⟨wanted_free rfl, necp7 (by decide) (by decide) (by decide), gp_field (.tmp 53) rfl (hk.slot 53 (by kernel_rfl)) (v := (.pointer (some (ad V.pa (k * 5))))) (fun w => by kernel_rfl) ⟨Below.refl _ _, rfl⟩⟩
        · exact .inl ⟨wanted_free rfl, necp7 (by decide) (by decide) (by decide), gp_load (.tmp 54) rfl (hk.slot 54 (by kernel_rfl)) (v := (.int .i64 i)) ((fun (q : After _) => load_at (fun w => by kernel_rfl) (u0 q)) ⟨wx, hk.inv.1⟩) ⟨Below.refl _ _, rfl⟩⟩
        · exact .inl ⟨wanted_free rfl, necp7 (by decide) (by decide) (by decide), gp_call rfl rfl #[(.agg #[.slice W.wa W.ws.length W.wc, .slice W.pa W.ps.length W.pc, .slice W.ca W.cs.length W.cc]), (.int .i64 i)] (fun w => by kernel_rfl) (by simp only [List.map_toArray, List.map_cons, List.map_nil, show wa.eval (.tmp 49) = (.agg #[.slice W.wa W.ws.length W.wc, .slice W.pa W.ps.length W.pc, .slice W.ca W.cs.length W.cc]) from (hk.slot 49 (by kernel_rfl)), show wa.eval (.tmp 55) = (.int .i64 i) from (hk.slot 55 (by kernel_rfl))]) ((fun (q : After _) => part_tup q.to W (HVW.out.2.stay (HBB.out.trans (q.bel.mono HBB.out.size))) HSM.out.2 i HQ.out HK.out) ⟨wx, hk.inv.1⟩)⟩
        · exact .inl ⟨wanted_free rfl, necp7 (by decide) (by decide) (by decide), gp_move (.tmp 56) rfl ⟨Below.refl _ _, (hk.slot 56 (by kernel_rfl))⟩⟩
        · obtain ⟨x, ex, hx⟩ := hk.slot 48 (by kernel_rfl)
          exact .inl ⟨wanted_free rfl, necp7 (by decide) (by decide) (by decide), gp_extract rfl ex rfl ⟨Below.refl _ _, x, rfl, hx⟩⟩
        · obtain ⟨x, ex, hx⟩ := hk.slot 48 (by kernel_rfl)
          exact .inl ⟨wanted_free rfl, necp7 (by decide) (by decide) (by decide), gp_extract rfl ex rfl ⟨Below.refl _ _, rfl⟩⟩
        · exact .inr (.inl ⟨0, by decide, rfl, rfl, rfl, allocP _ _ _ rfl, fun _ _ => trivial⟩)
        · obtain ⟨x, ex, hx⟩ := hk.slot 57 (by kernel_rfl)
          exact .inr (.inr ⟨0, cA x, by decide, rfl, rfl, rfl, ⟨x, rfl, hx⟩, rfl, fun g D hg hD hDs => storeP _ _ _ _ _ rfl hg ex hD hDs⟩)
        · exact .inl ⟨wanted_free rfl, necp7 (by decide) (by decide) (by decide), gp_assign (.tmp 58) rfl ⟨Below.refl _ _, (hk.slot 58 (by kernel_rfl))⟩⟩
      intro a wz hbz hsame hall hbox
      obtain ⟨p1, C1, ep1, hpl1, hC1, hX1, _⟩ := hbox 0 (by decide)
      obtain ⟨x1, rfl, hx1⟩ := hX1
      have he := act_same hsame [49, 50, 51, 52, 53, 54, 55, 56, 48, 57, 58, 7, 8] (by kernel_rfl)
      simp only [List.foldl_cons, List.foldl_nil] at he
      rw [show a.eval (.tmp 7) = _ from ep1, show a.eval (.tmp 8) = .bool h from hall 8 (by kernel_rfl)] at he
      generalize a.eval (.tmp 49) = y49 at he
      generalize a.eval (.tmp 50) = y50 at he
      generalize a.eval (.tmp 51) = y51 at he
      generalize a.eval (.tmp 52) = y52 at he
      generalize a.eval (.tmp 53) = y53 at he
      generalize a.eval (.tmp 54) = y54 at he
      generalize a.eval (.tmp 55) = y55 at he
      generalize a.eval (.tmp 56) = y56 at he
      generalize a.eval (.tmp 48) = y48 at he
      generalize a.eval (.tmp 57) = y57 at he
      generalize a.eval (.tmp 58) = y58 at he
      simp only [put_lit] at he
      dsimp only [List.set_cons_zero, List.set_cons_succ] at he
      subst he
      have HBX1 := Lib.hid (And.intro hbz (And.intro hC1 (And.intro hx1 hpl1)))
      clear hsame hall hbox ep1 hbz hC1 hx1 hpl1
      have HBB2 := Lib.hid (HBB.out.trans (HBX1.out.1.mono HBB.out.size))
      obtain ⟨q, hq⟩ : ∃ q, Hid (q = Q.keep) := ⟨_, rfl⟩
      obtain ⟨t, ht⟩ : ∃ t, Hid (t = x.keep) := ⟨_, rfl⟩
      obtain ⟨s1, hs1⟩ : ∃ t, Hid (t = Q.reg.size.1) := ⟨_, rfl⟩
      obtain ⟨s2, hs2⟩ : ∃ t, Hid (t = x.reg.size.1) := ⟨_, rfl⟩
      obtain ⟨e, HEE⟩ : ∃ t, Hid (decide ((s1 : Int) = s2) = t) := ⟨_, rfl⟩
      have HSE : Hid (survK V W i = (((h && q) && t) && e)) := by rw [Hid, HSS.out, HQ.out, HK.out, hq.out, ht.out, ← HEE.out, hs1.out, hs2.out]
      have HEE : Hid (((s1 : Int) == s2) = e) := HEE.out
      have x2 : ∀ q : After wz, q.to.cell? ⟨p1, 2, none⟩ = some (.int .i64 s1) := fun q => After.cell (by rw [World.cell?, HBX1.out.2.1, hs1.out, ← show x1.reg.size.1 = Q.reg.size.1 from congrArg (fun p : Pt => p.reg.size.1) HBX1.out.2.2.1.1]; rfl) q
      have x3 : ∀ q' : After wz, q'.to.cell? ⟨p1, 3, none⟩ = some (.bool q) := fun q' => After.cell (by rw [World.cell?, HBX1.out.2.1, hq.out, ← show x1.keep = Q.keep from congrArg Pt.keep HBX1.out.2.2.1.1]; rfl) q'
      have u : ∀ q : After wz, _ := fun q => pts_cells HVW.out.1.pts (HBB2.out.trans (q.bel.mono HBB2.out.size)) k hlt
      have u0 : ∀ q : After wz, q.to.cell? (ad V.pa (k * 5)) = some (.int .i64 i) := fun q => by rw [hi.out, hx.out]; exact (u q).1
      have u2 : ∀ q : After wz, q.to.cell? ⟨(ad V.pa (k * 5)).block, (ad V.pa (k * 5)).off + 2, none⟩ = some (.int .i64 s2) := fun q => by rw [hs2.out, hx.out]; exact (u q).2.2.1
      have u3 : ∀ q : After wz, q.to.cell? ⟨(ad V.pa (k * 5)).block, (ad V.pa (k * 5)).off + 3, none⟩ = some (.bool t) := fun q => by rw [ht.out, hx.out]; exact (u q).2.2.2.1
      have HC1 : Hid (∀ q' : After wz, Calls Try.prog 36 #[.agg #[.slice V.wa V.ws.length V.wc, .slice V.pa V.ps.length V.pc, .slice V.ca V.cs.length V.cc], .agg #[.slice W.wa W.ws.length W.wc, .slice W.pa W.ps.length W.pc, .slice W.ca W.cs.length W.cc], .int .i64 i] q'.to fun e' w' => e' = .returned (.bool (((h && q) && t) && e)) ∧ Below q'.to.heap.size q'.to w') := fun q' => by
        have := surv_calls q'.to V W (HVW.out.1.stay (HBB2.out.trans (q'.bel.mono HBB2.out.size))) (HVW.out.2.stay (HBB2.out.trans (q'.bel.mono HBB2.out.size))) HSM.out.1 HSM.out.2 i
        rwa [HSE.out] at this
      clear c0 c1 c2 d0 d1 d2
      obtain ⟨c0, c1, c2⟩ := HIW.out.1.keep HBB2.out
      obtain ⟨d0, d1, d2⟩ := HIW.out.2.keep HBB2.out
      go_upto_region 8 with fail
      refine wp_region_vals (cp8 V W w.heap.size k p1 i s1 s2 h q t e) (cp8o V W w.heap.size k p1 i s1 s2 h q t e) [2, 3, 6, 7, 8] (by kernel_rfl) (by kernel_rfl) (by kernel_rfl) ⟨rfl, rfl, rfl, rfl, rfl, trivial⟩ ?_ ?_
      · refine opsAll_cons ?_ (opsAll_cons ?_ (opsAll_cons ?_ (opsAll_cons ?_ (opsAll_cons ?_ (opsAll_cons ?_ (opsAll_cons ?_ (opsAll_cons ?_ (opsAll_cons ?_ (opsAll_cons ?_ (opsAll_cons ?_ (opsAll_cons ?_ (opsAll_cons ?_ (opsAll_cons ?_ (opsAll_cons ?_ (opsAll_cons ?_ (opsAll_cons ?_ (opsAll_cons ?_ (opsAll_cons ?_ (opsAll_cons ?_ (opsAll_cons ?_ (opsAll_cons ?_ (opsAll_cons ?_ (opsAll_cons ?_ (opsAll_cons ?_ (opsAll_cons ?_ (opsAll_cons ?_ (opsAll_cons ?_ (opsAll_cons ?_ (opsAll_cons ?_ (opsAll_cons ?_ (opsAll_cons ?_ (opsAll_cons ?_ (opsAll_cons ?_ (opsAll_cons ?_ (opsAll_cons ?_ opsAll_nil)))))))))))))))))))))))))))))))))))
        all_goals intro a hk
        · -- slot 59
          exact .inl ⟨wanted_free rfl, q_load (.tmp 2) rfl (show a.eval (.tmp 2) = (.pointer (some ⟨w.heap.size, 0, none⟩)) from hk.old 2 (by kernel_rfl) (by kernel_rfl)) (v := (.agg #[.slice V.wa V.ws.length V.wc, .slice V.pa V.ps.length V.pc, .slice V.ca V.cs.length V.cc])) (fun q => load3 (fun w => by kernel_rfl) (fun w => by kernel_rfl) (keep q.bel c0) (keep q.bel c1) (keep q.bel c2)) rfl⟩
        · -- slot 60
          exact .inl ⟨wanted_free rfl, q_load (.tmp 3) rfl (show a.eval (.tmp 3) = (.pointer (some ⟨w.heap.size + 1, 0, none⟩)) from hk.old 3 (by kernel_rfl) (by kernel_rfl)) (v := (.agg #[.slice W.wa W.ws.length W.wc, .slice W.pa W.ps.length W.pc, .slice W.ca W.cs.length W.cc])) (fun q => load3 (fun w => by kernel_rfl) (fun w => by kernel_rfl) (keep q.bel d0) (keep q.bel d1) (keep q.bel d2)) rfl⟩
        · -- slot 61
          exact .inl ⟨wanted_free rfl, q_field (.tmp 2) rfl (show a.eval (.tmp 2) = (.pointer (some ⟨w.heap.size, 0, none⟩)) from hk.old 2 (by kernel_rfl) (by kernel_rfl)) (v := (.pointer (some ⟨w.heap.size, 1, none⟩))) (fun w => by kernel_rfl) rfl⟩
        · -- slot 62
          exact .inl ⟨wanted_free rfl, q_load (.tmp 61) rfl (show a.eval (.tmp 61) = (.pointer (some ⟨w.heap.size, 1, none⟩)) from hk.slot 61 (by kernel_rfl)) (v := (.slice V.pa V.ps.length V.pc)) (fun q => load_at (fun w => by kernel_rfl) (keep q.bel c1)) rfl⟩
        · -- slot 63
          exact .inl ⟨wanted_free rfl, q_move (.tmp 6) rfl (show a.eval (.tmp 6) = (.int .i64 (k : Int)) from hk.old 6 (by kernel_rfl) (by kernel_rfl))⟩
        · -- slot 64
          exact .inl ⟨wanted_free rfl, q_index (.tmp 62) (.tmp 63) rfl (show a.eval (.tmp 62) = (.slice V.pa V.ps.length V.pc) from hk.slot 62 (by kernel_rfl)) (show a.eval (.tmp 63) = (.int .i64 (k : Int)) from hk.slot 63 (by kernel_rfl)) (v := (.pointer (some (ad V.pa (k * 5))))) (fun w => i0 w) rfl⟩
        · -- slot 65
          exact .inl ⟨wanted_free rfl, q_field (.tmp 64) rfl (show a.eval (.tmp 64) = (.pointer (some (ad V.pa (k * 5)))) from hk.slot 64 (by kernel_rfl)) (v := (.pointer (some (ad V.pa (k * 5))))) (fun w => by kernel_rfl) rfl⟩
        · -- slot 66
          exact .inl ⟨wanted_free rfl, q_load (.tmp 65) rfl (show a.eval (.tmp 65) = (.pointer (some (ad V.pa (k * 5)))) from hk.slot 65 (by kernel_rfl)) (v := (.int .i64 i)) (fun q => load_at (fun w => by kernel_rfl) (u0 q)) rfl⟩
        · -- slot 67
          exact .inl ⟨wanted_free rfl, q_call rfl rfl #[(.agg #[.slice V.wa V.ws.length V.wc, .slice V.pa V.ps.length V.pc, .slice V.ca V.cs.length V.cc]), (.agg #[.slice W.wa W.ws.length W.wc, .slice W.pa W.ps.length W.pc, .slice W.ca W.cs.length W.cc]), (.int .i64 i)] (fun w => by kernel_rfl) (by simp only [List.map_toArray, List.map_cons, List.map_nil, (show a.eval (.tmp 59) = (.agg #[.slice V.wa V.ws.length V.wc, .slice V.pa V.ps.length V.pc, .slice V.ca V.cs.length V.cc]) from hk.slot 59 (by kernel_rfl)), (show a.eval (.tmp 60) = (.agg #[.slice W.wa W.ws.length W.wc, .slice W.pa W.ps.length W.pc, .slice W.ca W.cs.length W.cc]) from hk.slot 60 (by kernel_rfl)), (show a.eval (.tmp 66) = (.int .i64 i) from hk.slot 66 (by kernel_rfl))]) (v := (.bool (((h && q) && t) && e))) (fun q => HC1.out q) rfl⟩
        · -- slot 68
          exact .inl ⟨wanted_free rfl, q_move (.tmp 8) rfl (show a.eval (.tmp 8) = (.bool h) from hk.old 8 (by kernel_rfl) (by kernel_rfl))⟩
        · -- slot 69
          exact .inl ⟨wanted_free rfl, q_move (.tmp 68) rfl (show a.eval (.tmp 68) = (.bool h) from hk.slot 68 (by kernel_rfl))⟩
        · -- slot 70
          cases h with
          | true =>
            exact .inl ⟨wanted_by 69 true (by kernel_rfl) (show a.eval (.tmp 69) = (.bool true) from hk.slot 69 (by kernel_rfl)), q_field (.tmp 7) rfl (show a.eval (.tmp 7) = (.pointer (some ⟨p1, 0, none⟩)) from hk.old 7 (by kernel_rfl) (by kernel_rfl)) (v := (.pointer (some ⟨p1, 3, none⟩))) (fun w => by kernel_rfl) rfl⟩
          | false =>
            exact .inr ⟨unwanted_by 69 true (by kernel_rfl) (show a.eval (.tmp 69) = (.bool false) from hk.slot 69 (by kernel_rfl)), rfl⟩
        · -- slot 71
          cases h with
          | true =>
            exact .inl ⟨wanted_by 69 true (by kernel_rfl) (show a.eval (.tmp 69) = (.bool true) from hk.slot 69 (by kernel_rfl)), q_load (.tmp 70) rfl (show a.eval (.tmp 70) = (.pointer (some ⟨p1, 3, none⟩)) from hk.slot 70 (by kernel_rfl)) (v := (.bool q)) (fun q => load_at (fun w => by kernel_rfl) (x3 q)) rfl⟩
          | false =>
            exact .inr ⟨unwanted_by 69 true (by kernel_rfl) (show a.eval (.tmp 69) = (.bool false) from hk.slot 69 (by kernel_rfl)), rfl⟩
        · -- slot 72
          cases h with
          | true =>
            exact .inl ⟨wanted_free rfl, q_pick rfl true (show a.eval (.tmp 69) = (.bool true) from hk.slot 69 (by kernel_rfl)) (show a.eval (.tmp 71) = (.bool q) from hk.slot 71 (by kernel_rfl))⟩
          | false =>
            exact .inl ⟨wanted_free rfl, q_pick rfl false (show a.eval (.tmp 69) = (.bool false) from hk.slot 69 (by kernel_rfl)) rfl⟩
        · -- slot 73
          exact .inl ⟨wanted_free rfl, q_move (.tmp 72) rfl (show a.eval (.tmp 72) = (.bool (h && q)) from hk.slot 72 (by kernel_rfl))⟩
        · -- slot 74
          cases h with
          | true =>
            cases q with
            | true =>
              exact .inl ⟨wanted_by 73 true (by kernel_rfl) (show a.eval (.tmp 73) = (.bool (true && true)) from hk.slot 73 (by kernel_rfl)), q_field (.tmp 2) rfl (show a.eval (.tmp 2) = (.pointer (some ⟨w.heap.size, 0, none⟩)) from hk.old 2 (by kernel_rfl) (by kernel_rfl)) (v := (.pointer (some ⟨w.heap.size, 1, none⟩))) (fun w => by kernel_rfl) rfl⟩
            | false =>
              exact .inr ⟨unwanted_by 73 true (by kernel_rfl) (show a.eval (.tmp 73) = (.bool (true && false)) from hk.slot 73 (by kernel_rfl)), rfl⟩
          | false =>
            exact .inr ⟨unwanted_by 73 true (by kernel_rfl) (show a.eval (.tmp 73) = (.bool (false && q)) from hk.slot 73 (by kernel_rfl)), rfl⟩
        · -- slot 75
          cases h with
          | true =>
            cases q with
            | true =>
              exact .inl ⟨wanted_by 73 true (by kernel_rfl) (show a.eval (.tmp 73) = (.bool (true && true)) from hk.slot 73 (by kernel_rfl)), q_load (.tmp 74) rfl (show a.eval (.tmp 74) = (.pointer (some ⟨w.heap.size, 1, none⟩)) from hk.slot 74 (by kernel_rfl)) (v := (.slice V.pa V.ps.length V.pc)) (fun q => load_at (fun w => by kernel_rfl) (keep q.bel c1)) rfl⟩
            | false =>
              exact .inr ⟨unwanted_by 73 true (by kernel_rfl) (show a.eval (.tmp 73) = (.bool (true && false)) from hk.slot 73 (by kernel_rfl)), rfl⟩
          | false =>
            exact .inr ⟨unwanted_by 73 true (by kernel_rfl) (show a.eval (.tmp 73) = (.bool (false && q)) from hk.slot 73 (by kernel_rfl)), rfl⟩
        · -- slot 76
          cases h with
          | true =>
            cases q with
            | true =>
              exact .inl ⟨wanted_by 73 true (by kernel_rfl) (show a.eval (.tmp 73) = (.bool (true && true)) from hk.slot 73 (by kernel_rfl)), q_move (.tmp 6) rfl (show a.eval (.tmp 6) = (.int .i64 (k : Int)) from hk.old 6 (by kernel_rfl) (by kernel_rfl))⟩
            | false =>
              exact .inr ⟨unwanted_by 73 true (by kernel_rfl) (show a.eval (.tmp 73) = (.bool (true && false)) from hk.slot 73 (by kernel_rfl)), rfl⟩
          | false =>
            exact .inr ⟨unwanted_by 73 true (by kernel_rfl) (show a.eval (.tmp 73) = (.bool (false && q)) from hk.slot 73 (by kernel_rfl)), rfl⟩
        · -- slot 77
          cases h with
          | true =>
            cases q with
            | true =>
              exact .inl ⟨wanted_by 73 true (by kernel_rfl) (show a.eval (.tmp 73) = (.bool (true && true)) from hk.slot 73 (by kernel_rfl)), q_index (.tmp 75) (.tmp 76) rfl (show a.eval (.tmp 75) = (.slice V.pa V.ps.length V.pc) from hk.slot 75 (by kernel_rfl)) (show a.eval (.tmp 76) = (.int .i64 (k : Int)) from hk.slot 76 (by kernel_rfl)) (v := (.pointer (some (ad V.pa (k * 5))))) (fun w => i0 w) rfl⟩
            | false =>
              exact .inr ⟨unwanted_by 73 true (by kernel_rfl) (show a.eval (.tmp 73) = (.bool (true && false)) from hk.slot 73 (by kernel_rfl)), rfl⟩
          | false =>
            exact .inr ⟨unwanted_by 73 true (by kernel_rfl) (show a.eval (.tmp 73) = (.bool (false && q)) from hk.slot 73 (by kernel_rfl)), rfl⟩
        · -- slot 78
          cases h with
          | true =>
            cases q with
            | true =>
              exact .inl ⟨wanted_by 73 true (by kernel_rfl) (show a.eval (.tmp 73) = (.bool (true && true)) from hk.slot 73 (by kernel_rfl)), q_field (.tmp 77) rfl (show a.eval (.tmp 77) = (.pointer (some (ad V.pa (k * 5)))) from hk.slot 77 (by kernel_rfl)) (v := (.pointer (some ⟨(ad V.pa (k * 5)).block, (ad V.pa (k * 5)).off + 3, none⟩))) (fun w => by kernel_rfl) rfl⟩
            | false =>
              exact .inr ⟨unwanted_by 73 true (by kernel_rfl) (show a.eval (.tmp 73) = (.bool (true && false)) from hk.slot 73 (by kernel_rfl)), rfl⟩
          | false =>
            exact .inr ⟨unwanted_by 73 true (by kernel_rfl) (show a.eval (.tmp 73) = (.bool (false && q)) from hk.slot 73 (by kernel_rfl)), rfl⟩
        · -- slot 79
          cases h with
          | true =>
            cases q with
            | true =>
              exact .inl ⟨wanted_by 73 true (by kernel_rfl) (show a.eval (.tmp 73) = (.bool (true && true)) from hk.slot 73 (by kernel_rfl)), q_load (.tmp 78) rfl (show a.eval (.tmp 78) = (.pointer (some ⟨(ad V.pa (k * 5)).block, (ad V.pa (k * 5)).off + 3, none⟩)) from hk.slot 78 (by kernel_rfl)) (v := (.bool t)) (fun q => load_at (fun w => by kernel_rfl) (u3 q)) rfl⟩
            | false =>
              exact .inr ⟨unwanted_by 73 true (by kernel_rfl) (show a.eval (.tmp 73) = (.bool (true && false)) from hk.slot 73 (by kernel_rfl)), rfl⟩
          | false =>
            exact .inr ⟨unwanted_by 73 true (by kernel_rfl) (show a.eval (.tmp 73) = (.bool (false && q)) from hk.slot 73 (by kernel_rfl)), rfl⟩
        · -- slot 80
          cases h with
          | true =>
            cases q with
            | true =>
              exact .inl ⟨wanted_free rfl, q_pick rfl true (show a.eval (.tmp 73) = (.bool (true && true)) from hk.slot 73 (by kernel_rfl)) (show a.eval (.tmp 79) = (.bool t) from hk.slot 79 (by kernel_rfl))⟩
            | false =>
              exact .inl ⟨wanted_free rfl, q_pick rfl false (show a.eval (.tmp 73) = (.bool (true && false)) from hk.slot 73 (by kernel_rfl)) rfl⟩
          | false =>
            exact .inl ⟨wanted_free rfl, q_pick rfl false (show a.eval (.tmp 73) = (.bool (false && q)) from hk.slot 73 (by kernel_rfl)) rfl⟩
        · -- slot 81
          exact .inl ⟨wanted_free rfl, q_move (.tmp 80) rfl (show a.eval (.tmp 80) = (.bool ((h && q) && t)) from hk.slot 80 (by kernel_rfl))⟩
        · -- slot 82
          cases h with
          | true =>
            cases q with
            | true =>
              cases t with
              | true =>
                exact .inl ⟨wanted_by 81 true (by kernel_rfl) (show a.eval (.tmp 81) = (.bool ((true && true) && true)) from hk.slot 81 (by kernel_rfl)), q_field (.tmp 7) rfl (show a.eval (.tmp 7) = (.pointer (some ⟨p1, 0, none⟩)) from hk.old 7 (by kernel_rfl) (by kernel_rfl)) (v := (.pointer (some ⟨p1, 1, none⟩))) (fun w => by kernel_rfl) rfl⟩
              | false =>
                exact .inr ⟨unwanted_by 81 true (by kernel_rfl) (show a.eval (.tmp 81) = (.bool ((true && true) && false)) from hk.slot 81 (by kernel_rfl)), rfl⟩
            | false =>
              exact .inr ⟨unwanted_by 81 true (by kernel_rfl) (show a.eval (.tmp 81) = (.bool ((true && false) && t)) from hk.slot 81 (by kernel_rfl)), rfl⟩
          | false =>
            exact .inr ⟨unwanted_by 81 true (by kernel_rfl) (show a.eval (.tmp 81) = (.bool ((false && q) && t)) from hk.slot 81 (by kernel_rfl)), rfl⟩
        · -- slot 83
          cases h with
          | true =>
            cases q with
            | true =>
              cases t with
              | true =>
                exact .inl ⟨wanted_by 81 true (by kernel_rfl) (show a.eval (.tmp 81) = (.bool ((true && true) && true)) from hk.slot 81 (by kernel_rfl)), q_field (.tmp 82) rfl (show a.eval (.tmp 82) = (.pointer (some ⟨p1, 1, none⟩)) from hk.slot 82 (by kernel_rfl)) (v := (.pointer (some ⟨p1, 2, none⟩))) (fun w => by kernel_rfl) rfl⟩
              | false =>
                exact .inr ⟨unwanted_by 81 true (by kernel_rfl) (show a.eval (.tmp 81) = (.bool ((true && true) && false)) from hk.slot 81 (by kernel_rfl)), rfl⟩
            | false =>
              exact .inr ⟨unwanted_by 81 true (by kernel_rfl) (show a.eval (.tmp 81) = (.bool ((true && false) && t)) from hk.slot 81 (by kernel_rfl)), rfl⟩
          | false =>
            exact .inr ⟨unwanted_by 81 true (by kernel_rfl) (show a.eval (.tmp 81) = (.bool ((false && q) && t)) from hk.slot 81 (by kernel_rfl)), rfl⟩
        · -- slot 84
          cases h with
          | true =>
            cases q with
            | true =>
              cases t with
              | true =>
                exact .inl ⟨wanted_by 81 true (by kernel_rfl) (show a.eval (.tmp 81) = (.bool ((true && true) && true)) from hk.slot 81 (by kernel_rfl)), q_load (.tmp 83) rfl (show a.eval (.tmp 83) = (.pointer (some ⟨p1, 2, none⟩)) from hk.slot 83 (by kernel_rfl)) (v := (.int .i64 s1)) (fun q => load_at (fun w => by kernel_rfl) (x2 q)) rfl⟩
              | false =>
                exact .inr ⟨unwanted_by 81 true (by kernel_rfl) (show a.eval (.tmp 81) = (.bool ((true && true) && false)) from hk.slot 81 (by kernel_rfl)), rfl⟩
            | false =>
              exact .inr ⟨unwanted_by 81 true (by kernel_rfl) (show a.eval (.tmp 81) = (.bool ((true && false) && t)) from hk.slot 81 (by kernel_rfl)), rfl⟩
          | false =>
            exact .inr ⟨unwanted_by 81 true (by kernel_rfl) (show a.eval (.tmp 81) = (.bool ((false && q) && t)) from hk.slot 81 (by kernel_rfl)), rfl⟩
        · -- slot 85
          cases h with
          | true =>
            cases q with
            | true =>
              cases t with
              | true =>
                exact .inl ⟨wanted_by 81 true (by kernel_rfl) (show a.eval (.tmp 81) = (.bool ((true && true) && true)) from hk.slot 81 (by kernel_rfl)), q_field (.tmp 2) rfl (show a.eval (.tmp 2) = (.pointer (some ⟨w.heap.size, 0, none⟩)) from hk.old 2 (by kernel_rfl) (by kernel_rfl)) (v := (.pointer (some ⟨w.heap.size, 1, none⟩))) (fun w => by kernel_rfl) rfl⟩
              | false =>
                exact .inr ⟨unwanted_by 81 true (by kernel_rfl) (show a.eval (.tmp 81) = (.bool ((true && true) && false)) from hk.slot 81 (by kernel_rfl)), rfl⟩
            | false =>
              exact .inr ⟨unwanted_by 81 true (by kernel_rfl) (show a.eval (.tmp 81) = (.bool ((true && false) && t)) from hk.slot 81 (by kernel_rfl)), rfl⟩
          | false =>
            exact .inr ⟨unwanted_by 81 true (by kernel_rfl) (show a.eval (.tmp 81) = (.bool ((false && q) && t)) from hk.slot 81 (by kernel_rfl)), rfl⟩
        · -- slot 86
          cases h with
          | true =>
            cases q with
            | true =>
              cases t with
              | true =>
                exact .inl ⟨wanted_by 81 true (by kernel_rfl) (show a.eval (.tmp 81) = (.bool ((true && true) && true)) from hk.slot 81 (by kernel_rfl)), q_load (.tmp 85) rfl (show a.eval (.tmp 85) = (.pointer (some ⟨w.heap.size, 1, none⟩)) from hk.slot 85 (by kernel_rfl)) (v := (.slice V.pa V.ps.length V.pc)) (fun q => load_at (fun w => by kernel_rfl) (keep q.bel c1)) rfl⟩
              | false =>
                exact .inr ⟨unwanted_by 81 true (by kernel_rfl) (show a.eval (.tmp 81) = (.bool ((true && true) && false)) from hk.slot 81 (by kernel_rfl)), rfl⟩
            | false =>
              exact .inr ⟨unwanted_by 81 true (by kernel_rfl) (show a.eval (.tmp 81) = (.bool ((true && false) && t)) from hk.slot 81 (by kernel_rfl)), rfl⟩
          | false =>
            exact .inr ⟨unwanted_by 81 true (by kernel_rfl) (show a.eval (.tmp 81) = (.bool ((false && q) && t)) from hk.slot 81 (by kernel_rfl)), rfl⟩
        · -- slot 87
          cases h with
          | true =>
            cases q with
            | true =>
              cases t with
              | true =>
                exact .inl ⟨wanted_by 81 true (by kernel_rfl) (show a.eval (.tmp 81) = (.bool ((true && true) && true)) from hk.slot 81 (by kernel_rfl)), q_move (.tmp 6) rfl (show a.eval (.tmp 6) = (.int .i64 (k : Int)) from hk.old 6 (by kernel_rfl) (by kernel_rfl))⟩
              | false =>
                exact .inr ⟨unwanted_by 81 true (by kernel_rfl) (show a.eval (.tmp 81) = (.bool ((true && true) && false)) from hk.slot 81 (by kernel_rfl)), rfl⟩
            | false =>
              exact .inr ⟨unwanted_by 81 true (by kernel_rfl) (show a.eval (.tmp 81) = (.bool ((true && false) && t)) from hk.slot 81 (by kernel_rfl)), rfl⟩
          | false =>
            exact .inr ⟨unwanted_by 81 true (by kernel_rfl) (show a.eval (.tmp 81) = (.bool ((false && q) && t)) from hk.slot 81 (by kernel_rfl)), rfl⟩
        · -- slot 88
          cases h with
          | true =>
            cases q with
            | true =>
              cases t with
              | true =>
                exact .inl ⟨wanted_by 81 true (by kernel_rfl) (show a.eval (.tmp 81) = (.bool ((true && true) && true)) from hk.slot 81 (by kernel_rfl)), q_index (.tmp 86) (.tmp 87) rfl (show a.eval (.tmp 86) = (.slice V.pa V.ps.length V.pc) from hk.slot 86 (by kernel_rfl)) (show a.eval (.tmp 87) = (.int .i64 (k : Int)) from hk.slot 87 (by kernel_rfl)) (v := (.pointer (some (ad V.pa (k * 5))))) (fun w => i0 w) rfl⟩
              | false =>
                exact .inr ⟨unwanted_by 81 true (by kernel_rfl) (show a.eval (.tmp 81) = (.bool ((true && true) && false)) from hk.slot 81 (by kernel_rfl)), rfl⟩
            | false =>
              exact .inr ⟨unwanted_by 81 true (by kernel_rfl) (show a.eval (.tmp 81) = (.bool ((true && false) && t)) from hk.slot 81 (by kernel_rfl)), rfl⟩
          | false =>
            exact .inr ⟨unwanted_by 81 true (by kernel_rfl) (show a.eval (.tmp 81) = (.bool ((false && q) && t)) from hk.slot 81 (by kernel_rfl)), rfl⟩
        · -- slot 89
          cases h with
          | true =>
            cases q with
            | true =>
              cases t with
              | true =>
                exact .inl ⟨wanted_by 81 true (by kernel_rfl) (show a.eval (.tmp 81) = (.bool ((true && true) && true)) from hk.slot 81 (by kernel_rfl)), q_field (.tmp 88) rfl (show a.eval (.tmp 88) = (.pointer (some (ad V.pa (k * 5)))) from hk.slot 88 (by kernel_rfl)) (v := (.pointer (some ⟨(ad V.pa (k * 5)).block, (ad V.pa (k * 5)).off + 1, none⟩))) (fun w => by kernel_rfl) rfl⟩
              | false =>
                exact .inr ⟨unwanted_by 81 true (by kernel_rfl) (show a.eval (.tmp 81) = (.bool ((true && true) && false)) from hk.slot 81 (by kernel_rfl)), rfl⟩
            | false =>
              exact .inr ⟨unwanted_by 81 true (by kernel_rfl) (show a.eval (.tmp 81) = (.bool ((true && false) && t)) from hk.slot 81 (by kernel_rfl)), rfl⟩
          | false =>
            exact .inr ⟨unwanted_by 81 true (by kernel_rfl) (show a.eval (.tmp 81) = (.bool ((false && q) && t)) from hk.slot 81 (by kernel_rfl)), rfl⟩
        · -- slot 90
          cases h with
          | true =>
            cases q with
            | true =>
              cases t with
              | true =>
                exact .inl ⟨wanted_by 81 true (by kernel_rfl) (show a.eval (.tmp 81) = (.bool ((true && true) && true)) from hk.slot 81 (by kernel_rfl)), q_field (.tmp 89) rfl (show a.eval (.tmp 89) = (.pointer (some ⟨(ad V.pa (k * 5)).block, (ad V.pa (k * 5)).off + 1, none⟩)) from hk.slot 89 (by kernel_rfl)) (v := (.pointer (some ⟨(ad V.pa (k * 5)).block, (ad V.pa (k * 5)).off + 2, none⟩))) (fun w => by kernel_rfl) rfl⟩
              | false =>
                exact .inr ⟨unwanted_by 81 true (by kernel_rfl) (show a.eval (.tmp 81) = (.bool ((true && true) && false)) from hk.slot 81 (by kernel_rfl)), rfl⟩
            | false =>
              exact .inr ⟨unwanted_by 81 true (by kernel_rfl) (show a.eval (.tmp 81) = (.bool ((true && false) && t)) from hk.slot 81 (by kernel_rfl)), rfl⟩
          | false =>
            exact .inr ⟨unwanted_by 81 true (by kernel_rfl) (show a.eval (.tmp 81) = (.bool ((false && q) && t)) from hk.slot 81 (by kernel_rfl)), rfl⟩
        · -- slot 91
          cases h with
          | true =>
            cases q with
            | true =>
              cases t with
              | true =>
                exact .inl ⟨wanted_by 81 true (by kernel_rfl) (show a.eval (.tmp 81) = (.bool ((true && true) && true)) from hk.slot 81 (by kernel_rfl)), q_load (.tmp 90) rfl (show a.eval (.tmp 90) = (.pointer (some ⟨(ad V.pa (k * 5)).block, (ad V.pa (k * 5)).off + 2, none⟩)) from hk.slot 90 (by kernel_rfl)) (v := (.int .i64 s2)) (fun q => load_at (fun w => by kernel_rfl) (u2 q)) rfl⟩
              | false =>
                exact .inr ⟨unwanted_by 81 true (by kernel_rfl) (show a.eval (.tmp 81) = (.bool ((true && true) && false)) from hk.slot 81 (by kernel_rfl)), rfl⟩
            | false =>
              exact .inr ⟨unwanted_by 81 true (by kernel_rfl) (show a.eval (.tmp 81) = (.bool ((true && false) && t)) from hk.slot 81 (by kernel_rfl)), rfl⟩
          | false =>
            exact .inr ⟨unwanted_by 81 true (by kernel_rfl) (show a.eval (.tmp 81) = (.bool ((false && q) && t)) from hk.slot 81 (by kernel_rfl)), rfl⟩
        · -- slot 92
          cases h with
          | true =>
            cases q with
            | true =>
              cases t with
              | true =>
                exact .inl ⟨wanted_by 81 true (by kernel_rfl) (show a.eval (.tmp 81) = (.bool ((true && true) && true)) from hk.slot 81 (by kernel_rfl)), q_bin rfl (show a.eval (.tmp 84) = (.int .i64 s1) from hk.slot 84 (by kernel_rfl)) (show a.eval (.tmp 91) = (.int .i64 s2) from hk.slot 91 (by kernel_rfl)) (v := .bool (((s1 : Int) == s2))) (fun w => by kernel_rfl) (congrArg Value.bool (HEE.out))⟩
              | false =>
                exact .inr ⟨unwanted_by 81 true (by kernel_rfl) (show a.eval (.tmp 81) = (.bool ((true && true) && false)) from hk.slot 81 (by kernel_rfl)), rfl⟩
            | false =>
              exact .inr ⟨unwanted_by 81 true (by kernel_rfl) (show a.eval (.tmp 81) = (.bool ((true && false) && t)) from hk.slot 81 (by kernel_rfl)), rfl⟩
          | false =>
            exact .inr ⟨unwanted_by 81 true (by kernel_rfl) (show a.eval (.tmp 81) = (.bool ((false && q) && t)) from hk.slot 81 (by kernel_rfl)), rfl⟩
        · -- slot 93
          cases h with
          | true =>
            cases q with
            | true =>
              cases t with
              | true =>
                exact .inl ⟨wanted_free rfl, q_pick rfl true (show a.eval (.tmp 81) = (.bool ((true && true) && true)) from hk.slot 81 (by kernel_rfl)) (show a.eval (.tmp 92) = (.bool e) from hk.slot 92 (by kernel_rfl))⟩
              | false =>
                exact .inl ⟨wanted_free rfl, q_pick rfl false (show a.eval (.tmp 81) = (.bool ((true && true) && false)) from hk.slot 81 (by kernel_rfl)) rfl⟩
            | false =>
              exact .inl ⟨wanted_free rfl, q_pick rfl false (show a.eval (.tmp 81) = (.bool ((true && false) && t)) from hk.slot 81 (by kernel_rfl)) rfl⟩
          | false =>
            exact .inl ⟨wanted_free rfl, q_pick rfl false (show a.eval (.tmp 81) = (.bool ((false && q) && t)) from hk.slot 81 (by kernel_rfl)) rfl⟩
        · -- slot 94
          exact .inl ⟨wanted_free rfl, q_bin rfl (show a.eval (.tmp 67) = (.bool (((h && q) && t) && e)) from hk.slot 67 (by kernel_rfl)) (show a.eval (.tmp 93) = (.bool (((h && q) && t) && e)) from hk.slot 93 (by kernel_rfl)) (v := (.bool false)) (fun w => by cases h <;> cases q <;> cases t <;> cases e <;> go_simp) rfl⟩
      intro a ⟨w8, hb8⟩ hsame hall
      have he := act_same hsame [59, 60, 61, 62, 63, 64, 65, 66, 67, 68, 69, 70, 71, 72, 73, 74, 75, 76, 77, 78, 79, 80, 81, 82, 83, 84, 85, 86, 87, 88, 89, 90, 91, 92, 93, 94] (by kernel_rfl)
      simp only [List.foldl_cons, List.foldl_nil] at he
      rw [show a.eval (.tmp 94) = (.bool false) from (hall 94 (by kernel_rfl)).trans (rfl)] at he
      generalize a.eval (.tmp 59) = x59 at he
      generalize a.eval (.tmp 60) = x60 at he
      generalize a.eval (.tmp 61) = x61 at he
      generalize a.eval (.tmp 62) = x62 at he
      generalize a.eval (.tmp 63) = x63 at he
      generalize a.eval (.tmp 64) = x64 at he
      generalize a.eval (.tmp 65) = x65 at he
      generalize a.eval (.tmp 66) = x66 at he
      generalize a.eval (.tmp 67) = x67 at he
      generalize a.eval (.tmp 68) = x68 at he
      generalize a.eval (.tmp 69) = x69 at he
      generalize a.eval (.tmp 70) = x70 at he
      generalize a.eval (.tmp 71) = x71 at he
      generalize a.eval (.tmp 72) = x72 at he
      generalize a.eval (.tmp 73) = x73 at he
      generalize a.eval (.tmp 74) = x74 at he
      generalize a.eval (.tmp 75) = x75 at he
      generalize a.eval (.tmp 76) = x76 at he
      generalize a.eval (.tmp 77) = x77 at he
      generalize a.eval (.tmp 78) = x78 at he
      generalize a.eval (.tmp 79) = x79 at he
      generalize a.eval (.tmp 80) = x80 at he
      generalize a.eval (.tmp 81) = x81 at he
      generalize a.eval (.tmp 82) = x82 at he
      generalize a.eval (.tmp 83) = x83 at he
      generalize a.eval (.tmp 84) = x84 at he
      generalize a.eval (.tmp 85) = x85 at he
      generalize a.eval (.tmp 86) = x86 at he
      generalize a.eval (.tmp 87) = x87 at he
      generalize a.eval (.tmp 88) = x88 at he
      generalize a.eval (.tmp 89) = x89 at he
      generalize a.eval (.tmp 90) = x90 at he
      generalize a.eval (.tmp 91) = x91 at he
      generalize a.eval (.tmp 92) = x92 at he
      generalize a.eval (.tmp 93) = x93 at he
      simp only [put_lit] at he
      dsimp only [List.set_cons_zero, List.set_cons_succ] at he
      subst he
      clear hsame hall
      have HBB3 := Lib.hid (HBB2.out.trans (hb8.mono HBB2.out.size))
      clear c0 c1 c2 d0 d1 d2 u0 u2 u3 x2 x3 u
      go_wp2_with fail
      go_roundw
      case rel => exact ⟨k + 1, by go_num, by omega, HBB3.out⟩
      case measure => simp [intOf]; omega
    · have hk2 : k = V.ps.length := by omega
      subst hk2
      have hcc := cchans_calls wr V W (HVW.out.1.stay HBB.out) (HVW.out.2.stay HBB.out) HSM.out.1 HSM.out.2
      obtain ⟨L, hL⟩ : ∃ L, Hid (L = chansK V W) := ⟨_, rfl⟩
      rw [← hL.out] at hcc
      have HCC := Lib.hid hcc
      clear hcc
      go_wp2_with fail
      refine (HCC.out).mono ?_
      rintro e w9 ⟨a9, c9, rfl, hO9, hb9⟩
      have HB9 := Lib.hid (HBB.out.trans (hb9.mono HBB.out.size))
      have HO9 := Lib.hid (hO9.vec cZ_len)
      have hl9 := (hO9.vec cZ_len).len_le
      clear c0 c1 c2 d0 d1 d2 hO9 hb9 HCC
      go_wp2_with fail
      go_loopw [10] (fun i wr => ∃ k : Nat, i = .int .i64 (k : Int) ∧ k ≤ L.length ∧ Below w9.heap.size w9 wr) (fun i _ => L.length - (intOf i).toNat)
      case atStart => exact ⟨0, rfl, Nat.zero_le _, Below.refl _ _⟩
      case round =>
        obtain ⟨k, rfl, hk, B⟩ := hrel
        have HBo := Lib.hid B
        have HBB := Lib.hid (HB9.out.trans (B.mono HB9.out.size))
        obtain ⟨c0, c1, c2⟩ := HIW.out.1.keep HBB.out
        obtain ⟨d0, d1, d2⟩ := HIW.out.2.keep HBB.out
        clear B
        by_cases hlt : k < L.length
        · have i9 := HO9.out.index etI k hlt
          obtain ⟨z, hz⟩ : ∃ z, Hid (z = L[k]) := ⟨L[k], rfl⟩
          have z0 : ∀ q : After wr, q.to.cell? (ad a9 (k * 1)) = some (.int .i64 z) := fun q => by rw [hz.out]; exact (HO9.out.stay cZ_len (HBo.out.trans (q.bel.mono HBo.out.size))).field0 k hlt (by decide) rfl
          rw [Nat.mul_one] at i9
          simp only [Nat.mul_one] at z0
          have HR : Hid (rchanK V W z = true) := split_chan z (by rw [← hL.out, hz.out]; exact List.getElem_mem hlt)
          have hR := HR.out
          unfold rchanK at hR
          simp only [Bool.and_eq_true, decide_eq_true_eq] at hR
          obtain ⟨⟨⟨⟨r1, r2⟩, r3⟩, r4⟩, r5⟩ := hR
          obtain ⟨x, hx⟩ : ∃ x, Hid (x = getC V.cs z) := ⟨_, rfl⟩
          rw [← hx.out] at r3 r4 r5
          have HRR := Lib.hid (And.intro r4 r5)
          have HG1 : Hid (∀ q : After wr, Calls Try.prog 45 #[.agg #[.slice V.wa V.ws.length V.wc, .slice V.pa V.ps.length V.pc, .slice V.ca V.cs.length V.cc], .int .i64 z] q.to fun e w' => e = .returned (.tuple #[.agg (cA5 x), .bool true]) ∧ Below q.to.heap.size q.to w') := fun q => by
            have := chan_get q.to V (HVW.out.1.stay (HBB.out.trans (q.bel.mono HBB.out.size))) z
            rwa [← hx.out, r1] at this
          go_upto_region 14 with fail
          refine wp_region_boxes cp14B (fun _ C _ => C = cA5 x) (cp14T V L k z x a9 c9) (by kernel_rfl) (by kernel_rfl) (by kernel_rfl) (fun _ _ _ _ _ h => h) (fun _ _ _ _ _ h => h) ?_ ?_ (fun j hj => by
              have : j = 0 := by have : j < 1 := hj; omega
              subst this; exact ⟨by decide, by decide⟩)
          · refine opsAll_cons ?_ (opsAll_cons ?_ (opsAll_cons ?_ (opsAll_cons ?_ (opsAll_cons ?_ (opsAll_cons ?_ (opsAll_cons ?_ (opsAll_cons ?_ (opsAll_cons ?_ (opsAll_cons ?_ (opsAll_cons ?_ (opsAll_cons ?_ opsAll_nil)))))))))))
            all_goals intro δ wa wx hk
            · exact .inl ⟨wanted_free rfl, necp14 (by decide) (by decide) (by decide), gp_load (.tmp 2) rfl ((hk.old 2 (by kernel_rfl)).trans rfl) (v := .agg #[.slice V.wa V.ws.length V.wc, .slice V.pa V.ps.length V.pc, .slice V.ca V.cs.length V.cc]) ((fun (q : After _) => load3 (fun w => by kernel_rfl) (fun w => by kernel_rfl) (keep q.bel c0) (keep q.bel c1) (keep q.bel c2)) ⟨wx, hk.inv.1⟩) ⟨Below.refl _ _, rfl⟩⟩
            · exact .inl ⟨wanted_free rfl, necp14 (by decide) (by decide) (by decide), gp_move (.tmp 9) rfl ⟨Below.refl _ _, ((hk.old 9 (by kernel_rfl)).trans rfl)⟩⟩
            · exact .inl ⟨wanted_free rfl, necp14 (by decide) (by decide) (by decide), gp_move (.tmp 10) rfl ⟨Below.refl _ _, ((hk.old 10 (by kernel_rfl)).trans rfl)⟩⟩
            · exact .inl ⟨wanted_free rfl, necp14 (by decide) (by decide) (by decide), gp_index (.tmp 106) (.tmp 107) rfl (hk.slot 106 (by kernel_rfl)) (hk.slot 107 (by kernel_rfl)) (v := .pointer (some (ad a9 k))) (i9 wx) ⟨Below.refl _ _, rfl⟩⟩
            · exact .inl ⟨wanted_free rfl, necp14 (by decide) (by decide) (by decide), gp_load (.tmp 108) rfl (hk.slot 108 (by kernel_rfl)) (v := .int .i64 z) ((fun (q : After _) => load_at (fun w => by kernel_rfl) (z0 q)) ⟨wx, hk.inv.1⟩) ⟨Below.refl _ _, rfl⟩⟩
            · exact .inl ⟨wanted_free rfl, necp14 (by decide) (by decide) (by decide), gp_call rfl rfl #[.agg #[.slice V.wa V.ws.length V.wc, .slice V.pa V.ps.length V.pc, .slice V.ca V.cs.length V.cc], .int .i64 z] (fun w => by kernel_rfl) (by simp only [List.map_toArray, List.map_cons, List.map_nil, show wa.eval (.tmp 105) = .agg #[.slice V.wa V.ws.length V.wc, .slice V.pa V.ps.length V.pc, .slice V.ca V.cs.length V.cc] from (hk.slot 105 (by kernel_rfl)), show wa.eval (.tmp 109) = .int .i64 z from (hk.slot 109 (by kernel_rfl))]) (((fun (q : After _) => HG1.out q) ⟨wx, hk.inv.1⟩).mono fun e w' ⟨he, hb⟩ => ⟨_, he, hb, rfl⟩)⟩
            · exact .inl ⟨wanted_free rfl, necp14 (by decide) (by decide) (by decide), gp_move (.tmp 110) rfl ⟨Below.refl _ _, (hk.slot 110 (by kernel_rfl))⟩⟩
            · exact .inl ⟨wanted_free rfl, necp14 (by decide) (by decide) (by decide), gp_extract rfl (hk.slot 104 (by kernel_rfl)) rfl ⟨Below.refl _ _, rfl⟩⟩
            · exact .inl ⟨wanted_free rfl, necp14 (by decide) (by decide) (by decide), gp_extract rfl (hk.slot 104 (by kernel_rfl)) rfl ⟨Below.refl _ _, rfl⟩⟩
            · exact .inr (.inl ⟨0, by decide, rfl, rfl, rfl, allocCh _ _ _ rfl, fun _ _ => trivial⟩)
            · exact .inr (.inr ⟨0, cA5 x, by decide, rfl, rfl, rfl, rfl, rfl, fun g D hg hD hDs => storeCh _ _ _ _ _ rfl hg (hk.slot 111 (by kernel_rfl)) hD hDs⟩)
            · exact .inl ⟨wanted_free rfl, necp14 (by decide) (by decide) (by decide), gp_assign (.tmp 112) rfl ⟨Below.refl _ _, (hk.slot 112 (by kernel_rfl))⟩⟩
          intro a wz hbz hsame hall hbox
          obtain ⟨p1, C1, ep1, _, hC1, hX1, _⟩ := hbox 0 (by decide)
          have hX1 : C1 = cA5 x := hX1
          subst hX1
          have he := act_same hsame [105, 106, 107, 108, 109, 110, 104, 111, 112, 11, 12] (by kernel_rfl)
          simp only [List.foldl_cons, List.foldl_nil] at he
          rw [show a.eval (.tmp 11) = _ from ep1, show a.eval (.tmp 12) = .bool true from hall 12 (by kernel_rfl)] at he
          generalize a.eval (.tmp 105) = y105 at he
          generalize a.eval (.tmp 106) = y106 at he
          generalize a.eval (.tmp 107) = y107 at he
          generalize a.eval (.tmp 108) = y108 at he
          generalize a.eval (.tmp 109) = y109 at he
          generalize a.eval (.tmp 110) = y110 at he
          generalize a.eval (.tmp 104) = y104 at he
          generalize a.eval (.tmp 111) = y111 at he
          generalize a.eval (.tmp 112) = y112 at he
          simp only [put_lit] at he
          dsimp only [List.set_cons_zero, List.set_cons_succ] at he
          subst he
          have HBX1 := Lib.hid (And.intro hbz hC1)
          clear hsame hall hbox ep1 hbz hC1
          have HBo2 := Lib.hid (HBo.out.trans (HBX1.out.1.mono HBo.out.size))
          have HBB2 := Lib.hid (HBB.out.trans (HBX1.out.1.mono HBB.out.size))
          have HG2 : Hid (∀ q : After wz, Calls Try.prog 45 #[.agg #[.slice W.wa W.ws.length W.wc, .slice W.pa W.ps.length W.pc, .slice W.ca W.cs.length W.cc], .int .i64 z] q.to fun e w' => e = .returned (.tuple #[.agg (cA5 x), .bool true]) ∧ Below q.to.heap.size q.to w') := fun q => by
            have := chan_get q.to W (HVW.out.2.stay (HBB2.out.trans (q.bel.mono HBB2.out.size))) z
            rwa [← r3, r2] at this
          have z0 : ∀ q : After wz, q.to.cell? (ad a9 k) = some (.int .i64 z) := fun q => by
            have := (HO9.out.stay cZ_len (HBo2.out.trans (q.bel.mono HBo2.out.size))).field0 k hlt (by decide) rfl
            rw [Nat.mul_one] at this
            rw [hz.out]; exact this
          clear c0 c1 c2 d0 d1 d2 r1 r2 r3 r4 r5
          obtain ⟨c0, c1, c2⟩ := HIW.out.1.keep HBB2.out
          obtain ⟨d0, d1, d2⟩ := HIW.out.2.keep HBB2.out
          go_upto_region 15 with fail
          refine wp_region_boxes cp15B (fun _ C _ => C = cA5 x) (cp15T W L k z x a9 c9) (by kernel_rfl) (by kernel_rfl) (by kernel_rfl) (fun _ _ _ _ _ h => h) (fun _ _ _ _ _ h => h) ?_ ?_ (fun j hj => by
              have : j = 0 := by have : j < 1 := hj; omega
              subst this; exact ⟨by decide, by decide⟩)
          · refine opsAll_cons ?_ (opsAll_cons ?_ (opsAll_cons ?_ (opsAll_cons ?_ (opsAll_cons ?_ (opsAll_cons ?_ (opsAll_cons ?_ (opsAll_cons ?_ (opsAll_cons ?_ (opsAll_cons ?_ (opsAll_cons ?_ (opsAll_cons ?_ opsAll_nil)))))))))))
            all_goals intro δ wa wx hk
            · exact .inl ⟨wanted_free rfl, necp15 (by decide) (by decide) (by decide), gp_load (.tmp 3) rfl ((hk.old 3 (by kernel_rfl)).trans rfl) (v := .agg #[.slice W.wa W.ws.length W.wc, .slice W.pa W.ps.length W.pc, .slice W.ca W.cs.length W.cc]) ((fun (q : After _) => load3 (fun w => by kernel_rfl) (fun w => by kernel_rfl) (keep q.bel d0) (keep q.bel d1) (keep q.bel d2)) ⟨wx, hk.inv.1⟩) ⟨Below.refl _ _, rfl⟩⟩
            · exact .inl ⟨wanted_free rfl, necp15 (by decide) (by decide) (by decide), gp_move (.tmp 9) rfl ⟨Below.refl _ _, ((hk.old 9 (by kernel_rfl)).trans rfl)⟩⟩
            · exact .inl ⟨wanted_free rfl, necp15 (by decide) (by decide) (by decide), gp_move (.tmp 10) rfl ⟨Below.refl _ _, ((hk.old 10 (by kernel_rfl)).trans rfl)⟩⟩
            · exact .inl ⟨wanted_free rfl, necp15 (by decide) (by decide) (by decide), gp_index (.tmp 115) (.tmp 116) rfl (hk.slot 115 (by kernel_rfl)) (hk.slot 116 (by kernel_rfl)) (v := .pointer (some (ad a9 k))) (i9 wx) ⟨Below.refl _ _, rfl⟩⟩
            · exact .inl ⟨wanted_free rfl, necp15 (by decide) (by decide) (by decide), gp_load (.tmp 117) rfl (hk.slot 117 (by kernel_rfl)) (v := .int .i64 z) ((fun (q : After _) => load_at (fun w => by kernel_rfl) (z0 q)) ⟨wx, hk.inv.1⟩) ⟨Below.refl _ _, rfl⟩⟩
            · exact .inl ⟨wanted_free rfl, necp15 (by decide) (by decide) (by decide), gp_call rfl rfl #[.agg #[.slice W.wa W.ws.length W.wc, .slice W.pa W.ps.length W.pc, .slice W.ca W.cs.length W.cc], .int .i64 z] (fun w => by kernel_rfl) (by simp only [List.map_toArray, List.map_cons, List.map_nil, show wa.eval (.tmp 114) = .agg #[.slice W.wa W.ws.length W.wc, .slice W.pa W.ps.length W.pc, .slice W.ca W.cs.length W.cc] from (hk.slot 114 (by kernel_rfl)), show wa.eval (.tmp 118) = .int .i64 z from (hk.slot 118 (by kernel_rfl))]) (((fun (q : After _) => HG2.out q) ⟨wx, hk.inv.1⟩).mono fun e w' ⟨he, hb⟩ => ⟨_, he, hb, rfl⟩)⟩
            · exact .inl ⟨wanted_free rfl, necp15 (by decide) (by decide) (by decide), gp_move (.tmp 119) rfl ⟨Below.refl _ _, (hk.slot 119 (by kernel_rfl))⟩⟩
            · exact .inl ⟨wanted_free rfl, necp15 (by decide) (by decide) (by decide), gp_extract rfl (hk.slot 113 (by kernel_rfl)) rfl ⟨Below.refl _ _, rfl⟩⟩
            · exact .inl ⟨wanted_free rfl, necp15 (by decide) (by decide) (by decide), gp_extract rfl (hk.slot 113 (by kernel_rfl)) rfl ⟨Below.refl _ _, rfl⟩⟩
            · exact .inr (.inl ⟨0, by decide, rfl, rfl, rfl, allocCh _ _ _ rfl, fun _ _ => trivial⟩)
            · exact .inr (.inr ⟨0, cA5 x, by decide, rfl, rfl, rfl, rfl, rfl, fun g D hg hD hDs => storeCh _ _ _ _ _ rfl hg (hk.slot 120 (by kernel_rfl)) hD hDs⟩)
            · exact .inl ⟨wanted_free rfl, necp15 (by decide) (by decide) (by decide), gp_assign (.tmp 121) rfl ⟨Below.refl _ _, (hk.slot 121 (by kernel_rfl))⟩⟩
          intro a wv hbz hsame hall hbox
          obtain ⟨p2, C2, ep2, _, hC2, hX2, _⟩ := hbox 0 (by decide)
          have hX2 : C2 = cA5 x := hX2
          subst hX2
          have he := act_same hsame [114, 115, 116, 117, 118, 119, 113, 120, 121, 13, 14] (by kernel_rfl)
          simp only [List.foldl_cons, List.foldl_nil] at he
          rw [show a.eval (.tmp 13) = _ from ep2, show a.eval (.tmp 14) = .bool true from hall 14 (by kernel_rfl)] at he
          generalize a.eval (.tmp 114) = y114 at he
          generalize a.eval (.tmp 115) = y115 at he
          generalize a.eval (.tmp 116) = y116 at he
          generalize a.eval (.tmp 117) = y117 at he
          generalize a.eval (.tmp 118) = y118 at he
          generalize a.eval (.tmp 119) = y119 at he
          generalize a.eval (.tmp 113) = y113 at he
          generalize a.eval (.tmp 120) = y120 at he
          generalize a.eval (.tmp 121) = y121 at he
          simp only [put_lit] at he
          dsimp only [List.set_cons_zero, List.set_cons_succ] at he
          subst he
          have HBX2 := Lib.hid (And.intro hbz hC2)
          clear hsame hall hbox ep2 hbz hC2
          have HBo3 := Lib.hid (HBo2.out.trans (HBX2.out.1.mono HBo2.out.size))
          have HBB3 := Lib.hid (HBB2.out.trans (HBX2.out.1.mono HBB2.out.size))
          have e1 := blk_stay HBX1.out.2 HBX2.out.1
          have HE1 := Lib.hid e1
          clear c0 c1 c2 d0 d1 d2 z0 i9
          obtain ⟨c0, c1, c2⟩ := HIW.out.1.keep HBB3.out
          obtain ⟨d0, d1, d2⟩ := HIW.out.2.keep HBB3.out
          have x0 := cells_of e1 0 rfl
          have x1 := cells_of e1 1 rfl
          have x2 := cells_of e1 2 rfl
          have x3 := cells_of e1 3 rfl
          have x4 := cells_of e1 4 rfl
          have y0 := cells_of HBX2.out.2 0 rfl
          have y1 := cells_of HBX2.out.2 1 rfl
          have y2 := cells_of HBX2.out.2 2 rfl
          have y3 := cells_of HBX2.out.2 3 rfl
          have y4 := cells_of HBX2.out.2 4 rfl
          have hs1 := surv_calls wv V W (HVW.out.1.stay HBB3.out) (HVW.out.2.stay HBB3.out) HSM.out.1 HSM.out.2 x.src.1
          rw [HRR.out.1] at hs1
          have HS1 := Lib.hid hs1
          clear hs1 e1
          go_wp2_with fail
          refine (HS1.out).mono ?_
          rintro e w10 ⟨rfl, hb10⟩
          have HBo4 := Lib.hid (HBo3.out.trans (hb10.mono HBo3.out.size))
          have HBB4 := Lib.hid (HBB3.out.trans (hb10.mono HBB3.out.size))
          have x2 := keep hb10 x2
          clear c0 c1 c2 d0 d1 d2 x0 x1 x3 x4 y0 y1 y2 y3 y4 HS1 hb10
          obtain ⟨c0, c1, c2⟩ := HIW.out.1.keep HBB4.out
          obtain ⟨d0, d1, d2⟩ := HIW.out.2.keep HBB4.out
          have hs1 := surv_calls w10 V W (HVW.out.1.stay HBB4.out) (HVW.out.2.stay HBB4.out) HSM.out.1 HSM.out.2 x.dst.1
          rw [HRR.out.2] at hs1
          have HS1 := Lib.hid hs1
          clear hs1
          go_wp2_with fail
          refine (HS1.out).mono ?_
          rintro e w11 ⟨rfl, hb11⟩
          have HBo5 := Lib.hid (HBo4.out.trans (hb11.mono HBo4.out.size))
          clear c0 c1 c2 d0 d1 d2 x2 HS1 hb11
          go_wp2_with fail
          go_roundw
          case rel => exact ⟨k + 1, by go_num, by omega, HBo5.out⟩
          case measure => simp [intOf]; omega
        · have hk2 : k = L.length := by omega
          subst hk2
          go_wp2_with fail
          refine (awake13_calls _).mono ?_
          rintro e wq ⟨rfl, hbq⟩
          have HQ := Lib.hid (HB4.out.trans ((HBB.out.trans (hbq.mono HBB.out.size)).mono HB4.out.size))
          clear hbq
          go_wp2_with fail
          go_ret
          exact ⟨rfl, HB0.out.trans (HQ.out.mono HB0.out.size)⟩
end Go.Proofs.Ytpnbaapjjchlbaa
