/- citadelref13.both: walked. -/
import Derived.Test.YtpnbaapjjchlbaaGk
import Derived.Test.YtpnbaapjjchlbaaTwo
import Derived.Test.YtpnbaapjjchlbaaSet
import Derived.Test.YtpnbaapjjchlbaaBoxTwo
namespace Go.Proofs.Ytpnbaapjjchlbaa
open Go Go.RowKit Go.Cit

def rb1 (V W : CfgV) (_ : Nat) (id i1 i2 : Int) : Nat → Value
  | 11 => (.agg #[.slice V.wa V.ws.length V.wc, .slice V.pa V.ps.length V.pc, .slice V.ca V.cs.length V.cc])
  | 12 => (.int .i64 id)
  | 13 => (.int .i64 i1)
  | 14 => (.agg #[.slice W.wa W.ws.length W.wc, .slice W.pa W.ps.length W.pc, .slice W.ca W.cs.length W.cc])
  | 15 => (.int .i64 id)
  | 16 => (.int .i64 i2)
  | 9 => (.int .i64 i1)
  | 10 => (.int .i64 i2)
  | _ => undef
def rb1o (_ _ : CfgV) (n : Nat) (id _ _ : Int) : Nat → Value
  | 2 => (.int .i64 id)
  | 3 => (.pointer (some ⟨n, 0, none⟩))
  | 4 => (.pointer (some ⟨n + 1, 0, none⟩))
  | _ => undef
def rb2 (V W : CfgV) (n j1 j2 : Nat) (i1 i2 : Int) (n1 n2 k1 k2 : Bool) : Nat → Value
  | 17 => (.int .i64 i1)
  | 18 => (.bool n1)
  | 19 => (.bool n1)
  | 20 => (bif (!n1) then (.int .i64 i2) else undef)
  | 21 => (bif (!n1) then (.bool n2) else undef)
  | 22 => (.bool (n1 || n2))
  | 23 => (.bool (n1 || n2))
  | 24 => (bif (!(n1 || n2)) then (.pointer (some ⟨n, 1, none⟩)) else undef)
  | 25 => (bif (!(n1 || n2)) then (.slice V.pa V.ps.length V.pc) else undef)
  | 26 => (bif (!(n1 || n2)) then (.int .i64 i1) else undef)
  | 27 => (bif (!(n1 || n2)) then (.pointer (some (ad V.pa (j1 * 5)))) else undef)
  | 28 => (bif (!(n1 || n2)) then (.pointer (some ⟨(ad V.pa (j1 * 5)).block, (ad V.pa (j1 * 5)).off + 3, none⟩)) else undef)
  | 29 => (bif (!(n1 || n2)) then (.bool k1) else undef)
  | 30 => (bif (!(n1 || n2)) then (.bool (!k1)) else undef)
  | 31 => (.bool ((n1 || n2) || (!k1)))
  | 32 => (.bool ((n1 || n2) || (!k1)))
  | 33 => (bif (!((n1 || n2) || (!k1))) then (.pointer (some ⟨n + 1, 1, none⟩)) else undef)
  | 34 => (bif (!((n1 || n2) || (!k1))) then (.slice W.pa W.ps.length W.pc) else undef)
  | 35 => (bif (!((n1 || n2) || (!k1))) then (.int .i64 i2) else undef)
  | 36 => (bif (!((n1 || n2) || (!k1))) then (.pointer (some (ad W.pa (j2 * 5)))) else undef)
  | 37 => (bif (!((n1 || n2) || (!k1))) then (.pointer (some ⟨(ad W.pa (j2 * 5)).block, (ad W.pa (j2 * 5)).off + 3, none⟩)) else undef)
  | 38 => (bif (!((n1 || n2) || (!k1))) then (.bool k2) else undef)
  | 39 => (bif (!((n1 || n2) || (!k1))) then (.bool (!k2)) else undef)
  | 40 => (.bool (((n1 || n2) || (!k1)) || (!k2)))
  | _ => undef
def rb2o (_ _ : CfgV) (n _ _ : Nat) (i1 i2 : Int) (_ _ _ _ : Bool) : Nat → Value
  | 3 => (.pointer (some ⟨n, 0, none⟩))
  | 4 => (.pointer (some ⟨n + 1, 0, none⟩))
  | 9 => (.int .i64 i1)
  | 10 => (.int .i64 i2)
  | _ => undef
def rb4 (V W : CfgV) (n j1 j2 : Nat) (i1 i2 : Int) (X Y : PtV) : Nat → Value
  | 43 => (.pointer (some ⟨n, 1, none⟩))
  | 44 => (.slice V.pa V.ps.length V.pc)
  | 45 => (.int .i64 i1)
  | 46 => (.pointer (some (ad V.pa (j1 * 5))))
  | 47 => (.agg (cA X))
  | 48 => (.pointer (some ⟨n + 1, 1, none⟩))
  | 49 => (.slice W.pa W.ps.length W.pc)
  | 50 => (.int .i64 i2)
  | 51 => (.pointer (some (ad W.pa (j2 * 5))))
  | 52 => (.agg (cA Y))
  | 8 => (.bool true)
  | _ => undef
def rb4o (_ _ : CfgV) (n _ _ : Nat) (i1 i2 : Int) (_ _ : PtV) : Nat → Value
  | 3 => (.pointer (some ⟨n, 0, none⟩))
  | 4 => (.pointer (some ⟨n + 1, 0, none⟩))
  | 6 => (.pointer (some ⟨n + 1 + 1, 0, none⟩))
  | 7 => (.pointer (some ⟨n + 1 + 1 + 1, 0, none⟩))
  | 9 => (.int .i64 i1)
  | 10 => (.int .i64 i2)
  | _ => undef
theorem resB3 {P : Program} {fn : Func} {tmps : Array Value} {w : World} {T E1 E2 : TypeId} {n b1 b2 a1 a2 t : Nat} {C D : Array Value} {f1 f2 : Nat × Nat} (hT : RowType P T n) (hf : fn.results = #[.cell a1 T, .cell a2 T, .tmp t]) (h1 : tmps.getD a1 undef = .pointer (some ⟨b1, 0, none⟩)) (h2 : tmps.getD a2 undef = .pointer (some ⟨b2, 0, none⟩)) (hb1 : w.heap[b1]? = some (.cells C E1 f1)) (hb2 : w.heap[b2]? = some (.cells D E2 f2)) (hC : C.size = n) (hD : D.size = n) :
    (results fn tmps).run P w = .ok (.tuple #[.agg C, .agg D, tmps.getD t undef]) w := by
  obtain ⟨⟨d, hu, hd⟩, hi⟩ := hT
  have hr1 := run_loadB (P := P) hu hd (by rw [hi, hC]) hb1
  have hr2 := run_loadB (P := P) hu hd (by rw [hi, hD]) hb2
  have e1 : tmps[a1]?.getD undef = .pointer (some ⟨b1, 0, none⟩) := by rw [← Array.getD_eq_getD_getElem?]; exact h1
  have e2 : tmps[a2]?.getD undef = .pointer (some ⟨b2, 0, none⟩) := by rw [← Array.getD_eq_getD_getElem?]; exact h2
  simp [results, hf, e1, e2, asAddr, hr1, hr2]
theorem or4_none {a b c d : Bool} (h : false = (((a || b) || (!c)) || (!d))) : a = false ∧ b = false := by
  revert a b c d; decide
theorem load_pt {w0 w : World} {a : Option Addr} {l : List PtV} {c : Nat} (h : Vec cPt 5 w0 a l c) (hb : Below w0.heap.size w0 w) (k : Nat) (hk : k < l.length) : (Instr.loadAt 43 (.pointer (some (ad a (k * 5))))).run Try.prog w = .ok (.agg (cA l[k])) w := by
  obtain ⟨u0, u1, u2, u3, u4⟩ := pts_cells h hb k hk
  have e : ad a (k * 5) = ⟨(ad a (k * 5)).block, (ad a (k * 5)).off, none⟩ := by cases a <;> rfl
  rw [e] at u0
  rw [e]
  refine run_loadAt_mid w _ _ 43 [.int .i64 l[k].id.1, .int .i64 l[k].reg.base.1, .int .i64 l[k].reg.size.1, .bool l[k].keep, .slice l[k].a l[k].img.length l[k].c] _ (fun j v hv => ?_) Try.underlying43 rfl (by kernel_rfl)
  match j, hv with
  | 0, hv => injection hv with hv; rw [← hv]; exact u0
  | 1, hv => injection hv with hv; rw [← hv]; exact u1
  | 2, hv => injection hv with hv; rw [← hv]; exact u2
  | 3, hv => injection hv with hv; rw [← hv]; exact u3
  | 4, hv => injection hv with hv; rw [← hv]; exact u4
@[reducible] def zP : Array Value := #[.int .i64 0, .int .i64 0, .int .i64 0, .bool false, .slice none 0 0]
set_option maxRecDepth 100000 in
set_option maxHeartbeats 4000000 in
theorem refboth_calls (w : World) (V W : CfgV) (h : V.At w) (k : W.At w) (id : Int) : Calls Try.prog 78 #[.agg #[.slice V.wa V.ws.length V.wc, .slice V.pa V.ps.length V.pc, .slice V.ca V.cs.length V.cc], .agg #[.slice W.wa W.ws.length W.wc, .slice W.pa W.ps.length W.pc, .slice W.ca W.cs.length W.cc], .int .i64 id] w fun e w' =>
    ∃ X Y : PtV, e = .returned (.tuple #[.agg (cA X), .agg (cA Y), .bool (bothK V.ps W.ps id)]) ∧ (bothK V.ps W.ps id = true → X.reg.size.1 = (getP V.ps id).reg.size.1 ∧ Y.reg.size.1 = (getP W.ps id).reg.size.1) ∧ Below w.heap.size w w' := by
  obtain ⟨wq, hwq⟩ : ∃ w0, w0 = (w.alloc (.cells #[.slice V.wa V.ws.length V.wc, .slice V.pa V.ps.length V.pc, .slice V.ca V.cs.length V.cc] 26)).alloc (.cells #[.slice W.wa W.ws.length W.wc, .slice W.pa W.ps.length W.pc, .slice W.ca W.cs.length W.cc] 26) := ⟨_, rfl⟩
  have hI := two_box w V W
  rw [← hwq] at hI
  obtain ⟨w0, hw0⟩ : ∃ w0, w0 = (wq.alloc (.cells zP 43)).alloc (.cells zP 43) := ⟨_, rfl⟩
  obtain ⟨n, hn⟩ : ∃ n, n = w.heap.size := ⟨_, rfl⟩
  have hsq : wq.heap.size = n + 2 := by rw [hwq, hn]; simp
  have Bq : Below w.heap.size w wq := by rw [hwq]; exact ((Below.refl _ w).alloc (Nat.le_refl _) _).alloc (by simp) _
  have Bq0 : Below wq.heap.size wq w0 := by rw [hw0]; exact ((Below.refl _ wq).alloc (Nat.le_refl _) _).alloc (by simp) _
  have B0 := Bq.trans (Bq0.mono Bq.size)
  have h6 : w0.heap[n + 2]? = some (.cells zP 43 (0, 0)) := by
    rw [hw0, ← hsq]; exact (Below.heap_alloc _ _ _ (by simp)).trans (heap_alloc_new wq _)
  have h7 : w0.heap[n + 3]? = some (.cells zP 43 (0, 0)) := by
    have := heap_alloc_new (wq.alloc (.cells zP 43)) (.cells zP 43)
    rw [World.size_alloc, hsq] at this
    rw [hw0]; exact this
  rw [← hn] at hI
  have HI := Lib.hid (And.intro (hI.1.keep Bq0) (hI.2.keep Bq0))
  have HV := Lib.hid (And.intro (h.stay B0) (k.stay B0))
  obtain ⟨i1, hi1⟩ : ∃ i, Hid (i = findI (fun x : PtV => decide (x.id.1 = id)) V.ps) := ⟨_, rfl⟩
  obtain ⟨i2, hi2⟩ : ∃ i, Hid (i = findI (fun x : PtV => decide (x.id.1 = id)) W.ps) := ⟨_, rfl⟩
  have HC1 : Hid (∀ q : After w0, Calls Try.prog 53 #[.agg #[.slice V.wa V.ws.length V.wc, .slice V.pa V.ps.length V.pc, .slice V.ca V.cs.length V.cc], .int .i64 id] q.to fun e w' => e = .returned (.int .i64 i1) ∧ Below q.to.heap.size q.to w') := fun q => by
    have := refpart_calls q.to V (HV.out.1.stay q.bel) id
    rwa [← hi1.out] at this
  have HC2 : Hid (∀ q : After w0, Calls Try.prog 53 #[.agg #[.slice W.wa W.ws.length W.wc, .slice W.pa W.ps.length W.pc, .slice W.ca W.cs.length W.cc], .int .i64 id] q.to fun e w' => e = .returned (.int .i64 i2) ∧ Below q.to.heap.size q.to w') := fun q => by
    have := refpart_calls q.to W (HV.out.2.stay q.bel) id
    rwa [← hi2.out] at this
  have HZ := Lib.hid (And.intro h6 (And.intro h7 B0))
  obtain ⟨⟨c0, c1, c2⟩, ⟨d0, d1, d2⟩⟩ := HI.out
  have HVW := Lib.hid (And.intro h k)
  clear h k hI Bq Bq0 B0 h6 h7 hsq
  go_enter Try.func78, Try.ntmps78
  go_upto_region 1 with fail
  rw [← hwq, ← hw0, ← hn]
  refine wp_region_vals (rb1 V W n id i1 i2) (rb1o V W n id i1 i2) [2, 3, 4] (by kernel_rfl) (by kernel_rfl) (by kernel_rfl) ⟨rfl, rfl, rfl, trivial⟩ ?_ ?_
  · refine opsAll_cons ?_ (opsAll_cons ?_ (opsAll_cons ?_ (opsAll_cons ?_ (opsAll_cons ?_ (opsAll_cons ?_ (opsAll_cons ?_ (opsAll_cons ?_ opsAll_nil)))))))
    all_goals intro a hk
    · -- slot 11
      exact .inl ⟨wanted_free rfl, q_load (.tmp 3) rfl (show a.eval (.tmp 3) = (.pointer (some ⟨n, 0, none⟩)) from hk.old 3 (by kernel_rfl) (by kernel_rfl)) (v := (.agg #[.slice V.wa V.ws.length V.wc, .slice V.pa V.ps.length V.pc, .slice V.ca V.cs.length V.cc])) (fun q => load3 (fun w => by kernel_rfl) (fun w => by kernel_rfl) (keep q.bel c0) (keep q.bel c1) (keep q.bel c2)) rfl⟩
    · -- slot 12
      exact .inl ⟨wanted_free rfl, q_move (.tmp 2) rfl (show a.eval (.tmp 2) = (.int .i64 id) from hk.old 2 (by kernel_rfl) (by kernel_rfl))⟩
    · -- slot 13
      exact .inl ⟨wanted_free rfl, q_call rfl rfl #[(.agg #[.slice V.wa V.ws.length V.wc, .slice V.pa V.ps.length V.pc, .slice V.ca V.cs.length V.cc]), (.int .i64 id)] (fun w => by kernel_rfl) (by simp only [List.map_toArray, List.map_cons, List.map_nil, (show a.eval (.tmp 11) = (.agg #[.slice V.wa V.ws.length V.wc, .slice V.pa V.ps.length V.pc, .slice V.ca V.cs.length V.cc]) from hk.slot 11 (by kernel_rfl)), (show a.eval (.tmp 12) = (.int .i64 id) from hk.slot 12 (by kernel_rfl))]) (v := (.int .i64 i1)) (fun q => HC1.out q) rfl⟩
    · -- slot 14
      exact .inl ⟨wanted_free rfl, q_load (.tmp 4) rfl (show a.eval (.tmp 4) = (.pointer (some ⟨n + 1, 0, none⟩)) from hk.old 4 (by kernel_rfl) (by kernel_rfl)) (v := (.agg #[.slice W.wa W.ws.length W.wc, .slice W.pa W.ps.length W.pc, .slice W.ca W.cs.length W.cc])) (fun q => load3 (fun w => by kernel_rfl) (fun w => by kernel_rfl) (keep q.bel d0) (keep q.bel d1) (keep q.bel d2)) rfl⟩
    · -- slot 15
      exact .inl ⟨wanted_free rfl, q_move (.tmp 2) rfl (show a.eval (.tmp 2) = (.int .i64 id) from hk.old 2 (by kernel_rfl) (by kernel_rfl))⟩
    · -- slot 16
      exact .inl ⟨wanted_free rfl, q_call rfl rfl #[(.agg #[.slice W.wa W.ws.length W.wc, .slice W.pa W.ps.length W.pc, .slice W.ca W.cs.length W.cc]), (.int .i64 id)] (fun w => by kernel_rfl) (by simp only [List.map_toArray, List.map_cons, List.map_nil, (show a.eval (.tmp 14) = (.agg #[.slice W.wa W.ws.length W.wc, .slice W.pa W.ps.length W.pc, .slice W.ca W.cs.length W.cc]) from hk.slot 14 (by kernel_rfl)), (show a.eval (.tmp 15) = (.int .i64 id) from hk.slot 15 (by kernel_rfl))]) (v := (.int .i64 i2)) (fun q => HC2.out q) rfl⟩
    · -- slot 9
      exact .inl ⟨wanted_free rfl, q_assign (.tmp 13) rfl (show a.eval (.tmp 13) = (.int .i64 i1) from hk.slot 13 (by kernel_rfl))⟩
    · -- slot 10
      exact .inl ⟨wanted_free rfl, q_assign (.tmp 16) rfl (show a.eval (.tmp 16) = (.int .i64 i2) from hk.slot 16 (by kernel_rfl))⟩
  intro a ⟨w1, hb1⟩ hsame hall
  have he := act_same hsame [11, 12, 13, 14, 15, 16, 9, 10] (by kernel_rfl)
  simp only [List.foldl_cons, List.foldl_nil] at he
  rw [show a.eval (.tmp 9) = (.int .i64 i1) from hall 9 (by kernel_rfl), show a.eval (.tmp 10) = (.int .i64 i2) from hall 10 (by kernel_rfl)] at he
  generalize a.eval (.tmp 11) = x11 at he
  generalize a.eval (.tmp 12) = x12 at he
  generalize a.eval (.tmp 13) = x13 at he
  generalize a.eval (.tmp 14) = x14 at he
  generalize a.eval (.tmp 15) = x15 at he
  generalize a.eval (.tmp 16) = x16 at he
  simp only [put_lit] at he
  dsimp only [List.set_cons_zero, List.set_cons_succ] at he
  subst he
  clear hsame hall
  clear c0 c1 c2 d0 d1 d2
  obtain ⟨c0, c1, c2⟩ := HI.out.1.keep hb1
  obtain ⟨d0, d1, d2⟩ := HI.out.2.keep hb1
  have hV1 := HV.out.1.stay hb1
  have hW1 := HV.out.2.stay hb1
  obtain ⟨j1, hj1⟩ : ∃ j : Nat, Hid (j = i1.toNat) := ⟨_, rfl⟩
  obtain ⟨j2, hj2⟩ : ∃ j : Nat, Hid (j = i2.toNat) := ⟨_, rfl⟩
  obtain ⟨n1, hn1⟩ : ∃ b, Hid (decide ((i1 : Int) < 0) = b) := ⟨_, rfl⟩
  obtain ⟨n2, hn2⟩ : ∃ b, Hid (decide ((i2 : Int) < 0) = b) := ⟨_, rfl⟩
  have r1 : ¬ i1 < 0 → ∃ hj : j1 < V.ps.length, i1 = (j1 : Int) ∧ getP V.ps id = V.ps[j1].pt ∧ hasP V.ps id = true := fun h0 => by
    rcases findI_range (fun x : PtV => decide (x.id.1 = id)) V.ps with hf | ⟨i, hi, hf, _⟩
    · rw [← hi1.out] at hf; omega
    · have e : j1 = i := by rw [← hi1.out] at hf; have := hj1.out; omega
      subst e
      exact ⟨hi, by rw [hi1.out, hf], by rw [getP, findI_get _ V.ps _ hi hf]; rfl, hasP_at hf⟩
  have r2 : ¬ i2 < 0 → ∃ hj : j2 < W.ps.length, i2 = (j2 : Int) ∧ getP W.ps id = W.ps[j2].pt ∧ hasP W.ps id = true := fun h0 => by
    rcases findI_range (fun x : PtV => decide (x.id.1 = id)) W.ps with hf | ⟨i, hi, hf, _⟩
    · rw [← hi2.out] at hf; omega
    · have e : j2 = i := by rw [← hi2.out] at hf; have := hj2.out; omega
      subst e
      exact ⟨hi, by rw [hi2.out, hf], by rw [getP, findI_get _ W.ps _ hi hf]; rfl, hasP_at hf⟩
  obtain ⟨k1, hk1⟩ : ∃ b, Hid (b = (getP V.ps id).keep) := ⟨_, rfl⟩
  obtain ⟨k2, hk2⟩ : ∃ b, Hid (b = (getP W.ps id).keep) := ⟨_, rfl⟩
  have x1 : decide ((i1 : Int) < 0) = false → ∀ w, (Instr.indexAt 23 (.slice V.pa V.ps.length V.pc) (.int .i64 i1)).run Try.prog w = .ok (.pointer (some (ad V.pa (j1 * 5)))) w := fun h0 => by
    obtain ⟨hj, e, _⟩ := r1 (of_decide_eq_false h0)
    rw [e]; exact hV1.pts.index etP j1 hj
  have x2 : decide ((i2 : Int) < 0) = false → ∀ w, (Instr.indexAt 23 (.slice W.pa W.ps.length W.pc) (.int .i64 i2)).run Try.prog w = .ok (.pointer (some (ad W.pa (j2 * 5)))) w := fun h0 => by
    obtain ⟨hj, e, _⟩ := r2 (of_decide_eq_false h0)
    rw [e]; exact hW1.pts.index etP j2 hj
  have u1 : decide ((i1 : Int) < 0) = false → ∀ q : After w1, q.to.cell? ⟨(ad V.pa (j1 * 5)).block, (ad V.pa (j1 * 5)).off + 3, none⟩ = some (.bool k1) := fun h0 q => by
    obtain ⟨hj, _, e, _⟩ := r1 (of_decide_eq_false h0)
    rw [hk1.out, e]; exact (pts_cells hV1.pts q.bel j1 hj).2.2.2.1
  have u2 : decide ((i2 : Int) < 0) = false → ∀ q : After w1, q.to.cell? ⟨(ad W.pa (j2 * 5)).block, (ad W.pa (j2 * 5)).off + 3, none⟩ = some (.bool k2) := fun h0 q => by
    obtain ⟨hj, _, e, _⟩ := r2 (of_decide_eq_false h0)
    rw [hk2.out, e]; exact (pts_cells hW1.pts q.bel j2 hj).2.2.2.1
  obtain ⟨nb, hnb⟩ : ∃ b, Hid (b = (((n1 || n2) || (!k1)) || (!k2))) := ⟨_, rfl⟩
  go_upto_region 2 with fail
  refine wp_region_vals0 (rb2 V W n j1 j2 i1 i2 n1 n2 k1 k2) (rb2o V W n j1 j2 i1 i2 n1 n2 k1 k2) [3, 4, 9, 10] (by kernel_rfl) ⟨rfl, rfl, rfl, rfl, trivial⟩ ?_ ?_
  · refine opsAll_cons ?_ (opsAll_cons ?_ (opsAll_cons ?_ (opsAll_cons ?_ (opsAll_cons ?_ (opsAll_cons ?_ (opsAll_cons ?_ (opsAll_cons ?_ (opsAll_cons ?_ (opsAll_cons ?_ (opsAll_cons ?_ (opsAll_cons ?_ (opsAll_cons ?_ (opsAll_cons ?_ (opsAll_cons ?_ (opsAll_cons ?_ (opsAll_cons ?_ (opsAll_cons ?_ (opsAll_cons ?_ (opsAll_cons ?_ (opsAll_cons ?_ (opsAll_cons ?_ (opsAll_cons ?_ (opsAll_cons ?_ opsAll_nil)))))))))))))))))))))))
    all_goals intro a hk
    · -- slot 17
      exact .inl ⟨wanted_free rfl, q_move (.tmp 9) rfl (show a.eval (.tmp 9) = (.int .i64 i1) from hk.old 9 (by kernel_rfl) (by kernel_rfl))⟩
    · -- slot 18
      exact .inl ⟨wanted_free rfl, q_bin rfl (show a.eval (.tmp 17) = (.int .i64 i1) from hk.slot 17 (by kernel_rfl)) rfl (v := .bool (decide ((i1 : Int) < 0))) (fun w => by kernel_rfl) (congrArg Value.bool (hn1.out))⟩
    · -- slot 19
      exact .inl ⟨wanted_free rfl, q_move (.tmp 18) rfl (show a.eval (.tmp 18) = (.bool n1) from hk.slot 18 (by kernel_rfl))⟩
    · -- slot 20
      cases n1 with
      | true =>
        exact .inr ⟨unwanted_by 19 false (by kernel_rfl) (show a.eval (.tmp 19) = (.bool true) from hk.slot 19 (by kernel_rfl)), rfl⟩
      | false =>
        exact .inl ⟨wanted_by 19 false (by kernel_rfl) (show a.eval (.tmp 19) = (.bool false) from hk.slot 19 (by kernel_rfl)), q_move (.tmp 10) rfl (show a.eval (.tmp 10) = (.int .i64 i2) from hk.old 10 (by kernel_rfl) (by kernel_rfl))⟩
    · -- slot 21
      cases n1 with
      | true =>
        exact .inr ⟨unwanted_by 19 false (by kernel_rfl) (show a.eval (.tmp 19) = (.bool true) from hk.slot 19 (by kernel_rfl)), rfl⟩
      | false =>
        exact .inl ⟨wanted_by 19 false (by kernel_rfl) (show a.eval (.tmp 19) = (.bool false) from hk.slot 19 (by kernel_rfl)), q_bin rfl (show a.eval (.tmp 20) = (.int .i64 i2) from hk.slot 20 (by kernel_rfl)) rfl (v := .bool (decide ((i2 : Int) < 0))) (fun w => by kernel_rfl) (congrArg Value.bool (hn2.out))⟩
    · -- slot 22
      cases n1 with
      | true =>
        exact .inl ⟨wanted_free rfl, q_pick rfl true (show a.eval (.tmp 19) = (.bool true) from hk.slot 19 (by kernel_rfl)) rfl⟩
      | false =>
        exact .inl ⟨wanted_free rfl, q_pick rfl false (show a.eval (.tmp 19) = (.bool false) from hk.slot 19 (by kernel_rfl)) (show a.eval (.tmp 21) = (.bool n2) from hk.slot 21 (by kernel_rfl))⟩
    · -- slot 23
      exact .inl ⟨wanted_free rfl, q_move (.tmp 22) rfl (show a.eval (.tmp 22) = (.bool (n1 || n2)) from hk.slot 22 (by kernel_rfl))⟩
    · -- slot 24
      cases n1 with
      | true =>
        exact .inr ⟨unwanted_by 23 false (by kernel_rfl) (show a.eval (.tmp 23) = (.bool (true || n2)) from hk.slot 23 (by kernel_rfl)), rfl⟩
      | false =>
        cases n2 with
        | true =>
          exact .inr ⟨unwanted_by 23 false (by kernel_rfl) (show a.eval (.tmp 23) = (.bool (false || true)) from hk.slot 23 (by kernel_rfl)), rfl⟩
        | false =>
          exact .inl ⟨wanted_by 23 false (by kernel_rfl) (show a.eval (.tmp 23) = (.bool (false || false)) from hk.slot 23 (by kernel_rfl)), q_field (.tmp 3) rfl (show a.eval (.tmp 3) = (.pointer (some ⟨n, 0, none⟩)) from hk.old 3 (by kernel_rfl) (by kernel_rfl)) (v := (.pointer (some ⟨n, 1, none⟩))) (fun w => by kernel_rfl) rfl⟩
    · -- slot 25
      cases n1 with
      | true =>
        exact .inr ⟨unwanted_by 23 false (by kernel_rfl) (show a.eval (.tmp 23) = (.bool (true || n2)) from hk.slot 23 (by kernel_rfl)), rfl⟩
      | false =>
        cases n2 with
        | true =>
          exact .inr ⟨unwanted_by 23 false (by kernel_rfl) (show a.eval (.tmp 23) = (.bool (false || true)) from hk.slot 23 (by kernel_rfl)), rfl⟩
        | false =>
          exact .inl ⟨wanted_by 23 false (by kernel_rfl) (show a.eval (.tmp 23) = (.bool (false || false)) from hk.slot 23 (by kernel_rfl)), q_load (.tmp 24) rfl (show a.eval (.tmp 24) = (.pointer (some ⟨n, 1, none⟩)) from hk.slot 24 (by kernel_rfl)) (v := (.slice V.pa V.ps.length V.pc)) (fun q => load_at (fun w => by kernel_rfl) (keep q.bel c1)) rfl⟩
    · -- slot 26
      cases n1 with
      | true =>
        exact .inr ⟨unwanted_by 23 false (by kernel_rfl) (show a.eval (.tmp 23) = (.bool (true || n2)) from hk.slot 23 (by kernel_rfl)), rfl⟩
      | false =>
        cases n2 with
        | true =>
          exact .inr ⟨unwanted_by 23 false (by kernel_rfl) (show a.eval (.tmp 23) = (.bool (false || true)) from hk.slot 23 (by kernel_rfl)), rfl⟩
        | false =>
          exact .inl ⟨wanted_by 23 false (by kernel_rfl) (show a.eval (.tmp 23) = (.bool (false || false)) from hk.slot 23 (by kernel_rfl)), q_move (.tmp 9) rfl (show a.eval (.tmp 9) = (.int .i64 i1) from hk.old 9 (by kernel_rfl) (by kernel_rfl))⟩
    · -- slot 27
      cases n1 with
      | true =>
        exact .inr ⟨unwanted_by 23 false (by kernel_rfl) (show a.eval (.tmp 23) = (.bool (true || n2)) from hk.slot 23 (by kernel_rfl)), rfl⟩
      | false =>
        cases n2 with
        | true =>
          exact .inr ⟨unwanted_by 23 false (by kernel_rfl) (show a.eval (.tmp 23) = (.bool (false || true)) from hk.slot 23 (by kernel_rfl)), rfl⟩
        | false =>
          exact .inl ⟨wanted_by 23 false (by kernel_rfl) (show a.eval (.tmp 23) = (.bool (false || false)) from hk.slot 23 (by kernel_rfl)), q_index (.tmp 25) (.tmp 26) rfl (show a.eval (.tmp 25) = (.slice V.pa V.ps.length V.pc) from hk.slot 25 (by kernel_rfl)) (show a.eval (.tmp 26) = (.int .i64 i1) from hk.slot 26 (by kernel_rfl)) (v := (.pointer (some (ad V.pa (j1 * 5))))) (fun w => (x1 hn1.out) w) rfl⟩
    · -- slot 28
      cases n1 with
      | true =>
        exact .inr ⟨unwanted_by 23 false (by kernel_rfl) (show a.eval (.tmp 23) = (.bool (true || n2)) from hk.slot 23 (by kernel_rfl)), rfl⟩
      | false =>
        cases n2 with
        | true =>
          exact .inr ⟨unwanted_by 23 false (by kernel_rfl) (show a.eval (.tmp 23) = (.bool (false || true)) from hk.slot 23 (by kernel_rfl)), rfl⟩
        | false =>
          exact .inl ⟨wanted_by 23 false (by kernel_rfl) (show a.eval (.tmp 23) = (.bool (false || false)) from hk.slot 23 (by kernel_rfl)), q_field (.tmp 27) rfl (show a.eval (.tmp 27) = (.pointer (some (ad V.pa (j1 * 5)))) from hk.slot 27 (by kernel_rfl)) (v := (.pointer (some ⟨(ad V.pa (j1 * 5)).block, (ad V.pa (j1 * 5)).off + 3, none⟩))) (fun w => by kernel_rfl) rfl⟩
    · -- slot 29
      cases n1 with
      | true =>
        exact .inr ⟨unwanted_by 23 false (by kernel_rfl) (show a.eval (.tmp 23) = (.bool (true || n2)) from hk.slot 23 (by kernel_rfl)), rfl⟩
      | false =>
        cases n2 with
        | true =>
          exact .inr ⟨unwanted_by 23 false (by kernel_rfl) (show a.eval (.tmp 23) = (.bool (false || true)) from hk.slot 23 (by kernel_rfl)), rfl⟩
        | false =>
          exact .inl ⟨wanted_by 23 false (by kernel_rfl) (show a.eval (.tmp 23) = (.bool (false || false)) from hk.slot 23 (by kernel_rfl)), q_load (.tmp 28) rfl (show a.eval (.tmp 28) = (.pointer (some ⟨(ad V.pa (j1 * 5)).block, (ad V.pa (j1 * 5)).off + 3, none⟩)) from hk.slot 28 (by kernel_rfl)) (v := (.bool k1)) (fun q => load_at (fun w => by kernel_rfl) (u1 hn1.out q)) rfl⟩
    · -- slot 30
      cases n1 with
      | true =>
        exact .inr ⟨unwanted_by 23 false (by kernel_rfl) (show a.eval (.tmp 23) = (.bool (true || n2)) from hk.slot 23 (by kernel_rfl)), rfl⟩
      | false =>
        cases n2 with
        | true =>
          exact .inr ⟨unwanted_by 23 false (by kernel_rfl) (show a.eval (.tmp 23) = (.bool (false || true)) from hk.slot 23 (by kernel_rfl)), rfl⟩
        | false =>
          exact .inl ⟨wanted_by 23 false (by kernel_rfl) (show a.eval (.tmp 23) = (.bool (false || false)) from hk.slot 23 (by kernel_rfl)), q_not rfl _ (show a.eval (.tmp 29) = (.bool k1) from hk.slot 29 (by kernel_rfl)) rfl⟩
    · -- slot 31
      cases n1 with
      | true =>
        exact .inl ⟨wanted_free rfl, q_pick rfl true (show a.eval (.tmp 23) = (.bool (true || n2)) from hk.slot 23 (by kernel_rfl)) rfl⟩
      | false =>
        cases n2 with
        | true =>
          exact .inl ⟨wanted_free rfl, q_pick rfl true (show a.eval (.tmp 23) = (.bool (false || true)) from hk.slot 23 (by kernel_rfl)) rfl⟩
        | false =>
          exact .inl ⟨wanted_free rfl, q_pick rfl false (show a.eval (.tmp 23) = (.bool (false || false)) from hk.slot 23 (by kernel_rfl)) (show a.eval (.tmp 30) = (.bool (!k1)) from hk.slot 30 (by kernel_rfl))⟩
    · -- slot 32
      exact .inl ⟨wanted_free rfl, q_move (.tmp 31) rfl (show a.eval (.tmp 31) = (.bool ((n1 || n2) || (!k1))) from hk.slot 31 (by kernel_rfl))⟩
    · -- slot 33
      cases n1 with
      | true =>
        exact .inr ⟨unwanted_by 32 false (by kernel_rfl) (show a.eval (.tmp 32) = (.bool ((true || n2) || (!k1))) from hk.slot 32 (by kernel_rfl)), rfl⟩
      | false =>
        cases n2 with
        | true =>
          exact .inr ⟨unwanted_by 32 false (by kernel_rfl) (show a.eval (.tmp 32) = (.bool ((false || true) || (!k1))) from hk.slot 32 (by kernel_rfl)), rfl⟩
        | false =>
          cases k1 with
          | true =>
            exact .inl ⟨wanted_by 32 false (by kernel_rfl) (show a.eval (.tmp 32) = (.bool ((false || false) || (!true))) from hk.slot 32 (by kernel_rfl)), q_field (.tmp 4) rfl (show a.eval (.tmp 4) = (.pointer (some ⟨n + 1, 0, none⟩)) from hk.old 4 (by kernel_rfl) (by kernel_rfl)) (v := (.pointer (some ⟨n + 1, 1, none⟩))) (fun w => by kernel_rfl) rfl⟩
          | false =>
            exact .inr ⟨unwanted_by 32 false (by kernel_rfl) (show a.eval (.tmp 32) = (.bool ((false || false) || (!false))) from hk.slot 32 (by kernel_rfl)), rfl⟩
    · -- slot 34
      cases n1 with
      | true =>
        exact .inr ⟨unwanted_by 32 false (by kernel_rfl) (show a.eval (.tmp 32) = (.bool ((true || n2) || (!k1))) from hk.slot 32 (by kernel_rfl)), rfl⟩
      | false =>
        cases n2 with
        | true =>
          exact .inr ⟨unwanted_by 32 false (by kernel_rfl) (show a.eval (.tmp 32) = (.bool ((false || true) || (!k1))) from hk.slot 32 (by kernel_rfl)), rfl⟩
        | false =>
          cases k1 with
          | true =>
            exact .inl ⟨wanted_by 32 false (by kernel_rfl) (show a.eval (.tmp 32) = (.bool ((false || false) || (!true))) from hk.slot 32 (by kernel_rfl)), q_load (.tmp 33) rfl (show a.eval (.tmp 33) = (.pointer (some ⟨n + 1, 1, none⟩)) from hk.slot 33 (by kernel_rfl)) (v := (.slice W.pa W.ps.length W.pc)) (fun q => load_at (fun w => by kernel_rfl) (keep q.bel d1)) rfl⟩
          | false =>
            exact .inr ⟨unwanted_by 32 false (by kernel_rfl) (show a.eval (.tmp 32) = (.bool ((false || false) || (!false))) from hk.slot 32 (by kernel_rfl)), rfl⟩
    · -- slot 35
      cases n1 with
      | true =>
        exact .inr ⟨unwanted_by 32 false (by kernel_rfl) (show a.eval (.tmp 32) = (.bool ((true || n2) || (!k1))) from hk.slot 32 (by kernel_rfl)), rfl⟩
      | false =>
        cases n2 with
        | true =>
          exact .inr ⟨unwanted_by 32 false (by kernel_rfl) (show a.eval (.tmp 32) = (.bool ((false || true) || (!k1))) from hk.slot 32 (by kernel_rfl)), rfl⟩
        | false =>
          cases k1 with
          | true =>
            exact .inl ⟨wanted_by 32 false (by kernel_rfl) (show a.eval (.tmp 32) = (.bool ((false || false) || (!true))) from hk.slot 32 (by kernel_rfl)), q_move (.tmp 10) rfl (show a.eval (.tmp 10) = (.int .i64 i2) from hk.old 10 (by kernel_rfl) (by kernel_rfl))⟩
          | false =>
            exact .inr ⟨unwanted_by 32 false (by kernel_rfl) (show a.eval (.tmp 32) = (.bool ((false || false) || (!false))) from hk.slot 32 (by kernel_rfl)), rfl⟩
    · -- slot 36
      cases n1 with
      | true =>
        exact .inr ⟨unwanted_by 32 false (by kernel_rfl) (show a.eval (.tmp 32) = (.bool ((true || n2) || (!k1))) from hk.slot 32 (by kernel_rfl)), rfl⟩
      | false =>
        cases n2 with
        | true =>
          exact .inr ⟨unwanted_by 32 false (by kernel_rfl) (show a.eval (.tmp 32) = (.bool ((false || true) || (!k1))) from hk.slot 32 (by kernel_rfl)), rfl⟩
        | false =>
          cases k1 with
          | true =>
            exact .inl ⟨wanted_by 32 false (by kernel_rfl) (show a.eval (.tmp 32) = (.bool ((false || false) || (!true))) from hk.slot 32 (by kernel_rfl)), q_index (.tmp 34) (.tmp 35) rfl (show a.eval (.tmp 34) = (.slice W.pa W.ps.length W.pc) from hk.slot 34 (by kernel_rfl)) (show a.eval (.tmp 35) = (.int .i64 i2) from hk.slot 35 (by kernel_rfl)) (v := (.pointer (some (ad W.pa (j2 * 5))))) (fun w => (x2 hn2.out) w) rfl⟩
          | false =>
            exact .inr ⟨unwanted_by 32 false (by kernel_rfl) (show a.eval (.tmp 32) = (.bool ((false || false) || (!false))) from hk.slot 32 (by kernel_rfl)), rfl⟩
    · -- slot 37
      cases n1 with
      | true =>
        exact .inr ⟨unwanted_by 32 false (by kernel_rfl) (show a.eval (.tmp 32) = (.bool ((true || n2) || (!k1))) from hk.slot 32 (by kernel_rfl)), rfl⟩
      | false =>
        cases n2 with
        | true =>
          exact .inr ⟨unwanted_by 32 false (by kernel_rfl) (show a.eval (.tmp 32) = (.bool ((false || true) || (!k1))) from hk.slot 32 (by kernel_rfl)), rfl⟩
        | false =>
          cases k1 with
          | true =>
            exact .inl ⟨wanted_by 32 false (by kernel_rfl) (show a.eval (.tmp 32) = (.bool ((false || false) || (!true))) from hk.slot 32 (by kernel_rfl)), q_field (.tmp 36) rfl (show a.eval (.tmp 36) = (.pointer (some (ad W.pa (j2 * 5)))) from hk.slot 36 (by kernel_rfl)) (v := (.pointer (some ⟨(ad W.pa (j2 * 5)).block, (ad W.pa (j2 * 5)).off + 3, none⟩))) (fun w => by kernel_rfl) rfl⟩
          | false =>
            exact .inr ⟨unwanted_by 32 false (by kernel_rfl) (show a.eval (.tmp 32) = (.bool ((false || false) || (!false))) from hk.slot 32 (by kernel_rfl)), rfl⟩
    · -- slot 38
      cases n1 with
      | true =>
        exact .inr ⟨unwanted_by 32 false (by kernel_rfl) (show a.eval (.tmp 32) = (.bool ((true || n2) || (!k1))) from hk.slot 32 (by kernel_rfl)), rfl⟩
      | false =>
        cases n2 with
        | true =>
          exact .inr ⟨unwanted_by 32 false (by kernel_rfl) (show a.eval (.tmp 32) = (.bool ((false || true) || (!k1))) from hk.slot 32 (by kernel_rfl)), rfl⟩
        | false =>
          cases k1 with
          | true =>
            exact .inl ⟨wanted_by 32 false (by kernel_rfl) (show a.eval (.tmp 32) = (.bool ((false || false) || (!true))) from hk.slot 32 (by kernel_rfl)), q_load (.tmp 37) rfl (show a.eval (.tmp 37) = (.pointer (some ⟨(ad W.pa (j2 * 5)).block, (ad W.pa (j2 * 5)).off + 3, none⟩)) from hk.slot 37 (by kernel_rfl)) (v := (.bool k2)) (fun q => load_at (fun w => by kernel_rfl) (u2 hn2.out q)) rfl⟩
          | false =>
            exact .inr ⟨unwanted_by 32 false (by kernel_rfl) (show a.eval (.tmp 32) = (.bool ((false || false) || (!false))) from hk.slot 32 (by kernel_rfl)), rfl⟩
    · -- slot 39
      cases n1 with
      | true =>
        exact .inr ⟨unwanted_by 32 false (by kernel_rfl) (show a.eval (.tmp 32) = (.bool ((true || n2) || (!k1))) from hk.slot 32 (by kernel_rfl)), rfl⟩
      | false =>
        cases n2 with
        | true =>
          exact .inr ⟨unwanted_by 32 false (by kernel_rfl) (show a.eval (.tmp 32) = (.bool ((false || true) || (!k1))) from hk.slot 32 (by kernel_rfl)), rfl⟩
        | false =>
          cases k1 with
          | true =>
            exact .inl ⟨wanted_by 32 false (by kernel_rfl) (show a.eval (.tmp 32) = (.bool ((false || false) || (!true))) from hk.slot 32 (by kernel_rfl)), q_not rfl _ (show a.eval (.tmp 38) = (.bool k2) from hk.slot 38 (by kernel_rfl)) rfl⟩
          | false =>
            exact .inr ⟨unwanted_by 32 false (by kernel_rfl) (show a.eval (.tmp 32) = (.bool ((false || false) || (!false))) from hk.slot 32 (by kernel_rfl)), rfl⟩
    · -- slot 40
      cases n1 with
      | true =>
        exact .inl ⟨wanted_free rfl, q_pick rfl true (show a.eval (.tmp 32) = (.bool ((true || n2) || (!k1))) from hk.slot 32 (by kernel_rfl)) rfl⟩
      | false =>
        cases n2 with
        | true =>
          exact .inl ⟨wanted_free rfl, q_pick rfl true (show a.eval (.tmp 32) = (.bool ((false || true) || (!k1))) from hk.slot 32 (by kernel_rfl)) rfl⟩
        | false =>
          cases k1 with
          | true =>
            exact .inl ⟨wanted_free rfl, q_pick rfl false (show a.eval (.tmp 32) = (.bool ((false || false) || (!true))) from hk.slot 32 (by kernel_rfl)) (show a.eval (.tmp 39) = (.bool (!k2)) from hk.slot 39 (by kernel_rfl))⟩
          | false =>
            exact .inl ⟨wanted_free rfl, q_pick rfl true (show a.eval (.tmp 32) = (.bool ((false || false) || (!false))) from hk.slot 32 (by kernel_rfl)) rfl⟩
  intro a ⟨w2, hb2⟩ hsame hall
  have he := act_same hsame [17, 18, 19, 20, 21, 22, 23, 24, 25, 26, 27, 28, 29, 30, 31, 32, 33, 34, 35, 36, 37, 38, 39, 40] (by kernel_rfl)
  simp only [List.foldl_cons, List.foldl_nil] at he
  rw [show a.eval (.tmp 40) = (.bool nb) from (hall 40 (by kernel_rfl)).trans (congrArg Value.bool hnb.out.symm)] at he
  generalize a.eval (.tmp 17) = x17 at he
  generalize a.eval (.tmp 18) = x18 at he
  generalize a.eval (.tmp 19) = x19 at he
  generalize a.eval (.tmp 20) = x20 at he
  generalize a.eval (.tmp 21) = x21 at he
  generalize a.eval (.tmp 22) = x22 at he
  generalize a.eval (.tmp 23) = x23 at he
  generalize a.eval (.tmp 24) = x24 at he
  generalize a.eval (.tmp 25) = x25 at he
  generalize a.eval (.tmp 26) = x26 at he
  generalize a.eval (.tmp 27) = x27 at he
  generalize a.eval (.tmp 28) = x28 at he
  generalize a.eval (.tmp 29) = x29 at he
  generalize a.eval (.tmp 30) = x30 at he
  generalize a.eval (.tmp 31) = x31 at he
  generalize a.eval (.tmp 32) = x32 at he
  generalize a.eval (.tmp 33) = x33 at he
  generalize a.eval (.tmp 34) = x34 at he
  generalize a.eval (.tmp 35) = x35 at he
  generalize a.eval (.tmp 36) = x36 at he
  generalize a.eval (.tmp 37) = x37 at he
  generalize a.eval (.tmp 38) = x38 at he
  generalize a.eval (.tmp 39) = x39 at he
  simp only [put_lit] at he
  dsimp only [List.set_cons_zero, List.set_cons_succ] at he
  subst he
  clear hsame hall
  have q1 : hasP V.ps id = !n1 := by
    cases hq : n1 with
    | true =>
      have := hn1.out; rw [hq, decide_eq_true_eq] at this
      rcases findI_range (fun x : PtV => decide (x.id.1 = id)) V.ps with hf | ⟨i, hi, hf, _⟩
      · exact hasP_find hf
      · rw [← hi1.out] at hf; omega
    | false => have := hn1.out; rw [hq] at this; exact (r1 (of_decide_eq_false this)).2.2.2
  have q2 : hasP W.ps id = !n2 := by
    cases hq : n2 with
    | true =>
      have := hn2.out; rw [hq, decide_eq_true_eq] at this
      rcases findI_range (fun x : PtV => decide (x.id.1 = id)) W.ps with hf | ⟨i, hi, hf, _⟩
      · exact hasP_find hf
      · rw [← hi2.out] at hf; omega
    | false => have := hn2.out; rw [hq] at this; exact (r2 (of_decide_eq_false this)).2.2.2
  have HBN : Hid (bothK V.ps W.ps id = !nb) := by
    rw [Hid, bothK, q1, q2, ← hk1.out, ← hk2.out, hnb.out]
    cases n1 <;> cases n2 <;> cases k1 <;> cases k2 <;> rfl
  have hb12 := hb1.trans (hb2.mono hb1.size)
  have hp1 : n < w1.heap.size := World.block_lt_of_cell? w1 _ c0
  have e6 : w2.heap[n + 1 + 1]? = some (.cells zP 43 (0, 0)) := (hb12.block _ (Array.getElem?_eq_some_iff.1 HZ.out.1).1).trans HZ.out.1
  have e7 : w2.heap[n + 1 + 1 + 1]? = some (.cells zP 43 (0, 0)) := (hb12.block _ (Array.getElem?_eq_some_iff.1 HZ.out.2.1).1).trans HZ.out.2.1
  have HB2 := Lib.hid (HZ.out.2.2.trans (hb12.mono HZ.out.2.2.size))
  have HE := Lib.hid (And.intro e6 e7)
  have HNW := Lib.hid hn
  have c1 := keep hb2 c1
  have hpd : n + 1 < w1.heap.size := World.block_lt_of_cell? w1 _ d1
  have d1 := keep hb2 d1
  have hp2 : n + 1 < w2.heap.size := Nat.lt_of_lt_of_le hpd hb2.size
  have hp6 : n + 1 + 1 < w2.heap.size := (Array.getElem?_eq_some_iff.1 e6).1
  have hp7 : n + 1 + 1 + 1 < w2.heap.size := (Array.getElem?_eq_some_iff.1 e7).1
  clear q1 q2 u1 u2 hb12 hp1 c0 c2 d0 d2 hpd
  cases nb with
  | true =>
    have g0 := cells_of e6 0 rfl
    have g1 := cells_of e6 1 rfl
    have g2 := cells_of e6 2 rfl
    have g3 := cells_of e6 3 rfl
    have g4 := cells_of e6 4 rfl
    have f6 := frozen_no e6
    have l0 := cells_of e7 0 rfl
    have l1 := cells_of e7 1 rfl
    have l2 := cells_of e7 2 rfl
    have l3 := cells_of e7 3 rfl
    have l4 := cells_of e7 4 rfl
    have f7 := frozen_no e7
    clear e6 e7 hn
    go_wp2_with fail
    have hC := set5 (.int .i64 0) (.int .i64 0) (.int .i64 0) (.bool false) (.slice none 0 0) HE.out.1
    have hC' := ((set5_save _ (n + 1 + 1 + 1) (.int .i64 0) (.int .i64 0) (.int .i64 0) (.bool false) (.slice none 0 0)).block _ (Array.getElem?_eq_some_iff.1 hC).1 (by omega)).trans hC
    have hD0 := ((set5_save w2 (n + 1 + 1) (.int .i64 0) (.int .i64 0) (.int .i64 0) (.bool false) (.slice none 0 0)).block _ (Array.getElem?_eq_some_iff.1 HE.out.2).1 (show n + 1 + 1 + 1 ≠ n + 1 + 1 by omega)).trans HE.out.2
    have hD := set5 (.int .i64 0) (.int .i64 0) (.int .i64 0) (.bool false) (.slice none 0 0) hD0
    refine bodyPost_ret (resB3 rowP rfl (by rfl) (by rfl) hC' hD rfl rfl) rfl ⟨⟨⟨0, by decide⟩, ⟨⟨0, by decide⟩, ⟨0, by decide⟩⟩, false, none, [], 0⟩, ⟨⟨0, by decide⟩, ⟨⟨0, by decide⟩, ⟨0, by decide⟩⟩, false, none, [], 0⟩, ?_, ?_, ?_⟩
    · rw [HBN.out]; rfl
    · intro h; rw [HBN.out] at h; exact absurd h (by decide)
    · have hN := HNW.out
      exact (HB2.out.trans ((set5_save _ _ _ _ _ _ _).below HB2.out.size (fun k hk => by omega))).trans ((set5_save _ _ _ _ _ _ _).below (by simpa using HB2.out.size) (fun k hk => by omega))
  | false =>
    have hnq := hnb.out
    have m1 : decide ((i1 : Int) < 0) = false := hn1.out.trans (or4_none hnq).1
    have m2 : decide ((i2 : Int) < 0) = false := hn2.out.trans (or4_none hnq).2
    obtain ⟨g1, -, eg1, -⟩ := r1 (of_decide_eq_false m1)
    obtain ⟨g2, -, eg2, -⟩ := r2 (of_decide_eq_false m2)
    have x1 := x1 m1
    have x2 := x2 m2
    have hNW := HNW.out
    obtain ⟨X, hX⟩ : ∃ X : PtV, Hid (X = V.ps[j1]) := ⟨V.ps[j1], rfl⟩
    obtain ⟨Y, hY⟩ : ∃ Y : PtV, Hid (Y = W.ps[j2]) := ⟨W.ps[j2], rfl⟩
    have hbx : ∀ wx, Save (· ≠ n + 1 + 1) w2 wx → Below w.heap.size w wx := fun wx hs => HB2.out.trans (hs.below HB2.out.size (fun k hk => by omega))
    have L47 : ∀ wx, Save (· ≠ n + 1 + 1) w2 wx → (Instr.loadAt 43 (.pointer (some (ad V.pa (j1 * 5))))).run Try.prog wx = .ok (.agg (cA X)) wx := fun wx hs => by
      rw [hX.out]; exact load_pt HVW.out.1.pts (hbx wx hs) j1 g1
    have L52 : ∀ wx, Save (· ≠ n + 1 + 1) w2 wx → (Instr.loadAt 43 (.pointer (some (ad W.pa (j2 * 5))))).run Try.prog wx = .ok (.agg (cA Y)) wx := fun wx hs => by
      rw [hY.out]; exact load_pt HVW.out.2.pts (hbx wx hs) j2 g2
    have L49 : ∀ wx, Save (· ≠ n + 1 + 1) w2 wx → wx.cell? ⟨n + 1, 1, none⟩ = some (.slice W.pa W.ps.length W.pc) := fun wx hs => (hs.cell (p := ⟨n + 1, 1, none⟩) hp2 (by show n + 1 ≠ n + 1 + 1; omega)).trans d1
    clear hn e6 e7 hnq m1 m2 hbx hNW r1 r2
    go_upto_region 4 with fail
    refine wp_region_two (rb4 V W n j1 j2 i1 i2 X Y) (rb4o V W n j1 j2 i1 i2 X Y) [3, 4, 6, 7, 9, 10] 10 11 (fun wx => wx.heap[n + 1 + 1]? = some (.cells (cA X) 43 (0, 0)) ∧ Save (· ≠ n + 1 + 1) w2 wx) (fun wx => wx.heap[n + 1 + 1]? = some (.cells (cA X) 43 (0, 0)) ∧ wx.heap[n + 1 + 1 + 1]? = some (.cells (cA Y) 43 (0, 0)) ∧ Save (fun j => j ≠ n + 1 + 1 ∧ j ≠ n + 1 + 1 + 1) w2 wx) (by kernel_rfl) (by kernel_rfl) (by kernel_rfl) (by decide) ⟨rfl, rfl, rfl, rfl, rfl, rfl, trivial⟩ ?_ ?_
    · refine opsAll_cons ?_ (opsAll_cons ?_ (opsAll_cons ?_ (opsAll_cons ?_ (opsAll_cons ?_ (opsAll_cons ?_ (opsAll_cons ?_ (opsAll_cons ?_ (opsAll_cons ?_ (opsAll_cons ?_ (opsAll_cons ?_ (opsAll_cons ?_ (opsAll_cons ?_ opsAll_nil))))))))))))
      all_goals intro a hk
      · exact ⟨wanted_free rfl, .inr (.inr ⟨by decide, by decide, fun wx hst hst2 => gp_field (.tmp 3) rfl (show a.eval (.tmp 3) = (.pointer (some ⟨n, 0, none⟩)) from hk.old 3 (by kernel_rfl)) (v := (.pointer (some ⟨n, 1, none⟩))) (fun w => by kernel_rfl) ⟨rfl, rfl⟩⟩)⟩
      · exact ⟨wanted_free rfl, .inr (.inr ⟨by decide, by decide, fun wx hst hst2 => gp_load (.tmp 43) rfl (show a.eval (.tmp 43) = (.pointer (some ⟨n, 1, none⟩)) from hk.slot 43 (by kernel_rfl)) (v := (.slice V.pa V.ps.length V.pc)) ((fun (q : After _) => load_at (fun w => by kernel_rfl) (keep q.bel c1)) ⟨wx, (hst (by kernel_rfl)).1⟩) ⟨rfl, rfl⟩⟩)⟩
      · exact ⟨wanted_free rfl, .inr (.inr ⟨by decide, by decide, fun wx hst hst2 => gp_move (.tmp 9) rfl ⟨rfl, (show a.eval (.tmp 9) = (.int .i64 i1) from hk.old 9 (by kernel_rfl))⟩⟩)⟩
      · exact ⟨wanted_free rfl, .inr (.inr ⟨by decide, by decide, fun wx hst hst2 => gp_index (.tmp 44) (.tmp 45) rfl (show a.eval (.tmp 44) = (.slice V.pa V.ps.length V.pc) from hk.slot 44 (by kernel_rfl)) (show a.eval (.tmp 45) = (.int .i64 i1) from hk.slot 45 (by kernel_rfl)) (v := (.pointer (some (ad V.pa (j1 * 5))))) (x1 wx) ⟨rfl, rfl⟩⟩)⟩
      · exact ⟨wanted_free rfl, .inr (.inr ⟨by decide, by decide, fun wx hst hst2 => gp_load (.tmp 46) rfl (show a.eval (.tmp 46) = (.pointer (some (ad V.pa (j1 * 5)))) from hk.slot 46 (by kernel_rfl)) (L47 wx (Save.of (hst (by kernel_rfl)).1)) ⟨rfl, rfl⟩⟩)⟩
      · exact ⟨wanted_free rfl, .inr (.inr ⟨by decide, by decide, fun wx hst hst2 => gp_field (.tmp 4) rfl (show a.eval (.tmp 4) = (.pointer (some ⟨n + 1, 0, none⟩)) from hk.old 4 (by kernel_rfl)) (v := (.pointer (some ⟨n + 1, 1, none⟩))) (fun w => by kernel_rfl) ⟨rfl, rfl⟩⟩)⟩
      · exact ⟨wanted_free rfl, .inr (.inr ⟨by decide, by decide, fun wx hst hst2 => gp_load (.tmp 48) rfl (show a.eval (.tmp 48) = (.pointer (some ⟨n + 1, 1, none⟩)) from hk.slot 48 (by kernel_rfl)) (load_at (fun w => by kernel_rfl) (L49 wx ((hst2 (by kernel_rfl)).elim (fun h => Save.of h.1) (fun h => h.2)))) ⟨rfl, rfl⟩⟩)⟩
      · exact ⟨wanted_free rfl, .inr (.inr ⟨by decide, by decide, fun wx hst hst2 => gp_move (.tmp 10) rfl ⟨rfl, (show a.eval (.tmp 10) = (.int .i64 i2) from hk.old 10 (by kernel_rfl))⟩⟩)⟩
      · exact ⟨wanted_free rfl, .inr (.inr ⟨by decide, by decide, fun wx hst hst2 => gp_index (.tmp 49) (.tmp 50) rfl (show a.eval (.tmp 49) = (.slice W.pa W.ps.length W.pc) from hk.slot 49 (by kernel_rfl)) (show a.eval (.tmp 50) = (.int .i64 i2) from hk.slot 50 (by kernel_rfl)) (v := (.pointer (some (ad W.pa (j2 * 5))))) (x2 wx) ⟨rfl, rfl⟩⟩)⟩
      · exact ⟨wanted_free rfl, .inr (.inr ⟨by decide, by decide, fun wx hst hst2 => gp_load (.tmp 51) rfl (show a.eval (.tmp 51) = (.pointer (some (ad W.pa (j2 * 5)))) from hk.slot 51 (by kernel_rfl)) (L52 wx ((hst2 (by kernel_rfl)).elim (fun h => Save.of h.1) (fun h => h.2))) ⟨rfl, rfl⟩⟩)⟩
      · refine ⟨wanted_free rfl, .inl ⟨rfl, fun wx hst => ?_⟩⟩
        exact gp_storeB rowP (.tmp 6) (.tmp 47) rfl (hk.old 6 (by kernel_rfl)) (hk.slot 47 (by kernel_rfl)) ((hst.1.block _ hp6).trans HE.out.1) rfl rfl (by with_unfolding_all rfl) (fun w' h hs => ⟨⟨h, (Save.of hst.1).trans hs⟩, trivial⟩)
      · refine ⟨wanted_free rfl, .inr (.inl ⟨rfl, fun wx hst => ?_⟩)⟩
        exact gp_storeB rowP (.tmp 7) (.tmp 52) rfl (hk.old 7 (by kernel_rfl)) (hk.slot 52 (by kernel_rfl)) ((hst.2.block _ hp7 (by omega)).trans HE.out.2) rfl rfl (by with_unfolding_all rfl) (fun w' h hs => ⟨⟨(hs.block _ (Array.getElem?_eq_some_iff.1 hst.1).1 (by omega)).trans hst.1, h, (hst.2.less (fun _ _ hj => hj.1)).trans (hs.less (fun _ _ hj => hj.2))⟩, trivial⟩)
      · exact ⟨wanted_free rfl, .inr (.inr ⟨by decide, by decide, fun wx hst hst2 => gp_assign (.const (.bool true)) rfl ⟨rfl, rfl⟩⟩)⟩
    intro a wz hfin hsame hall
    have he := act_same hsame [43, 44, 45, 46, 47, 48, 49, 50, 51, 52, 8] (by kernel_rfl)
    simp only [List.foldl_cons, List.foldl_nil] at he
    rw [show a.eval (.tmp 8) = (.bool true) from hall 8 (by kernel_rfl)] at he
    generalize a.eval (.tmp 43) = y43 at he
    generalize a.eval (.tmp 44) = y44 at he
    generalize a.eval (.tmp 45) = y45 at he
    generalize a.eval (.tmp 46) = y46 at he
    generalize a.eval (.tmp 47) = y47 at he
    generalize a.eval (.tmp 48) = y48 at he
    generalize a.eval (.tmp 49) = y49 at he
    generalize a.eval (.tmp 50) = y50 at he
    generalize a.eval (.tmp 51) = y51 at he
    generalize a.eval (.tmp 52) = y52 at he
    simp only [put_lit] at he
    dsimp only [List.set_cons_zero, List.set_cons_succ] at he
    subst he
    clear hsame hall
    have hNW := HNW.out
    go_wp2_with fail
    refine bodyPost_ret (resB3 rowP rfl (by rfl) (by rfl) hfin.1 hfin.2.1 rfl rfl) rfl ⟨X, Y, ?_, ?_, ?_⟩
    · rw [HBN.out]; rfl
    · intro _; rw [eg1, eg2, hX.out, hY.out]; exact ⟨rfl, rfl⟩
    · exact HB2.out.trans (hfin.2.2.below HB2.out.size (fun k hk => by omega))
end Go.Proofs.Ytpnbaapjjchlbaa
