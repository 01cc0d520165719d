/- citadelref13.Channel, Channels: walked. -/
import Derived.Test.YtpnbaapjjchlbaaRefParts
import Derived.Test.YtpnbaapjjchlbaaRefChan
namespace Go.Proofs.Ytpnbaapjjchlbaa
open Go Go.RowKit Go.Cit

def rc1 (V W : CfgV) (_ : Nat) (id i1 i2 : Int) : Nat → Value
  | 9 => (.agg #[.slice V.wa V.ws.length V.wc, .slice V.pa V.ps.length V.pc, .slice V.ca V.cs.length V.cc])
  | 10 => (.int .i64 id)
  | 11 => (.int .i64 i1)
  | 12 => (.agg #[.slice W.wa W.ws.length W.wc, .slice W.pa W.ps.length W.pc, .slice W.ca W.cs.length W.cc])
  | 13 => (.int .i64 id)
  | 14 => (.int .i64 i2)
  | 7 => (.int .i64 i1)
  | 8 => (.int .i64 i2)
  | _ => undef
def rc1o (_ _ : CfgV) (n : Nat) (id _ _ : Int) : Nat → Value
  | 2 => (.int .i64 id)
  | 3 => (.pointer (some ⟨n, 0, none⟩))
  | 4 => (.pointer (some ⟨n + 1, 0, none⟩))
  | _ => undef
def rc2 (V W : CfgV) (n j1 j2 : Nat) (i1 i2 : Int) (x y : Ch) (g1 g2 e s1 s2 : Bool) : Nat → Value
  | 15 => (.int .i64 i1)
  | 16 => (.bool g1)
  | 17 => (.bool g1)
  | 18 => (bif g1 then (.int .i64 i2) else undef)
  | 19 => (bif g1 then (.bool g2) else undef)
  | 20 => (.bool (g1 && g2))
  | 21 => (.bool (g1 && g2))
  | 22 => (bif (g1 && g2) then (.pointer (some ⟨n, 2, none⟩)) else undef)
  | 23 => (bif (g1 && g2) then (.slice V.ca V.cs.length V.cc) else undef)
  | 24 => (bif (g1 && g2) then (.int .i64 i1) else undef)
  | 25 => (bif (g1 && g2) then (.pointer (some (ad V.ca (j1 * 5)))) else undef)
  | 26 => (bif (g1 && g2) then (.agg #[.int .i64 x.id.1, .int .i64 x.src.1, .int .i64 x.dst.1, .int .i64 x.cap.1, .int .i64 x.size.1]) else undef)
  | 27 => (bif (g1 && g2) then (.pointer (some ⟨n + 1, 2, none⟩)) else undef)
  | 28 => (bif (g1 && g2) then (.slice W.ca W.cs.length W.cc) else undef)
  | 29 => (bif (g1 && g2) then (.int .i64 i2) else undef)
  | 30 => (bif (g1 && g2) then (.pointer (some (ad W.ca (j2 * 5)))) else undef)
  | 31 => (bif (g1 && g2) then (.agg #[.int .i64 y.id.1, .int .i64 y.src.1, .int .i64 y.dst.1, .int .i64 y.cap.1, .int .i64 y.size.1]) else undef)
  | 32 => (bif (g1 && g2) then (.bool e) else undef)
  | 33 => (.bool ((g1 && g2) && e))
  | 34 => (.bool ((g1 && g2) && e))
  | 35 => (bif ((g1 && g2) && e) then (.agg #[.slice V.wa V.ws.length V.wc, .slice V.pa V.ps.length V.pc, .slice V.ca V.cs.length V.cc]) else undef)
  | 36 => (bif ((g1 && g2) && e) then (.agg #[.slice W.wa W.ws.length W.wc, .slice W.pa W.ps.length W.pc, .slice W.ca W.cs.length W.cc]) else undef)
  | 37 => (bif ((g1 && g2) && e) then (.pointer (some ⟨n, 2, none⟩)) else undef)
  | 38 => (bif ((g1 && g2) && e) then (.slice V.ca V.cs.length V.cc) else undef)
  | 39 => (bif ((g1 && g2) && e) then (.int .i64 i1) else undef)
  | 40 => (bif ((g1 && g2) && e) then (.pointer (some (ad V.ca (j1 * 5)))) else undef)
  | 41 => (bif ((g1 && g2) && e) then (.pointer (some ⟨(ad V.ca (j1 * 5)).block, (ad V.ca (j1 * 5)).off + 1, none⟩)) else undef)
  | 42 => (bif ((g1 && g2) && e) then (.int .i64 x.src.1) else undef)
  | 43 => (bif ((g1 && g2) && e) then (.bool s1) else undef)
  | 44 => (.bool (((g1 && g2) && e) && s1))
  | 45 => (.bool (((g1 && g2) && e) && s1))
  | 46 => (bif (((g1 && g2) && e) && s1) then (.agg #[.slice V.wa V.ws.length V.wc, .slice V.pa V.ps.length V.pc, .slice V.ca V.cs.length V.cc]) else undef)
  | 47 => (bif (((g1 && g2) && e) && s1) then (.agg #[.slice W.wa W.ws.length W.wc, .slice W.pa W.ps.length W.pc, .slice W.ca W.cs.length W.cc]) else undef)
  | 48 => (bif (((g1 && g2) && e) && s1) then (.pointer (some ⟨n, 2, none⟩)) else undef)
  | 49 => (bif (((g1 && g2) && e) && s1) then (.slice V.ca V.cs.length V.cc) else undef)
  | 50 => (bif (((g1 && g2) && e) && s1) then (.int .i64 i1) else undef)
  | 51 => (bif (((g1 && g2) && e) && s1) then (.pointer (some (ad V.ca (j1 * 5)))) else undef)
  | 52 => (bif (((g1 && g2) && e) && s1) then (.pointer (some ⟨(ad V.ca (j1 * 5)).block, (ad V.ca (j1 * 5)).off + 2, none⟩)) else undef)
  | 53 => (bif (((g1 && g2) && e) && s1) then (.int .i64 x.dst.1) else undef)
  | 54 => (bif (((g1 && g2) && e) && s1) then (.bool s2) else undef)
  | 55 => (.bool ((((g1 && g2) && e) && s1) && s2))
  | 6 => (.bool ((((g1 && g2) && e) && s1) && s2))
  | _ => undef
def rc2o (_ _ : CfgV) (n _ _ : Nat) (i1 i2 : Int) (_ _ : Ch) (_ _ _ _ _ : Bool) : Nat → Value
  | 3 => (.pointer (some ⟨n, 0, none⟩))
  | 4 => (.pointer (some ⟨n + 1, 0, none⟩))
  | 7 => (.int .i64 i1)
  | 8 => (.int .i64 i2)
  | _ => undef
theorem load_ch {w0 w : World} {a : Option Addr} {l : List Ch} {c : Nat} (h : Vec cCh 5 w0 a l c) (hb : Below w0.heap.size w0 w) (k : Nat) (hk : k < l.length) : (Instr.loadAt 54 (.pointer (some (ad a (k * 5))))).run Try.prog w = .ok (.agg (cA5 l[k])) w := by
  obtain ⟨u0, u1, u2, u3, u4⟩ := chs_cells h hb k hk
  have e : ad a (k * 5) = ⟨(ad a (k * 5)).block, (ad a (k * 5)).off, none⟩ := by cases a <;> rfl
  rw [e] at u0
  rw [e]
  refine run_loadAt_mid w _ _ 54 [.int .i64 l[k].id.1, .int .i64 l[k].src.1, .int .i64 l[k].dst.1, .int .i64 l[k].cap.1, .int .i64 l[k].size.1] _ (fun j v hv => ?_) Try.underlying54 rfl (by kernel_rfl)
  match j, hv with
  | 0, hv => injection hv with hv; rw [← hv]; exact u0
  | 1, hv => injection hv with hv; rw [← hv]; exact u1
  | 2, hv => injection hv with hv; rw [← hv]; exact u2
  | 3, hv => injection hv with hv; rw [← hv]; exact u3
  | 4, hv => injection hv with hv; rw [← hv]; exact u4
set_option maxRecDepth 100000 in
set_option maxHeartbeats 4000000 in
theorem refchan13_calls (w : World) (V W : CfgV) (h : V.At w) (k : W.At w) (hs : SmallV V) (ks : SmallV W) (id : Int) : Calls Try.prog 84 #[.agg #[.slice V.wa V.ws.length V.wc, .slice V.pa V.ps.length V.pc, .slice V.ca V.cs.length V.cc], .agg #[.slice W.wa W.ws.length W.wc, .slice W.pa W.ps.length W.pc, .slice W.ca W.cs.length W.cc], .int .i64 id] w fun e w' => e = .returned (.bool (rchanK V W id)) ∧ Below w.heap.size w w' := by
  obtain ⟨w0, hw0⟩ : ∃ w0, w0 = (w.alloc (.cells #[.slice V.wa V.ws.length V.wc, .slice V.pa V.ps.length V.pc, .slice V.ca V.cs.length V.cc] 26)).alloc (.cells #[.slice W.wa W.ws.length W.wc, .slice W.pa W.ps.length W.pc, .slice W.ca W.cs.length W.cc] 26) := ⟨_, rfl⟩
  have hI := two_box w V W
  rw [← hw0] at hI
  obtain ⟨n, hn⟩ : ∃ n, n = w.heap.size := ⟨_, rfl⟩
  have B0 : Below w.heap.size w w0 := by rw [hw0]; exact ((Below.refl _ w).alloc (Nat.le_refl _) _).alloc (by simp) _
  rw [← hn] at hI
  have HI := Lib.hid hI
  have HV := Lib.hid (And.intro (h.stay B0) (k.stay B0))
  have HSV := Lib.hid (And.intro hs ks)
  have HB0 := Lib.hid B0
  obtain ⟨i1, hi1⟩ : ∃ i, Hid (i = findI (fun x : Ch => decide (x.id.1 = id)) V.cs) := ⟨_, rfl⟩
  obtain ⟨i2, hi2⟩ : ∃ i, Hid (i = findI (fun x : Ch => decide (x.id.1 = id)) W.cs) := ⟨_, rfl⟩
  have HC1 : Hid (∀ q : After w0, Calls Try.prog 54 #[.agg #[.slice V.wa V.ws.length V.wc, .slice V.pa V.ps.length V.pc, .slice V.ca V.cs.length V.cc], .int .i64 id] q.to fun e w' => e = .returned (.int .i64 i1) ∧ Below q.to.heap.size q.to w') := fun q => by
    have := refchan_calls q.to V (HV.out.1.stay q.bel) id
    rwa [← hi1.out] at this
  have HC2 : Hid (∀ q : After w0, Calls Try.prog 54 #[.agg #[.slice W.wa W.ws.length W.wc, .slice W.pa W.ps.length W.pc, .slice W.ca W.cs.length W.cc], .int .i64 id] q.to fun e w' => e = .returned (.int .i64 i2) ∧ Below q.to.heap.size q.to w') := fun q => by
    have := refchan_calls q.to W (HV.out.2.stay q.bel) id
    rwa [← hi2.out] at this
  obtain ⟨⟨c0, c1, c2⟩, ⟨d0, d1, d2⟩⟩ := HI.out
  clear h k hI B0 hs ks
  go_enter Try.func84, Try.ntmps84
  go_upto_region 1 with fail
  rw [← hw0, ← hn]
  refine wp_region_vals (rc1 V W n id i1 i2) (rc1o V W n id i1 i2) [2, 3, 4] (by kernel_rfl) (by kernel_rfl) (by kernel_rfl) ⟨rfl, rfl, rfl, trivial⟩ ?_ ?_
  · refine opsAll_cons ?_ (opsAll_cons ?_ (opsAll_cons ?_ (opsAll_cons ?_ (opsAll_cons ?_ (opsAll_cons ?_ (opsAll_cons ?_ (opsAll_cons ?_ opsAll_nil)))))))
    all_goals intro a hk
    · -- slot 9
      exact .inl ⟨wanted_free rfl, q_load (.tmp 3) rfl (show a.eval (.tmp 3) = (.pointer (some ⟨n, 0, none⟩)) from hk.old 3 (by kernel_rfl) (by kernel_rfl)) (v := (.agg #[.slice V.wa V.ws.length V.wc, .slice V.pa V.ps.length V.pc, .slice V.ca V.cs.length V.cc])) (fun q => load3 (fun w => by kernel_rfl) (fun w => by kernel_rfl) (keep q.bel c0) (keep q.bel c1) (keep q.bel c2)) rfl⟩
    · -- slot 10
      exact .inl ⟨wanted_free rfl, q_move (.tmp 2) rfl (show a.eval (.tmp 2) = (.int .i64 id) from hk.old 2 (by kernel_rfl) (by kernel_rfl))⟩
    · -- slot 11
      exact .inl ⟨wanted_free rfl, q_call rfl rfl #[(.agg #[.slice V.wa V.ws.length V.wc, .slice V.pa V.ps.length V.pc, .slice V.ca V.cs.length V.cc]), (.int .i64 id)] (fun w => by kernel_rfl) (by simp only [List.map_toArray, List.map_cons, List.map_nil, (show a.eval (.tmp 9) = (.agg #[.slice V.wa V.ws.length V.wc, .slice V.pa V.ps.length V.pc, .slice V.ca V.cs.length V.cc]) from hk.slot 9 (by kernel_rfl)), (show a.eval (.tmp 10) = (.int .i64 id) from hk.slot 10 (by kernel_rfl))]) (v := (.int .i64 i1)) (fun q => HC1.out q) rfl⟩
    · -- slot 12
      exact .inl ⟨wanted_free rfl, q_load (.tmp 4) rfl (show a.eval (.tmp 4) = (.pointer (some ⟨n + 1, 0, none⟩)) from hk.old 4 (by kernel_rfl) (by kernel_rfl)) (v := (.agg #[.slice W.wa W.ws.length W.wc, .slice W.pa W.ps.length W.pc, .slice W.ca W.cs.length W.cc])) (fun q => load3 (fun w => by kernel_rfl) (fun w => by kernel_rfl) (keep q.bel d0) (keep q.bel d1) (keep q.bel d2)) rfl⟩
    · -- slot 13
      exact .inl ⟨wanted_free rfl, q_move (.tmp 2) rfl (show a.eval (.tmp 2) = (.int .i64 id) from hk.old 2 (by kernel_rfl) (by kernel_rfl))⟩
    · -- slot 14
      exact .inl ⟨wanted_free rfl, q_call rfl rfl #[(.agg #[.slice W.wa W.ws.length W.wc, .slice W.pa W.ps.length W.pc, .slice W.ca W.cs.length W.cc]), (.int .i64 id)] (fun w => by kernel_rfl) (by simp only [List.map_toArray, List.map_cons, List.map_nil, (show a.eval (.tmp 12) = (.agg #[.slice W.wa W.ws.length W.wc, .slice W.pa W.ps.length W.pc, .slice W.ca W.cs.length W.cc]) from hk.slot 12 (by kernel_rfl)), (show a.eval (.tmp 13) = (.int .i64 id) from hk.slot 13 (by kernel_rfl))]) (v := (.int .i64 i2)) (fun q => HC2.out q) rfl⟩
    · -- slot 7
      exact .inl ⟨wanted_free rfl, q_assign (.tmp 11) rfl (show a.eval (.tmp 11) = (.int .i64 i1) from hk.slot 11 (by kernel_rfl))⟩
    · -- slot 8
      exact .inl ⟨wanted_free rfl, q_assign (.tmp 14) rfl (show a.eval (.tmp 14) = (.int .i64 i2) from hk.slot 14 (by kernel_rfl))⟩
  intro a ⟨w1, hb1⟩ hsame hall
  have he := act_same hsame [9, 10, 11, 12, 13, 14, 7, 8] (by kernel_rfl)
  simp only [List.foldl_cons, List.foldl_nil] at he
  rw [show a.eval (.tmp 7) = (.int .i64 i1) from hall 7 (by kernel_rfl), show a.eval (.tmp 8) = (.int .i64 i2) from hall 8 (by kernel_rfl)] at he
  generalize a.eval (.tmp 9) = x9 at he
  generalize a.eval (.tmp 10) = x10 at he
  generalize a.eval (.tmp 11) = x11 at he
  generalize a.eval (.tmp 12) = x12 at he
  generalize a.eval (.tmp 13) = x13 at he
  generalize a.eval (.tmp 14) = x14 at he
  simp only [put_lit] at he
  dsimp only [List.set_cons_zero, List.set_cons_succ] at he
  subst he
  clear hsame hall
  clear c0 c1 c2 d0 d1 d2
  obtain ⟨c0, c1, c2⟩ := HI.out.1.keep hb1
  obtain ⟨d0, d1, d2⟩ := HI.out.2.keep hb1
  have hV1 := HV.out.1.stay hb1
  have hW1 := HV.out.2.stay hb1
  obtain ⟨j1, hj1⟩ : ∃ j : Nat, Hid (j = i1.toNat) := ⟨_, rfl⟩
  obtain ⟨j2, hj2⟩ : ∃ j : Nat, Hid (j = i2.toNat) := ⟨_, rfl⟩
  obtain ⟨g1, hg1⟩ : ∃ b, Hid (decide ((0 : Int) ≤ i1) = b) := ⟨_, rfl⟩
  obtain ⟨g2, hg2⟩ : ∃ b, Hid (decide ((0 : Int) ≤ i2) = b) := ⟨_, rfl⟩
  obtain ⟨x, hx⟩ : ∃ x, Hid (x = getC V.cs id) := ⟨_, rfl⟩
  obtain ⟨y, hy⟩ : ∃ x, Hid (x = getC W.cs id) := ⟨_, rfl⟩
  have r1 : 0 ≤ i1 → ∃ hj : j1 < V.cs.length, i1 = (j1 : Int) ∧ x = V.cs[j1] := fun h0 => by
    rcases findI_range (fun x : Ch => decide (x.id.1 = id)) V.cs with hf | ⟨i, hi, hf, _⟩
    · rw [← hi1.out] at hf; omega
    · have e : j1 = i := by rw [← hi1.out] at hf; have := hj1.out; omega
      subst e
      exact ⟨hi, by rw [hi1.out, hf], by rw [hx.out, getC, findI_get _ V.cs _ hi hf]; rfl⟩
  have r2 : 0 ≤ i2 → ∃ hj : j2 < W.cs.length, i2 = (j2 : Int) ∧ y = W.cs[j2] := fun h0 => by
    rcases findI_range (fun x : Ch => decide (x.id.1 = id)) W.cs with hf | ⟨i, hi, hf, _⟩
    · rw [← hi2.out] at hf; omega
    · have e : j2 = i := by rw [← hi2.out] at hf; have := hj2.out; omega
      subst e
      exact ⟨hi, by rw [hi2.out, hf], by rw [hy.out, getC, findI_get _ W.cs _ hi hf]; rfl⟩
  have x1 : decide ((0 : Int) ≤ i1) = true → ∀ w, (Instr.indexAt 24 (.slice V.ca V.cs.length V.cc) (.int .i64 i1)).run Try.prog w = .ok (.pointer (some (ad V.ca (j1 * 5)))) w := fun h0 => by
    obtain ⟨hj, e, _⟩ := r1 (of_decide_eq_true h0)
    rw [e]; exact hV1.chs.index etC j1 hj
  have x2 : decide ((0 : Int) ≤ i2) = true → ∀ w, (Instr.indexAt 24 (.slice W.ca W.cs.length W.cc) (.int .i64 i2)).run Try.prog w = .ok (.pointer (some (ad W.ca (j2 * 5)))) w := fun h0 => by
    obtain ⟨hj, e, _⟩ := r2 (of_decide_eq_true h0)
    rw [e]; exact hW1.chs.index etC j2 hj
  have l1 : decide ((0 : Int) ≤ i1) = true → ∀ q : After w1, (Instr.loadAt 54 (.pointer (some (ad V.ca (j1 * 5))))).run Try.prog q.to = .ok (.agg (cA5 x)) q.to := fun h0 q => by
    obtain ⟨hj, _, e⟩ := r1 (of_decide_eq_true h0)
    rw [e]; exact load_ch hV1.chs q.bel j1 hj
  have l2 : decide ((0 : Int) ≤ i2) = true → ∀ q : After w1, (Instr.loadAt 54 (.pointer (some (ad W.ca (j2 * 5))))).run Try.prog q.to = .ok (.agg (cA5 y)) q.to := fun h0 q => by
    obtain ⟨hj, _, e⟩ := r2 (of_decide_eq_true h0)
    rw [e]; exact load_ch hW1.chs q.bel j2 hj
  have u1 : decide ((0 : Int) ≤ i1) = true → ∀ q : After w1, q.to.cell? ⟨(ad V.ca (j1 * 5)).block, (ad V.ca (j1 * 5)).off + 1, none⟩ = some (.int .i64 x.src.1) := fun h0 q => by
    obtain ⟨hj, _, e⟩ := r1 (of_decide_eq_true h0)
    rw [e]; exact (chs_cells hV1.chs q.bel j1 hj).2.1
  have u2 : decide ((0 : Int) ≤ i1) = true → ∀ q : After w1, q.to.cell? ⟨(ad V.ca (j1 * 5)).block, (ad V.ca (j1 * 5)).off + 2, none⟩ = some (.int .i64 x.dst.1) := fun h0 q => by
    obtain ⟨hj, _, e⟩ := r1 (of_decide_eq_true h0)
    rw [e]; exact (chs_cells hV1.chs q.bel j1 hj).2.2.1
  obtain ⟨e, hee⟩ : ∃ e, Hid (decide (x = y) = e) := ⟨_, rfl⟩
  obtain ⟨s1, hs1⟩ : ∃ s, Hid (s = survK V W x.src.1) := ⟨_, rfl⟩
  obtain ⟨s2, hs2⟩ : ∃ s, Hid (s = survK V W x.dst.1) := ⟨_, rfl⟩
  obtain ⟨R, hR⟩ : ∃ R, Hid (R = ((((g1 && g2) && e) && s1) && s2)) := ⟨_, rfl⟩
  have HR : Hid (R = rchanK V W id) := by
    have q1 : g1 = hasC V.cs id := by rw [← hg1.out, hi1.out, findI_any]; rfl
    have q2 : g2 = hasC W.cs id := by rw [← hg2.out, hi2.out, findI_any]; rfl
    rw [Hid, hR.out, q1, q2, ← hee.out, hs1.out, hs2.out, hx.out, hy.out]; rfl
  have HS1 : Hid (∀ q : After w1, Calls Try.prog 37 #[.agg #[.slice V.wa V.ws.length V.wc, .slice V.pa V.ps.length V.pc, .slice V.ca V.cs.length V.cc], .agg #[.slice W.wa W.ws.length W.wc, .slice W.pa W.ps.length W.pc, .slice W.ca W.cs.length W.cc], .int .i64 x.src.1] q.to fun e w' => e = .returned (.bool s1) ∧ Below q.to.heap.size q.to w') := fun q => by
    have := refsurv_calls q.to V W (hV1.stay q.bel) (hW1.stay q.bel) HSV.out.1 HSV.out.2 x.src.1
    rwa [← hs1.out] at this
  have HS2 : Hid (∀ q : After w1, Calls Try.prog 37 #[.agg #[.slice V.wa V.ws.length V.wc, .slice V.pa V.ps.length V.pc, .slice V.ca V.cs.length V.cc], .agg #[.slice W.wa W.ws.length W.wc, .slice W.pa W.ps.length W.pc, .slice W.ca W.cs.length W.cc], .int .i64 x.dst.1] q.to fun e w' => e = .returned (.bool s2) ∧ Below q.to.heap.size q.to w') := fun q => by
    have := refsurv_calls q.to V W (hV1.stay q.bel) (hW1.stay q.bel) HSV.out.1 HSV.out.2 x.dst.1
    rwa [← hs2.out] at this
  go_upto_region 2 with fail
  refine wp_region_vals (rc2 V W n j1 j2 i1 i2 x y g1 g2 e s1 s2) (rc2o V W n j1 j2 i1 i2 x y g1 g2 e s1 s2) [3, 4, 7, 8] (by kernel_rfl) (by kernel_rfl) (by kernel_rfl) ⟨rfl, rfl, rfl, rfl, trivial⟩ ?_ ?_
  · refine opsAll_cons ?_ (opsAll_cons ?_ (opsAll_cons ?_ (opsAll_cons ?_ (opsAll_cons ?_ (opsAll_cons ?_ (opsAll_cons ?_ (opsAll_cons ?_ (opsAll_cons ?_ (opsAll_cons ?_ (opsAll_cons ?_ (opsAll_cons ?_ (opsAll_cons ?_ (opsAll_cons ?_ (opsAll_cons ?_ (opsAll_cons ?_ (opsAll_cons ?_ (opsAll_cons ?_ (opsAll_cons ?_ (opsAll_cons ?_ (opsAll_cons ?_ (opsAll_cons ?_ (opsAll_cons ?_ (opsAll_cons ?_ (opsAll_cons ?_ (opsAll_cons ?_ (opsAll_cons ?_ (opsAll_cons ?_ (opsAll_cons ?_ (opsAll_cons ?_ (opsAll_cons ?_ (opsAll_cons ?_ (opsAll_cons ?_ (opsAll_cons ?_ (opsAll_cons ?_ (opsAll_cons ?_ (opsAll_cons ?_ (opsAll_cons ?_ (opsAll_cons ?_ (opsAll_cons ?_ (opsAll_cons ?_ (opsAll_cons ?_ opsAll_nil)))))))))))))))))))))))))))))))))))))))))
    all_goals intro a hk
    · -- slot 15
      exact .inl ⟨wanted_free rfl, q_move (.tmp 7) rfl (show a.eval (.tmp 7) = (.int .i64 i1) from hk.old 7 (by kernel_rfl) (by kernel_rfl))⟩
    · -- slot 16
      exact .inl ⟨wanted_free rfl, q_bin rfl (show a.eval (.tmp 15) = (.int .i64 i1) from hk.slot 15 (by kernel_rfl)) rfl (v := .bool (decide ((0 : Int) ≤ i1))) (fun w => by kernel_rfl) (congrArg Value.bool (hg1.out))⟩
    · -- slot 17
      exact .inl ⟨wanted_free rfl, q_move (.tmp 16) rfl (show a.eval (.tmp 16) = (.bool g1) from hk.slot 16 (by kernel_rfl))⟩
    · -- slot 18
      cases g1 with
      | true =>
        exact .inl ⟨wanted_by 17 true (by kernel_rfl) (show a.eval (.tmp 17) = (.bool true) from hk.slot 17 (by kernel_rfl)), q_move (.tmp 8) rfl (show a.eval (.tmp 8) = (.int .i64 i2) from hk.old 8 (by kernel_rfl) (by kernel_rfl))⟩
      | false =>
        exact .inr ⟨unwanted_by 17 true (by kernel_rfl) (show a.eval (.tmp 17) = (.bool false) from hk.slot 17 (by kernel_rfl)), rfl⟩
    · -- slot 19
      cases g1 with
      | true =>
        exact .inl ⟨wanted_by 17 true (by kernel_rfl) (show a.eval (.tmp 17) = (.bool true) from hk.slot 17 (by kernel_rfl)), q_bin rfl (show a.eval (.tmp 18) = (.int .i64 i2) from hk.slot 18 (by kernel_rfl)) rfl (v := .bool (decide ((0 : Int) ≤ i2))) (fun w => by kernel_rfl) (congrArg Value.bool (hg2.out))⟩
      | false =>
        exact .inr ⟨unwanted_by 17 true (by kernel_rfl) (show a.eval (.tmp 17) = (.bool false) from hk.slot 17 (by kernel_rfl)), rfl⟩
    · -- slot 20
      cases g1 with
      | true =>
        exact .inl ⟨wanted_free rfl, q_pick rfl true (show a.eval (.tmp 17) = (.bool true) from hk.slot 17 (by kernel_rfl)) (show a.eval (.tmp 19) = (.bool g2) from hk.slot 19 (by kernel_rfl))⟩
      | false =>
        exact .inl ⟨wanted_free rfl, q_pick rfl false (show a.eval (.tmp 17) = (.bool false) from hk.slot 17 (by kernel_rfl)) rfl⟩
    · -- slot 21
      exact .inl ⟨wanted_free rfl, q_move (.tmp 20) rfl (show a.eval (.tmp 20) = (.bool (g1 && g2)) from hk.slot 20 (by kernel_rfl))⟩
    · -- slot 22
      cases g1 with
      | true =>
        cases g2 with
        | true =>
          exact .inl ⟨wanted_by 21 true (by kernel_rfl) (show a.eval (.tmp 21) = (.bool (true && true)) from hk.slot 21 (by kernel_rfl)), q_field (.tmp 3) rfl (show a.eval (.tmp 3) = (.pointer (some ⟨n, 0, none⟩)) from hk.old 3 (by kernel_rfl) (by kernel_rfl)) (v := (.pointer (some ⟨n, 2, none⟩))) (fun w => by kernel_rfl) rfl⟩
        | false =>
          exact .inr ⟨unwanted_by 21 true (by kernel_rfl) (show a.eval (.tmp 21) = (.bool (true && false)) from hk.slot 21 (by kernel_rfl)), rfl⟩
      | false =>
        exact .inr ⟨unwanted_by 21 true (by kernel_rfl) (show a.eval (.tmp 21) = (.bool (false && g2)) from hk.slot 21 (by kernel_rfl)), rfl⟩
    · -- slot 23
      cases g1 with
      | true =>
        cases g2 with
        | true =>
          exact .inl ⟨wanted_by 21 true (by kernel_rfl) (show a.eval (.tmp 21) = (.bool (true && true)) from hk.slot 21 (by kernel_rfl)), q_load (.tmp 22) rfl (show a.eval (.tmp 22) = (.pointer (some ⟨n, 2, none⟩)) from hk.slot 22 (by kernel_rfl)) (v := (.slice V.ca V.cs.length V.cc)) (fun q => load_at (fun w => by kernel_rfl) (keep q.bel c2)) rfl⟩
        | false =>
          exact .inr ⟨unwanted_by 21 true (by kernel_rfl) (show a.eval (.tmp 21) = (.bool (true && false)) from hk.slot 21 (by kernel_rfl)), rfl⟩
      | false =>
        exact .inr ⟨unwanted_by 21 true (by kernel_rfl) (show a.eval (.tmp 21) = (.bool (false && g2)) from hk.slot 21 (by kernel_rfl)), rfl⟩
    · -- slot 24
      cases g1 with
      | true =>
        cases g2 with
        | true =>
          exact .inl ⟨wanted_by 21 true (by kernel_rfl) (show a.eval (.tmp 21) = (.bool (true && true)) from hk.slot 21 (by kernel_rfl)), q_move (.tmp 7) rfl (show a.eval (.tmp 7) = (.int .i64 i1) from hk.old 7 (by kernel_rfl) (by kernel_rfl))⟩
        | false =>
          exact .inr ⟨unwanted_by 21 true (by kernel_rfl) (show a.eval (.tmp 21) = (.bool (true && false)) from hk.slot 21 (by kernel_rfl)), rfl⟩
      | false =>
        exact .inr ⟨unwanted_by 21 true (by kernel_rfl) (show a.eval (.tmp 21) = (.bool (false && g2)) from hk.slot 21 (by kernel_rfl)), rfl⟩
    · -- slot 25
      cases g1 with
      | true =>
        cases g2 with
        | true =>
          exact .inl ⟨wanted_by 21 true (by kernel_rfl) (show a.eval (.tmp 21) = (.bool (true && true)) from hk.slot 21 (by kernel_rfl)), q_index (.tmp 23) (.tmp 24) rfl (show a.eval (.tmp 23) = (.slice V.ca V.cs.length V.cc) from hk.slot 23 (by kernel_rfl)) (show a.eval (.tmp 24) = (.int .i64 i1) from hk.slot 24 (by kernel_rfl)) (v := (.pointer (some (ad V.ca (j1 * 5))))) (fun w => (x1 hg1.out) w) rfl⟩
        | false =>
          exact .inr ⟨unwanted_by 21 true (by kernel_rfl) (show a.eval (.tmp 21) = (.bool (true && false)) from hk.slot 21 (by kernel_rfl)), rfl⟩
      | false =>
        exact .inr ⟨unwanted_by 21 true (by kernel_rfl) (show a.eval (.tmp 21) = (.bool (false && g2)) from hk.slot 21 (by kernel_rfl)), rfl⟩
    · -- slot 26
      cases g1 with
      | true =>
        cases g2 with
        | true =>
          exact .inl ⟨wanted_by 21 true (by kernel_rfl) (show a.eval (.tmp 21) = (.bool (true && true)) from hk.slot 21 (by kernel_rfl)), q_load (.tmp 25) rfl (show a.eval (.tmp 25) = (.pointer (some (ad V.ca (j1 * 5)))) from hk.slot 25 (by kernel_rfl)) (v := (.agg #[.int .i64 x.id.1, .int .i64 x.src.1, .int .i64 x.dst.1, .int .i64 x.cap.1, .int .i64 x.size.1])) (fun q => l1 hg1.out q) rfl⟩
        | false =>
          exact .inr ⟨unwanted_by 21 true (by kernel_rfl) (show a.eval (.tmp 21) = (.bool (true && false)) from hk.slot 21 (by kernel_rfl)), rfl⟩
      | false =>
        exact .inr ⟨unwanted_by 21 true (by kernel_rfl) (show a.eval (.tmp 21) = (.bool (false && g2)) from hk.slot 21 (by kernel_rfl)), rfl⟩
    · -- slot 27
      cases g1 with
      | true =>
        cases g2 with
        | true =>
          exact .inl ⟨wanted_by 21 true (by kernel_rfl) (show a.eval (.tmp 21) = (.bool (true && true)) from hk.slot 21 (by kernel_rfl)), q_field (.tmp 4) rfl (show a.eval (.tmp 4) = (.pointer (some ⟨n + 1, 0, none⟩)) from hk.old 4 (by kernel_rfl) (by kernel_rfl)) (v := (.pointer (some ⟨n + 1, 2, none⟩))) (fun w => by kernel_rfl) rfl⟩
        | false =>
          exact .inr ⟨unwanted_by 21 true (by kernel_rfl) (show a.eval (.tmp 21) = (.bool (true && false)) from hk.slot 21 (by kernel_rfl)), rfl⟩
      | false =>
        exact .inr ⟨unwanted_by 21 true (by kernel_rfl) (show a.eval (.tmp 21) = (.bool (false && g2)) from hk.slot 21 (by kernel_rfl)), rfl⟩
    · -- slot 28
      cases g1 with
      | true =>
        cases g2 with
        | true =>
          exact .inl ⟨wanted_by 21 true (by kernel_rfl) (show a.eval (.tmp 21) = (.bool (true && true)) from hk.slot 21 (by kernel_rfl)), q_load (.tmp 27) rfl (show a.eval (.tmp 27) = (.pointer (some ⟨n + 1, 2, none⟩)) from hk.slot 27 (by kernel_rfl)) (v := (.slice W.ca W.cs.length W.cc)) (fun q => load_at (fun w => by kernel_rfl) (keep q.bel d2)) rfl⟩
        | false =>
          exact .inr ⟨unwanted_by 21 true (by kernel_rfl) (show a.eval (.tmp 21) = (.bool (true && false)) from hk.slot 21 (by kernel_rfl)), rfl⟩
      | false =>
        exact .inr ⟨unwanted_by 21 true (by kernel_rfl) (show a.eval (.tmp 21) = (.bool (false && g2)) from hk.slot 21 (by kernel_rfl)), rfl⟩
    · -- slot 29
      cases g1 with
      | true =>
        cases g2 with
        | true =>
          exact .inl ⟨wanted_by 21 true (by kernel_rfl) (show a.eval (.tmp 21) = (.bool (true && true)) from hk.slot 21 (by kernel_rfl)), q_move (.tmp 8) rfl (show a.eval (.tmp 8) = (.int .i64 i2) from hk.old 8 (by kernel_rfl) (by kernel_rfl))⟩
        | false =>
          exact .inr ⟨unwanted_by 21 true (by kernel_rfl) (show a.eval (.tmp 21) = (.bool (true && false)) from hk.slot 21 (by kernel_rfl)), rfl⟩
      | false =>
        exact .inr ⟨unwanted_by 21 true (by kernel_rfl) (show a.eval (.tmp 21) = (.bool (false && g2)) from hk.slot 21 (by kernel_rfl)), rfl⟩
    · -- slot 30
      cases g1 with
      | true =>
        cases g2 with
        | true =>
          exact .inl ⟨wanted_by 21 true (by kernel_rfl) (show a.eval (.tmp 21) = (.bool (true && true)) from hk.slot 21 (by kernel_rfl)), q_index (.tmp 28) (.tmp 29) rfl (show a.eval (.tmp 28) = (.slice W.ca W.cs.length W.cc) from hk.slot 28 (by kernel_rfl)) (show a.eval (.tmp 29) = (.int .i64 i2) from hk.slot 29 (by kernel_rfl)) (v := (.pointer (some (ad W.ca (j2 * 5))))) (fun w => (x2 hg2.out) w) rfl⟩
        | false =>
          exact .inr ⟨unwanted_by 21 true (by kernel_rfl) (show a.eval (.tmp 21) = (.bool (true && false)) from hk.slot 21 (by kernel_rfl)), rfl⟩
      | false =>
        exact .inr ⟨unwanted_by 21 true (by kernel_rfl) (show a.eval (.tmp 21) = (.bool (false && g2)) from hk.slot 21 (by kernel_rfl)), rfl⟩
    · -- slot 31
      cases g1 with
      | true =>
        cases g2 with
        | true =>
          exact .inl ⟨wanted_by 21 true (by kernel_rfl) (show a.eval (.tmp 21) = (.bool (true && true)) from hk.slot 21 (by kernel_rfl)), q_load (.tmp 30) rfl (show a.eval (.tmp 30) = (.pointer (some (ad W.ca (j2 * 5)))) from hk.slot 30 (by kernel_rfl)) (v := (.agg #[.int .i64 y.id.1, .int .i64 y.src.1, .int .i64 y.dst.1, .int .i64 y.cap.1, .int .i64 y.size.1])) (fun q => l2 hg2.out q) rfl⟩
        | false =>
          exact .inr ⟨unwanted_by 21 true (by kernel_rfl) (show a.eval (.tmp 21) = (.bool (true && false)) from hk.slot 21 (by kernel_rfl)), rfl⟩
      | false =>
        exact .inr ⟨unwanted_by 21 true (by kernel_rfl) (show a.eval (.tmp 21) = (.bool (false && g2)) from hk.slot 21 (by kernel_rfl)), rfl⟩
    · -- slot 32
      cases g1 with
      | true =>
        cases g2 with
        | true =>
          exact .inl ⟨wanted_by 21 true (by kernel_rfl) (show a.eval (.tmp 21) = (.bool (true && true)) from hk.slot 21 (by kernel_rfl)), q_bin rfl (show a.eval (.tmp 26) = (.agg #[.int .i64 x.id.1, .int .i64 x.src.1, .int .i64 x.dst.1, .int .i64 x.cap.1, .int .i64 x.size.1]) from hk.slot 26 (by kernel_rfl)) (show a.eval (.tmp 31) = (.agg #[.int .i64 y.id.1, .int .i64 y.src.1, .int .i64 y.dst.1, .int .i64 y.cap.1, .int .i64 y.size.1]) from hk.slot 31 (by kernel_rfl)) (v := (.bool e)) (fun w => by rw [← hee.out]; exact run_ch_eq x y w) rfl⟩
        | false =>
          exact .inr ⟨unwanted_by 21 true (by kernel_rfl) (show a.eval (.tmp 21) = (.bool (true && false)) from hk.slot 21 (by kernel_rfl)), rfl⟩
      | false =>
        exact .inr ⟨unwanted_by 21 true (by kernel_rfl) (show a.eval (.tmp 21) = (.bool (false && g2)) from hk.slot 21 (by kernel_rfl)), rfl⟩
    · -- slot 33
      cases g1 with
      | true =>
        cases g2 with
        | true =>
          exact .inl ⟨wanted_free rfl, q_pick rfl true (show a.eval (.tmp 21) = (.bool (true && true)) from hk.slot 21 (by kernel_rfl)) (show a.eval (.tmp 32) = (.bool e) from hk.slot 32 (by kernel_rfl))⟩
        | false =>
          exact .inl ⟨wanted_free rfl, q_pick rfl false (show a.eval (.tmp 21) = (.bool (true && false)) from hk.slot 21 (by kernel_rfl)) rfl⟩
      | false =>
        exact .inl ⟨wanted_free rfl, q_pick rfl false (show a.eval (.tmp 21) = (.bool (false && g2)) from hk.slot 21 (by kernel_rfl)) rfl⟩
    · -- slot 34
      exact .inl ⟨wanted_free rfl, q_move (.tmp 33) rfl (show a.eval (.tmp 33) = (.bool ((g1 && g2) && e)) from hk.slot 33 (by kernel_rfl))⟩
    · -- slot 35
      cases g1 with
      | true =>
        cases g2 with
        | true =>
          cases e with
          | true =>
            exact .inl ⟨wanted_by 34 true (by kernel_rfl) (show a.eval (.tmp 34) = (.bool ((true && true) && true)) from hk.slot 34 (by kernel_rfl)), q_load (.tmp 3) rfl (show a.eval (.tmp 3) = (.pointer (some ⟨n, 0, none⟩)) from hk.old 3 (by kernel_rfl) (by kernel_rfl)) (v := (.agg #[.slice V.wa V.ws.length V.wc, .slice V.pa V.ps.length V.pc, .slice V.ca V.cs.length V.cc])) (fun q => load3 (fun w => by kernel_rfl) (fun w => by kernel_rfl) (keep q.bel c0) (keep q.bel c1) (keep q.bel c2)) rfl⟩
          | false =>
            exact .inr ⟨unwanted_by 34 true (by kernel_rfl) (show a.eval (.tmp 34) = (.bool ((true && true) && false)) from hk.slot 34 (by kernel_rfl)), rfl⟩
        | false =>
          exact .inr ⟨unwanted_by 34 true (by kernel_rfl) (show a.eval (.tmp 34) = (.bool ((true && false) && e)) from hk.slot 34 (by kernel_rfl)), rfl⟩
      | false =>
        exact .inr ⟨unwanted_by 34 true (by kernel_rfl) (show a.eval (.tmp 34) = (.bool ((false && g2) && e)) from hk.slot 34 (by kernel_rfl)), rfl⟩
    · -- slot 36
      cases g1 with
      | true =>
        cases g2 with
        | true =>
          cases e with
          | true =>
            exact .inl ⟨wanted_by 34 true (by kernel_rfl) (show a.eval (.tmp 34) = (.bool ((true && true) && true)) from hk.slot 34 (by kernel_rfl)), q_load (.tmp 4) rfl (show a.eval (.tmp 4) = (.pointer (some ⟨n + 1, 0, none⟩)) from hk.old 4 (by kernel_rfl) (by kernel_rfl)) (v := (.agg #[.slice W.wa W.ws.length W.wc, .slice W.pa W.ps.length W.pc, .slice W.ca W.cs.length W.cc])) (fun q => load3 (fun w => by kernel_rfl) (fun w => by kernel_rfl) (keep q.bel d0) (keep q.bel d1) (keep q.bel d2)) rfl⟩
          | false =>
            exact .inr ⟨unwanted_by 34 true (by kernel_rfl) (show a.eval (.tmp 34) = (.bool ((true && true) && false)) from hk.slot 34 (by kernel_rfl)), rfl⟩
        | false =>
          exact .inr ⟨unwanted_by 34 true (by kernel_rfl) (show a.eval (.tmp 34) = (.bool ((true && false) && e)) from hk.slot 34 (by kernel_rfl)), rfl⟩
      | false =>
        exact .inr ⟨unwanted_by 34 true (by kernel_rfl) (show a.eval (.tmp 34) = (.bool ((false && g2) && e)) from hk.slot 34 (by kernel_rfl)), rfl⟩
    · -- slot 37
      cases g1 with
      | true =>
        cases g2 with
        | true =>
          cases e with
          | true =>
            exact .inl ⟨wanted_by 34 true (by kernel_rfl) (show a.eval (.tmp 34) = (.bool ((true && true) && true)) from hk.slot 34 (by kernel_rfl)), q_field (.tmp 3) rfl (show a.eval (.tmp 3) = (.pointer (some ⟨n, 0, none⟩)) from hk.old 3 (by kernel_rfl) (by kernel_rfl)) (v := (.pointer (some ⟨n, 2, none⟩))) (fun w => by kernel_rfl) rfl⟩
          | false =>
            exact .inr ⟨unwanted_by 34 true (by kernel_rfl) (show a.eval (.tmp 34) = (.bool ((true && true) && false)) from hk.slot 34 (by kernel_rfl)), rfl⟩
        | false =>
          exact .inr ⟨unwanted_by 34 true (by kernel_rfl) (show a.eval (.tmp 34) = (.bool ((true && false) && e)) from hk.slot 34 (by kernel_rfl)), rfl⟩
      | false =>
        exact .inr ⟨unwanted_by 34 true (by kernel_rfl) (show a.eval (.tmp 34) = (.bool ((false && g2) && e)) from hk.slot 34 (by kernel_rfl)), rfl⟩
    · -- slot 38
      cases g1 with
      | true =>
        cases g2 with
        | true =>
          cases e with
          | true =>
            exact .inl ⟨wanted_by 34 true (by kernel_rfl) (show a.eval (.tmp 34) = (.bool ((true && true) && true)) from hk.slot 34 (by kernel_rfl)), q_load (.tmp 37) rfl (show a.eval (.tmp 37) = (.pointer (some ⟨n, 2, none⟩)) from hk.slot 37 (by kernel_rfl)) (v := (.slice V.ca V.cs.length V.cc)) (fun q => load_at (fun w => by kernel_rfl) (keep q.bel c2)) rfl⟩
          | false =>
            exact .inr ⟨unwanted_by 34 true (by kernel_rfl) (show a.eval (.tmp 34) = (.bool ((true && true) && false)) from hk.slot 34 (by kernel_rfl)), rfl⟩
        | false =>
          exact .inr ⟨unwanted_by 34 true (by kernel_rfl) (show a.eval (.tmp 34) = (.bool ((true && false) && e)) from hk.slot 34 (by kernel_rfl)), rfl⟩
      | false =>
        exact .inr ⟨unwanted_by 34 true (by kernel_rfl) (show a.eval (.tmp 34) = (.bool ((false && g2) && e)) from hk.slot 34 (by kernel_rfl)), rfl⟩
    · -- slot 39
      cases g1 with
      | true =>
        cases g2 with
        | true =>
          cases e with
          | true =>
            exact .inl ⟨wanted_by 34 true (by kernel_rfl) (show a.eval (.tmp 34) = (.bool ((true && true) && true)) from hk.slot 34 (by kernel_rfl)), q_move (.tmp 7) rfl (show a.eval (.tmp 7) = (.int .i64 i1) from hk.old 7 (by kernel_rfl) (by kernel_rfl))⟩
          | false =>
            exact .inr ⟨unwanted_by 34 true (by kernel_rfl) (show a.eval (.tmp 34) = (.bool ((true && true) && false)) from hk.slot 34 (by kernel_rfl)), rfl⟩
        | false =>
          exact .inr ⟨unwanted_by 34 true (by kernel_rfl) (show a.eval (.tmp 34) = (.bool ((true && false) && e)) from hk.slot 34 (by kernel_rfl)), rfl⟩
      | false =>
        exact .inr ⟨unwanted_by 34 true (by kernel_rfl) (show a.eval (.tmp 34) = (.bool ((false && g2) && e)) from hk.slot 34 (by kernel_rfl)), rfl⟩
    · -- slot 40
      cases g1 with
      | true =>
        cases g2 with
        | true =>
          cases e with
          | true =>
            exact .inl ⟨wanted_by 34 true (by kernel_rfl) (show a.eval (.tmp 34) = (.bool ((true && true) && true)) from hk.slot 34 (by kernel_rfl)), q_index (.tmp 38) (.tmp 39) rfl (show a.eval (.tmp 38) = (.slice V.ca V.cs.length V.cc) from hk.slot 38 (by kernel_rfl)) (show a.eval (.tmp 39) = (.int .i64 i1) from hk.slot 39 (by kernel_rfl)) (v := (.pointer (some (ad V.ca (j1 * 5))))) (fun w => (x1 hg1.out) w) rfl⟩
          | false =>
            exact .inr ⟨unwanted_by 34 true (by kernel_rfl) (show a.eval (.tmp 34) = (.bool ((true && true) && false)) from hk.slot 34 (by kernel_rfl)), rfl⟩
        | false =>
          exact .inr ⟨unwanted_by 34 true (by kernel_rfl) (show a.eval (.tmp 34) = (.bool ((true && false) && e)) from hk.slot 34 (by kernel_rfl)), rfl⟩
      | false =>
        exact .inr ⟨unwanted_by 34 true (by kernel_rfl) (show a.eval (.tmp 34) = (.bool ((false && g2) && e)) from hk.slot 34 (by kernel_rfl)), rfl⟩
    · -- slot 41
      cases g1 with
      | true =>
        cases g2 with
        | true =>
          cases e with
          | true =>
            exact .inl ⟨wanted_by 34 true (by kernel_rfl) (show a.eval (.tmp 34) = (.bool ((true && true) && true)) from hk.slot 34 (by kernel_rfl)), q_field (.tmp 40) rfl (show a.eval (.tmp 40) = (.pointer (some (ad V.ca (j1 * 5)))) from hk.slot 40 (by kernel_rfl)) (v := (.pointer (some ⟨(ad V.ca (j1 * 5)).block, (ad V.ca (j1 * 5)).off + 1, none⟩))) (fun w => by kernel_rfl) rfl⟩
          | false =>
            exact .inr ⟨unwanted_by 34 true (by kernel_rfl) (show a.eval (.tmp 34) = (.bool ((true && true) && false)) from hk.slot 34 (by kernel_rfl)), rfl⟩
        | false =>
          exact .inr ⟨unwanted_by 34 true (by kernel_rfl) (show a.eval (.tmp 34) = (.bool ((true && false) && e)) from hk.slot 34 (by kernel_rfl)), rfl⟩
      | false =>
        exact .inr ⟨unwanted_by 34 true (by kernel_rfl) (show a.eval (.tmp 34) = (.bool ((false && g2) && e)) from hk.slot 34 (by kernel_rfl)), rfl⟩
    · -- slot 42
      cases g1 with
      | true =>
        cases g2 with
        | true =>
          cases e with
          | true =>
            exact .inl ⟨wanted_by 34 true (by kernel_rfl) (show a.eval (.tmp 34) = (.bool ((true && true) && true)) from hk.slot 34 (by kernel_rfl)), q_load (.tmp 41) rfl (show a.eval (.tmp 41) = (.pointer (some ⟨(ad V.ca (j1 * 5)).block, (ad V.ca (j1 * 5)).off + 1, none⟩)) from hk.slot 41 (by kernel_rfl)) (v := (.int .i64 x.src.1)) (fun q => load_at (fun w => by kernel_rfl) (u1 hg1.out q)) rfl⟩
          | false =>
            exact .inr ⟨unwanted_by 34 true (by kernel_rfl) (show a.eval (.tmp 34) = (.bool ((true && true) && false)) from hk.slot 34 (by kernel_rfl)), rfl⟩
        | false =>
          exact .inr ⟨unwanted_by 34 true (by kernel_rfl) (show a.eval (.tmp 34) = (.bool ((true && false) && e)) from hk.slot 34 (by kernel_rfl)), rfl⟩
      | false =>
        exact .inr ⟨unwanted_by 34 true (by kernel_rfl) (show a.eval (.tmp 34) = (.bool ((false && g2) && e)) from hk.slot 34 (by kernel_rfl)), rfl⟩
    · -- slot 43
      cases g1 with
      | true =>
        cases g2 with
        | true =>
          cases e with
          | true =>
            exact .inl ⟨wanted_by 34 true (by kernel_rfl) (show a.eval (.tmp 34) = (.bool ((true && true) && true)) from hk.slot 34 (by kernel_rfl)), q_call rfl rfl #[(.agg #[.slice V.wa V.ws.length V.wc, .slice V.pa V.ps.length V.pc, .slice V.ca V.cs.length V.cc]), (.agg #[.slice W.wa W.ws.length W.wc, .slice W.pa W.ps.length W.pc, .slice W.ca W.cs.length W.cc]), (.int .i64 x.src.1)] (fun w => by kernel_rfl) (by simp only [List.map_toArray, List.map_cons, List.map_nil, (show a.eval (.tmp 35) = (.agg #[.slice V.wa V.ws.length V.wc, .slice V.pa V.ps.length V.pc, .slice V.ca V.cs.length V.cc]) from hk.slot 35 (by kernel_rfl)), (show a.eval (.tmp 36) = (.agg #[.slice W.wa W.ws.length W.wc, .slice W.pa W.ps.length W.pc, .slice W.ca W.cs.length W.cc]) from hk.slot 36 (by kernel_rfl)), (show a.eval (.tmp 42) = (.int .i64 x.src.1) from hk.slot 42 (by kernel_rfl))]) (v := (.bool s1)) (fun q => HS1.out q) rfl⟩
          | false =>
            exact .inr ⟨unwanted_by 34 true (by kernel_rfl) (show a.eval (.tmp 34) = (.bool ((true && true) && false)) from hk.slot 34 (by kernel_rfl)), rfl⟩
        | false =>
          exact .inr ⟨unwanted_by 34 true (by kernel_rfl) (show a.eval (.tmp 34) = (.bool ((true && false) && e)) from hk.slot 34 (by kernel_rfl)), rfl⟩
      | false =>
        exact .inr ⟨unwanted_by 34 true (by kernel_rfl) (show a.eval (.tmp 34) = (.bool ((false && g2) && e)) from hk.slot 34 (by kernel_rfl)), rfl⟩
    · -- slot 44
      cases g1 with
      | true =>
        cases g2 with
        | true =>
          cases e with
          | true =>
            exact .inl ⟨wanted_free rfl, q_pick rfl true (show a.eval (.tmp 34) = (.bool ((true && true) && true)) from hk.slot 34 (by kernel_rfl)) (show a.eval (.tmp 43) = (.bool s1) from hk.slot 43 (by kernel_rfl))⟩
          | false =>
            exact .inl ⟨wanted_free rfl, q_pick rfl false (show a.eval (.tmp 34) = (.bool ((true && true) && false)) from hk.slot 34 (by kernel_rfl)) rfl⟩
        | false =>
          exact .inl ⟨wanted_free rfl, q_pick rfl false (show a.eval (.tmp 34) = (.bool ((true && false) && e)) from hk.slot 34 (by kernel_rfl)) rfl⟩
      | false =>
        exact .inl ⟨wanted_free rfl, q_pick rfl false (show a.eval (.tmp 34) = (.bool ((false && g2) && e)) from hk.slot 34 (by kernel_rfl)) rfl⟩
    · -- slot 45
      exact .inl ⟨wanted_free rfl, q_move (.tmp 44) rfl (show a.eval (.tmp 44) = (.bool (((g1 && g2) && e) && s1)) from hk.slot 44 (by kernel_rfl))⟩
    · -- slot 46
      cases g1 with
      | true =>
        cases g2 with
        | true =>
          cases e with
          | true =>
            cases s1 with
            | true =>
              exact .inl ⟨wanted_by 45 true (by kernel_rfl) (show a.eval (.tmp 45) = (.bool (((true && true) && true) && true)) from hk.slot 45 (by kernel_rfl)), q_load (.tmp 3) rfl (show a.eval (.tmp 3) = (.pointer (some ⟨n, 0, none⟩)) from hk.old 3 (by kernel_rfl) (by kernel_rfl)) (v := (.agg #[.slice V.wa V.ws.length V.wc, .slice V.pa V.ps.length V.pc, .slice V.ca V.cs.length V.cc])) (fun q => load3 (fun w => by kernel_rfl) (fun w => by kernel_rfl) (keep q.bel c0) (keep q.bel c1) (keep q.bel c2)) rfl⟩
            | false =>
              exact .inr ⟨unwanted_by 45 true (by kernel_rfl) (show a.eval (.tmp 45) = (.bool (((true && true) && true) && false)) from hk.slot 45 (by kernel_rfl)), rfl⟩
          | false =>
            exact .inr ⟨unwanted_by 45 true (by kernel_rfl) (show a.eval (.tmp 45) = (.bool (((true && true) && false) && s1)) from hk.slot 45 (by kernel_rfl)), rfl⟩
        | false =>
          exact .inr ⟨unwanted_by 45 true (by kernel_rfl) (show a.eval (.tmp 45) = (.bool (((true && false) && e) && s1)) from hk.slot 45 (by kernel_rfl)), rfl⟩
      | false =>
        exact .inr ⟨unwanted_by 45 true (by kernel_rfl) (show a.eval (.tmp 45) = (.bool (((false && g2) && e) && s1)) from hk.slot 45 (by kernel_rfl)), rfl⟩
    · -- slot 47
      cases g1 with
      | true =>
        cases g2 with
        | true =>
          cases e with
          | true =>
            cases s1 with
            | true =>
              exact .inl ⟨wanted_by 45 true (by kernel_rfl) (show a.eval (.tmp 45) = (.bool (((true && true) && true) && true)) from hk.slot 45 (by kernel_rfl)), q_load (.tmp 4) rfl (show a.eval (.tmp 4) = (.pointer (some ⟨n + 1, 0, none⟩)) from hk.old 4 (by kernel_rfl) (by kernel_rfl)) (v := (.agg #[.slice W.wa W.ws.length W.wc, .slice W.pa W.ps.length W.pc, .slice W.ca W.cs.length W.cc])) (fun q => load3 (fun w => by kernel_rfl) (fun w => by kernel_rfl) (keep q.bel d0) (keep q.bel d1) (keep q.bel d2)) rfl⟩
            | false =>
              exact .inr ⟨unwanted_by 45 true (by kernel_rfl) (show a.eval (.tmp 45) = (.bool (((true && true) && true) && false)) from hk.slot 45 (by kernel_rfl)), rfl⟩
          | false =>
            exact .inr ⟨unwanted_by 45 true (by kernel_rfl) (show a.eval (.tmp 45) = (.bool (((true && true) && false) && s1)) from hk.slot 45 (by kernel_rfl)), rfl⟩
        | false =>
          exact .inr ⟨unwanted_by 45 true (by kernel_rfl) (show a.eval (.tmp 45) = (.bool (((true && false) && e) && s1)) from hk.slot 45 (by kernel_rfl)), rfl⟩
      | false =>
        exact .inr ⟨unwanted_by 45 true (by kernel_rfl) (show a.eval (.tmp 45) = (.bool (((false && g2) && e) && s1)) from hk.slot 45 (by kernel_rfl)), rfl⟩
    · -- slot 48
      cases g1 with
      | true =>
        cases g2 with
        | true =>
          cases e with
          | true =>
            cases s1 with
            | true =>
              exact .inl ⟨wanted_by 45 true (by kernel_rfl) (show a.eval (.tmp 45) = (.bool (((true && true) && true) && true)) from hk.slot 45 (by kernel_rfl)), q_field (.tmp 3) rfl (show a.eval (.tmp 3) = (.pointer (some ⟨n, 0, none⟩)) from hk.old 3 (by kernel_rfl) (by kernel_rfl)) (v := (.pointer (some ⟨n, 2, none⟩))) (fun w => by kernel_rfl) rfl⟩
            | false =>
              exact .inr ⟨unwanted_by 45 true (by kernel_rfl) (show a.eval (.tmp 45) = (.bool (((true && true) && true) && false)) from hk.slot 45 (by kernel_rfl)), rfl⟩
          | false =>
            exact .inr ⟨unwanted_by 45 true (by kernel_rfl) (show a.eval (.tmp 45) = (.bool (((true && true) && false) && s1)) from hk.slot 45 (by kernel_rfl)), rfl⟩
        | false =>
          exact .inr ⟨unwanted_by 45 true (by kernel_rfl) (show a.eval (.tmp 45) = (.bool (((true && false) && e) && s1)) from hk.slot 45 (by kernel_rfl)), rfl⟩
      | false =>
        exact .inr ⟨unwanted_by 45 true (by kernel_rfl) (show a.eval (.tmp 45) = (.bool (((false && g2) && e) && s1)) from hk.slot 45 (by kernel_rfl)), rfl⟩
    · -- slot 49
      cases g1 with
      | true =>
        cases g2 with
        | true =>
          cases e with
          | true =>
            cases s1 with
            | true =>
              exact .inl ⟨wanted_by 45 true (by kernel_rfl) (show a.eval (.tmp 45) = (.bool (((true && true) && true) && true)) from hk.slot 45 (by kernel_rfl)), q_load (.tmp 48) rfl (show a.eval (.tmp 48) = (.pointer (some ⟨n, 2, none⟩)) from hk.slot 48 (by kernel_rfl)) (v := (.slice V.ca V.cs.length V.cc)) (fun q => load_at (fun w => by kernel_rfl) (keep q.bel c2)) rfl⟩
            | false =>
              exact .inr ⟨unwanted_by 45 true (by kernel_rfl) (show a.eval (.tmp 45) = (.bool (((true && true) && true) && false)) from hk.slot 45 (by kernel_rfl)), rfl⟩
          | false =>
            exact .inr ⟨unwanted_by 45 true (by kernel_rfl) (show a.eval (.tmp 45) = (.bool (((true && true) && false) && s1)) from hk.slot 45 (by kernel_rfl)), rfl⟩
        | false =>
          exact .inr ⟨unwanted_by 45 true (by kernel_rfl) (show a.eval (.tmp 45) = (.bool (((true && false) && e) && s1)) from hk.slot 45 (by kernel_rfl)), rfl⟩
      | false =>
        exact .inr ⟨unwanted_by 45 true (by kernel_rfl) (show a.eval (.tmp 45) = (.bool (((false && g2) && e) && s1)) from hk.slot 45 (by kernel_rfl)), rfl⟩
    · -- slot 50
      cases g1 with
      | true =>
        cases g2 with
        | true =>
          cases e with
          | true =>
            cases s1 with
            | true =>
              exact .inl ⟨wanted_by 45 true (by kernel_rfl) (show a.eval (.tmp 45) = (.bool (((true && true) && true) && true)) from hk.slot 45 (by kernel_rfl)), q_move (.tmp 7) rfl (show a.eval (.tmp 7) = (.int .i64 i1) from hk.old 7 (by kernel_rfl) (by kernel_rfl))⟩
            | false =>
              exact .inr ⟨unwanted_by 45 true (by kernel_rfl) (show a.eval (.tmp 45) = (.bool (((true && true) && true) && false)) from hk.slot 45 (by kernel_rfl)), rfl⟩
          | false =>
            exact .inr ⟨unwanted_by 45 true (by kernel_rfl) (show a.eval (.tmp 45) = (.bool (((true && true) && false) && s1)) from hk.slot 45 (by kernel_rfl)), rfl⟩
        | false =>
          exact .inr ⟨unwanted_by 45 true (by kernel_rfl) (show a.eval (.tmp 45) = (.bool (((true && false) && e) && s1)) from hk.slot 45 (by kernel_rfl)), rfl⟩
      | false =>
        exact .inr ⟨unwanted_by 45 true (by kernel_rfl) (show a.eval (.tmp 45) = (.bool (((false && g2) && e) && s1)) from hk.slot 45 (by kernel_rfl)), rfl⟩
    · -- slot 51
      cases g1 with
      | true =>
        cases g2 with
        | true =>
          cases e with
          | true =>
            cases s1 with
            | true =>
              exact .inl ⟨wanted_by 45 true (by kernel_rfl) (show a.eval (.tmp 45) = (.bool (((true && true) && true) && true)) from hk.slot 45 (by kernel_rfl)), q_index (.tmp 49) (.tmp 50) rfl (show a.eval (.tmp 49) = (.slice V.ca V.cs.length V.cc) from hk.slot 49 (by kernel_rfl)) (show a.eval (.tmp 50) = (.int .i64 i1) from hk.slot 50 (by kernel_rfl)) (v := (.pointer (some (ad V.ca (j1 * 5))))) (fun w => (x1 hg1.out) w) rfl⟩
            | false =>
              exact .inr ⟨unwanted_by 45 true (by kernel_rfl) (show a.eval (.tmp 45) = (.bool (((true && true) && true) && false)) from hk.slot 45 (by kernel_rfl)), rfl⟩
          | false =>
            exact .inr ⟨unwanted_by 45 true (by kernel_rfl) (show a.eval (.tmp 45) = (.bool (((true && true) && false) && s1)) from hk.slot 45 (by kernel_rfl)), rfl⟩
        | false =>
          exact .inr ⟨unwanted_by 45 true (by kernel_rfl) (show a.eval (.tmp 45) = (.bool (((true && false) && e) && s1)) from hk.slot 45 (by kernel_rfl)), rfl⟩
      | false =>
        exact .inr ⟨unwanted_by 45 true (by kernel_rfl) (show a.eval (.tmp 45) = (.bool (((false && g2) && e) && s1)) from hk.slot 45 (by kernel_rfl)), rfl⟩
    · -- slot 52
      cases g1 with
      | true =>
        cases g2 with
        | true =>
          cases e with
          | true =>
            cases s1 with
            | true =>
              exact .inl ⟨wanted_by 45 true (by kernel_rfl) (show a.eval (.tmp 45) = (.bool (((true && true) && true) && true)) from hk.slot 45 (by kernel_rfl)), q_field (.tmp 51) rfl (show a.eval (.tmp 51) = (.pointer (some (ad V.ca (j1 * 5)))) from hk.slot 51 (by kernel_rfl)) (v := (.pointer (some ⟨(ad V.ca (j1 * 5)).block, (ad V.ca (j1 * 5)).off + 2, none⟩))) (fun w => by kernel_rfl) rfl⟩
            | false =>
              exact .inr ⟨unwanted_by 45 true (by kernel_rfl) (show a.eval (.tmp 45) = (.bool (((true && true) && true) && false)) from hk.slot 45 (by kernel_rfl)), rfl⟩
          | false =>
            exact .inr ⟨unwanted_by 45 true (by kernel_rfl) (show a.eval (.tmp 45) = (.bool (((true && true) && false) && s1)) from hk.slot 45 (by kernel_rfl)), rfl⟩
        | false =>
          exact .inr ⟨unwanted_by 45 true (by kernel_rfl) (show a.eval (.tmp 45) = (.bool (((true && false) && e) && s1)) from hk.slot 45 (by kernel_rfl)), rfl⟩
      | false =>
        exact .inr ⟨unwanted_by 45 true (by kernel_rfl) (show a.eval (.tmp 45) = (.bool (((false && g2) && e) && s1)) from hk.slot 45 (by kernel_rfl)), rfl⟩
    · -- slot 53
      cases g1 with
      | true =>
        cases g2 with
        | true =>
          cases e with
          | true =>
            cases s1 with
            | true =>
              exact .inl ⟨wanted_by 45 true (by kernel_rfl) (show a.eval (.tmp 45) = (.bool (((true && true) && true) && true)) from hk.slot 45 (by kernel_rfl)), q_load (.tmp 52) rfl (show a.eval (.tmp 52) = (.pointer (some ⟨(ad V.ca (j1 * 5)).block, (ad V.ca (j1 * 5)).off + 2, none⟩)) from hk.slot 52 (by kernel_rfl)) (v := (.int .i64 x.dst.1)) (fun q => load_at (fun w => by kernel_rfl) (u2 hg1.out q)) rfl⟩
            | false =>
              exact .inr ⟨unwanted_by 45 true (by kernel_rfl) (show a.eval (.tmp 45) = (.bool (((true && true) && true) && false)) from hk.slot 45 (by kernel_rfl)), rfl⟩
          | false =>
            exact .inr ⟨unwanted_by 45 true (by kernel_rfl) (show a.eval (.tmp 45) = (.bool (((true && true) && false) && s1)) from hk.slot 45 (by kernel_rfl)), rfl⟩
        | false =>
          exact .inr ⟨unwanted_by 45 true (by kernel_rfl) (show a.eval (.tmp 45) = (.bool (((true && false) && e) && s1)) from hk.slot 45 (by kernel_rfl)), rfl⟩
      | false =>
        exact .inr ⟨unwanted_by 45 true (by kernel_rfl) (show a.eval (.tmp 45) = (.bool (((false && g2) && e) && s1)) from hk.slot 45 (by kernel_rfl)), rfl⟩
    · -- slot 54
      cases g1 with
      | true =>
        cases g2 with
        | true =>
          cases e with
          | true =>
            cases s1 with
            | true =>
              exact .inl ⟨wanted_by 45 true (by kernel_rfl) (show a.eval (.tmp 45) = (.bool (((true && true) && true) && true)) from hk.slot 45 (by kernel_rfl)), q_call rfl rfl #[(.agg #[.slice V.wa V.ws.length V.wc, .slice V.pa V.ps.length V.pc, .slice V.ca V.cs.length V.cc]), (.agg #[.slice W.wa W.ws.length W.wc, .slice W.pa W.ps.length W.pc, .slice W.ca W.cs.length W.cc]), (.int .i64 x.dst.1)] (fun w => by kernel_rfl) (by simp only [List.map_toArray, List.map_cons, List.map_nil, (show a.eval (.tmp 46) = (.agg #[.slice V.wa V.ws.length V.wc, .slice V.pa V.ps.length V.pc, .slice V.ca V.cs.length V.cc]) from hk.slot 46 (by kernel_rfl)), (show a.eval (.tmp 47) = (.agg #[.slice W.wa W.ws.length W.wc, .slice W.pa W.ps.length W.pc, .slice W.ca W.cs.length W.cc]) from hk.slot 47 (by kernel_rfl)), (show a.eval (.tmp 53) = (.int .i64 x.dst.1) from hk.slot 53 (by kernel_rfl))]) (v := (.bool s2)) (fun q => HS2.out q) rfl⟩
            | false =>
              exact .inr ⟨unwanted_by 45 true (by kernel_rfl) (show a.eval (.tmp 45) = (.bool (((true && true) && true) && false)) from hk.slot 45 (by kernel_rfl)), rfl⟩
          | false =>
            exact .inr ⟨unwanted_by 45 true (by kernel_rfl) (show a.eval (.tmp 45) = (.bool (((true && true) && false) && s1)) from hk.slot 45 (by kernel_rfl)), rfl⟩
        | false =>
          exact .inr ⟨unwanted_by 45 true (by kernel_rfl) (show a.eval (.tmp 45) = (.bool (((true && false) && e) && s1)) from hk.slot 45 (by kernel_rfl)), rfl⟩
      | false =>
        exact .inr ⟨unwanted_by 45 true (by kernel_rfl) (show a.eval (.tmp 45) = (.bool (((false && g2) && e) && s1)) from hk.slot 45 (by kernel_rfl)), rfl⟩
    · -- slot 55
      cases g1 with
      | true =>
        cases g2 with
        | true =>
          cases e with
          | true =>
            cases s1 with
            | true =>
              exact .inl ⟨wanted_free rfl, q_pick rfl true (show a.eval (.tmp 45) = (.bool (((true && true) && true) && true)) from hk.slot 45 (by kernel_rfl)) (show a.eval (.tmp 54) = (.bool s2) from hk.slot 54 (by kernel_rfl))⟩
            | false =>
              exact .inl ⟨wanted_free rfl, q_pick rfl false (show a.eval (.tmp 45) = (.bool (((true && true) && true) && false)) from hk.slot 45 (by kernel_rfl)) rfl⟩
          | false =>
            exact .inl ⟨wanted_free rfl, q_pick rfl false (show a.eval (.tmp 45) = (.bool (((true && true) && false) && s1)) from hk.slot 45 (by kernel_rfl)) rfl⟩
        | false =>
          exact .inl ⟨wanted_free rfl, q_pick rfl false (show a.eval (.tmp 45) = (.bool (((true && false) && e) && s1)) from hk.slot 45 (by kernel_rfl)) rfl⟩
      | false =>
        exact .inl ⟨wanted_free rfl, q_pick rfl false (show a.eval (.tmp 45) = (.bool (((false && g2) && e) && s1)) from hk.slot 45 (by kernel_rfl)) rfl⟩
    · -- slot 6
      exact .inl ⟨wanted_free rfl, q_assign (.tmp 55) rfl (show a.eval (.tmp 55) = (.bool ((((g1 && g2) && e) && s1) && s2)) from hk.slot 55 (by kernel_rfl))⟩
  intro a ⟨w2, hb2⟩ hsame hall
  have he := act_same hsame [15, 16, 17, 18, 19, 20, 21, 22, 23, 24, 25, 26, 27, 28, 29, 30, 31, 32, 33, 34, 35, 36, 37, 38, 39, 40, 41, 42, 43, 44, 45, 46, 47, 48, 49, 50, 51, 52, 53, 54, 55, 6] (by kernel_rfl)
  simp only [List.foldl_cons, List.foldl_nil] at he
  rw [show a.eval (.tmp 6) = (.bool R) from (hall 6 (by kernel_rfl)).trans (congrArg Value.bool hR.out.symm)] at he
  generalize a.eval (.tmp 15) = x15 at he
  generalize a.eval (.tmp 16) = x16 at he
  generalize a.eval (.tmp 17) = x17 at he
  generalize a.eval (.tmp 18) = x18 at he
  generalize a.eval (.tmp 19) = x19 at he
  generalize a.eval (.tmp 20) = x20 at he
  generalize a.eval (.tmp 21) = x21 at he
  generalize a.eval (.tmp 22) = x22 at he
  generalize a.eval (.tmp 23) = x23 at he
  generalize a.eval (.tmp 24) = x24 at he
  generalize a.eval (.tmp 25) = x25 at he
  generalize a.eval (.tmp 26) = x26 at he
  generalize a.eval (.tmp 27) = x27 at he
  generalize a.eval (.tmp 28) = x28 at he
  generalize a.eval (.tmp 29) = x29 at he
  generalize a.eval (.tmp 30) = x30 at he
  generalize a.eval (.tmp 31) = x31 at he
  generalize a.eval (.tmp 32) = x32 at he
  generalize a.eval (.tmp 33) = x33 at he
  generalize a.eval (.tmp 34) = x34 at he
  generalize a.eval (.tmp 35) = x35 at he
  generalize a.eval (.tmp 36) = x36 at he
  generalize a.eval (.tmp 37) = x37 at he
  generalize a.eval (.tmp 38) = x38 at he
  generalize a.eval (.tmp 39) = x39 at he
  generalize a.eval (.tmp 40) = x40 at he
  generalize a.eval (.tmp 41) = x41 at he
  generalize a.eval (.tmp 42) = x42 at he
  generalize a.eval (.tmp 43) = x43 at he
  generalize a.eval (.tmp 44) = x44 at he
  generalize a.eval (.tmp 45) = x45 at he
  generalize a.eval (.tmp 46) = x46 at he
  generalize a.eval (.tmp 47) = x47 at he
  generalize a.eval (.tmp 48) = x48 at he
  generalize a.eval (.tmp 49) = x49 at he
  generalize a.eval (.tmp 50) = x50 at he
  generalize a.eval (.tmp 51) = x51 at he
  generalize a.eval (.tmp 52) = x52 at he
  generalize a.eval (.tmp 53) = x53 at he
  generalize a.eval (.tmp 54) = x54 at he
  generalize a.eval (.tmp 55) = x55 at he
  simp only [put_lit] at he
  dsimp only [List.set_cons_zero, List.set_cons_succ] at he
  subst he
  clear hsame hall
  have HB := Lib.hid (HB0.out.trans ((hb1.trans (hb2.mono hb1.size)).mono HB0.out.size))
  clear c0 c1 c2 d0 d1 d2 x1 x2 l1 l2 u1 u2 r1 r2
  go_wp2_with fail
  go_ret
  exact ⟨ret_bool HR.out, HB.out⟩

set_option maxRecDepth 100000 in
set_option maxHeartbeats 4000000 in
theorem refchans_calls (w : World) (V W : CfgV) (h : V.At w) (k : W.At w) (hs : SmallV V) (ks : SmallV W) : Calls Try.prog 43 #[.agg #[.slice V.wa V.ws.length V.wc, .slice V.pa V.ps.length V.pc, .slice V.ca V.cs.length V.cc], .agg #[.slice W.wa W.ws.length W.wc, .slice W.pa W.ps.length W.pc, .slice W.ca W.cs.length W.cc]] w fun e w' => ∃ a' c', e = .returned (.slice a' (pickR 8 (rchanK V W)).length c') ∧ VOwn cZ 1 3 w.heap.size w' a' (pickR 8 (rchanK V W)) c' ∧ Below w.heap.size w w' := by
  obtain ⟨w0, hw0⟩ : ∃ w0, w0 = (w.alloc (.cells #[.slice V.wa V.ws.length V.wc, .slice V.pa V.ps.length V.pc, .slice V.ca V.cs.length V.cc] 26)).alloc (.cells #[.slice W.wa W.ws.length W.wc, .slice W.pa W.ps.length W.pc, .slice W.ca W.cs.length W.cc] 26) := ⟨_, rfl⟩
  have B0 : Below w.heap.size w w0 := by rw [hw0]; exact ((Below.refl _ w).alloc (Nat.le_refl _) _).alloc (by simp) _
  have hI := two_box w V W
  rw [← hw0] at hI
  have HI := Lib.hid hI
  have HV := Lib.hid (h.stay B0)
  have HK := Lib.hid (k.stay B0)
  have HSV := Lib.hid (And.intro hs ks)
  have HB0 := Lib.hid B0
  obtain ⟨R, hR⟩ : ∃ R, Hid (R = pickR 8 (rchanK V W)) := ⟨_, rfl⟩
  rw [← hR.out]
  clear h k hs ks B0 hI
  go_enter Try.func43, Try.ntmps43
  go_wp2_with fail
  rw [← hw0]
  clear hw0
  go_loopw [5, 6] (fun s i wr => ∃ (j : Nat) (a' : Option Addr) (L : List Int) (c' : Nat), s = .slice a' L.length c' ∧ i = .int .i64 (j + 1 : Nat) ∧ j ≤ 8 ∧ Hid (L = pickR j (rchanK V W)) ∧ VOwn cZ 1 3 w0.heap.size wr a' L c' ∧ Below w0.heap.size w0 wr) (fun _ i _ => 9 - (intOf i).toNat)
  case atStart => exact ⟨0, none, [], 0, rfl, rfl, Nat.zero_le _, rfl, VOwn.nil_ _ _ _ _ _, Below.refl _ _⟩
  case round =>
    obtain ⟨j, a2, L, c3, rfl, rfl, hj, HL, hO, B⟩ := hrel
    have HBw := Lib.hid B
    have HOw := Lib.hid hO
    by_cases hlt : j < 8
    · obtain ⟨c0, c1, c2⟩ := HI.out.1.keep B
      obtain ⟨d0, d1, d2⟩ := HI.out.2.keep B
      have HL9 : Hid (L.length ≤ 100) := by rw [Hid, HL.out]; have := pickR_len j (rchanK V W); omega
      have HS := Lib.hid (pickR_succ j (rchanK V W))
      obtain ⟨t, ht⟩ : ∃ t, Hid (t = rchanK V W ((j + 1 : Nat) : Int)) := ⟨_, rfl⟩
      have hm := refchan13_calls wr V W (HV.out.stay B) (HK.out.stay B) HSV.out.1 HSV.out.2 ((j + 1 : Nat) : Int)
      rw [← ht.out] at hm HS
      have HM := Lib.hid hm
      clear hm B hO
      go_wp2_with fail
      refine (HM.out).mono ?_
      rintro e w3 ⟨rfl, hb1⟩
      have HB3 := Lib.hid (HBw.out.trans (hb1.mono HBw.out.size))
      have HO3 := Lib.hid (HOw.out.stay hb1)
      clear hb1 c0 c1 c2 d0 d1 d2
      cases t with
      | true =>
        have HN : Hid (L ++ [((j + 1 : Nat) : Int)] = pickR (j + 1) (rchanK V W)) := by rw [Hid, HS.out, ← HL.out]; rfl
        go_wp2_with ((with_reducible refine wpList_vapp1 (o := ⟨some 18, .call _, _, _, _, _⟩) etI cZ_len cZ_one (y := ((j + 1 : Nat) : Int)) (.tmp 15) (.tmp 17) (by with_unfolding_all rfl) (by with_unfolding_all rfl) HO3.out (by with_unfolding_all rfl) (by have := HL9.out; omega) HB3.out.size (by with_unfolding_all rfl) (by with_unfolding_all rfl) ?_); intro a4 k4 w6 hO4 hg4 hn4; have HO4 := Lib.hid (And.intro hO4 (HB3.out.trans (HO3.out.grown hg4 HB3.out.size))); clear hO4 hg4 hn4)
        go_roundw
        case rel => exact ⟨j + 1, a4, L ++ [((j + 1 : Nat) : Int)], k4, by simp, by go_num, by omega, HN.out, HO4.out.1, HO4.out.2⟩
        case measure => simp [intOf]; omega
      | false =>
        have HN : Hid (L = pickR (j + 1) (rchanK V W)) := by rw [Hid, HS.out, ← HL.out]; simp
        go_wp2_with fail
        go_roundw
        case rel => exact ⟨j + 1, a2, L, c3, rfl, by go_num, by omega, HN.out, HO3.out, HB3.out⟩
        case measure => simp [intOf]; omega
    · have hk2 : j = 8 := by omega
      have HRT : Hid (R = L) := by rw [Hid, hR.out, HL.out, hk2]
      subst hk2
      clear B hO
      go_wp2_with fail
      go_ret
      exact ⟨a2, c3, by rw [HRT.out]; rfl, by rw [HRT.out]; exact HOw.out.low HB0.out.size, HB0.out.trans (HBw.out.mono HB0.out.size)⟩
end Go.Proofs.Ytpnbaapjjchlbaa
