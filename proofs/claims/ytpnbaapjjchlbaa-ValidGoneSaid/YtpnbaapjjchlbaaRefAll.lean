/- Chapter 12, the reference's All, whole: walked. -/
import Derived.Test.YtpnbaapjjchlbaaRefAll2
namespace Go.Proofs.Ytpnbaapjjchlbaa
open Go Go.RowKit Go.Cit

def ra6 (V : CfgV) (B k : Nat) (x : Int) (b g1 g2 : Bool) : Nat → Value
  | 24 => (.bool b)
  | 25 => (.bool b)
  | 26 => (bif (!b) then (.pointer (some ⟨B, 0, none⟩)) else undef)
  | 27 => (bif (!b) then (.slice V.wa V.ws.length V.wc) else undef)
  | 28 => (bif (!b) then (.int .i64 (k : Int)) else undef)
  | 29 => (bif (!b) then (.pointer (some (ad V.wa (k * 2)))) else undef)
  | 30 => (bif (!b) then (.pointer (some ⟨(ad V.wa (k * 2)).block, (ad V.wa (k * 2)).off + 1, none⟩)) else undef)
  | 31 => (bif (!b) then (.int .i64 x) else undef)
  | 32 => (bif (!b) then (.bool g1) else undef)
  | 33 => (bif (!b) then (.bool g1) else undef)
  | 34 => (bif ((!b) && g1) then (.agg #[.slice V.wa V.ws.length V.wc, .slice V.pa V.ps.length V.pc, .slice V.ca V.cs.length V.cc]) else undef)
  | 35 => (bif ((!b) && g1) then (.pointer (some ⟨B, 0, none⟩)) else undef)
  | 36 => (bif ((!b) && g1) then (.slice V.wa V.ws.length V.wc) else undef)
  | 37 => (bif ((!b) && g1) then (.int .i64 (k : Int)) else undef)
  | 38 => (bif ((!b) && g1) then (.pointer (some (ad V.wa (k * 2)))) else undef)
  | 39 => (bif ((!b) && g1) then (.pointer (some ⟨(ad V.wa (k * 2)).block, (ad V.wa (k * 2)).off + 1, none⟩)) else undef)
  | 40 => (bif ((!b) && g1) then (.int .i64 x) else undef)
  | 41 => (bif ((!b) && g1) then (.bool g2) else undef)
  | 42 => (bif ((!b) && g1) then (.bool (!g2)) else undef)
  | 43 => (bif (!b) then (.bool (g1 && (!g2))) else undef)
  | 44 => (.bool (b || (g1 && (!g2))))
  | 4 => (.bool (b || (g1 && (!g2))))
  | _ => undef
def ra6o (_ : CfgV) (B k : Nat) (_ : Int) (b _ _ : Bool) : Nat → Value
  | 1 => (.pointer (some ⟨B, 0, none⟩))
  | 4 => (.bool b)
  | 5 => (.int .i64 (k : Int))
  | _ => undef
set_option maxRecDepth 100000 in
set_option maxHeartbeats 16000000 in
theorem refall_calls (w : World) (V : CfgV) (h : V.At w) (hs : SmallV V) : Calls Try.prog 21 #[.agg #[.slice V.wa V.ws.length V.wc, .slice V.pa V.ps.length V.pc, .slice V.ca V.cs.length V.cc]] w fun e w' => ∃ a c, e = .returned (.slice a (errs V).length c) ∧ VOwn cZ 1 3 w.heap.size w' a (errs V) c ∧ Below w.heap.size w w' := by
  obtain ⟨R, HR⟩ : ∃ R, Hid (R = errs V) := ⟨_, rfl⟩
  rw [← HR.out]
  obtain ⟨w0, hw0⟩ : ∃ w0, w0 = w.alloc (.cells #[.slice V.wa V.ws.length V.wc, .slice V.pa V.ps.length V.pc, .slice V.ca V.cs.length V.cc] 26) := ⟨_, rfl⟩
  have B0 : Below w.heap.size w w0 := by rw [hw0]; exact (Below.refl _ w).alloc (Nat.le_refl _) _
  have hI : InBox w0 w.heap.size V := by rw [hw0]; exact inBox_new w V _
  have HV := Lib.hid (h.stay B0)
  have HI := Lib.hid hI
  have HB0 := Lib.hid B0
  have hl1 := h.win.len_le
  have hl2 := h.pts.len_le
  have hl3 := h.chs.len_le
  have HC := Lib.hid (refsmay_calls w0 V.wa V.ws V.wc (h.stay B0).win)
  obtain ⟨m, hm⟩ : ∃ m, Hid (m = mayW V.ws) := ⟨_, rfl⟩
  rw [← hm.out] at HC
  obtain ⟨c0, c1, c2⟩ := hI
  clear h B0
  go_enter Try.func21, Try.ntmps21
  go_wp2_with fail
  rw [← hw0]
  clear hw0
  refine (HC.out).mono ?_
  rintro e w1 ⟨rfl, hb1⟩
  have HB1 := Lib.hid hb1
  clear hb1 c0 c1 c2
  go_wp2_with fail
  go_loopw [4, 5] (fun b s wr => ∃ (k : Nat) (q : Bool), b = .bool q ∧ s = .int .i64 k ∧ k ≤ V.ws.length ∧ Hid (q = (!m || (V.ws.take k).any (winBad V))) ∧ Below w0.heap.size w0 wr) (fun _ s _ => V.ws.length - (intOf s).toNat)
  case atStart => exact ⟨0, !m, rfl, rfl, Nat.zero_le _, by rw [Hid]; simp, HB1.out⟩
  case round =>
    obtain ⟨k, b, rfl, rfl, hk, Hb, B⟩ := hrel
    have HBw := Lib.hid (B)
    obtain ⟨c0, c1, c2⟩ := HI.out.keep HBw.out
    by_cases hlt : k < V.ws.length
    · skip
      have i0 := HV.out.win.index etW k hlt
      have u1 : ∀ q : After wr, _ := fun q => (HV.out.win.stay cWin_len (HBw.out.trans (q.bel.mono HBw.out.size))).field k hlt 1 (by decide) rfl
      have HS := Lib.hid (any_take (winBad V) V.ws k hlt)
      obtain ⟨x, hx⟩ : ∃ x : Int, Hid (x = V.ws[k].part.1) := ⟨V.ws[k].part.1, rfl⟩
      simp only [← hx.out] at u1
      obtain ⟨g1, hg1⟩ : ∃ g, Hid (((x : Int) != 0) = g) := ⟨_, rfl⟩
      obtain ⟨g2, hg2⟩ : ∃ g, Hid (hasP V.ps x = g) := ⟨_, rfl⟩
      have HC2 : Hid (∀ q : After wr, Calls Try.prog 60 #[.agg #[.slice V.wa V.ws.length V.wc, .slice V.pa V.ps.length V.pc, .slice V.ca V.cs.length V.cc], .int .i64 x] q.to fun e w' => e = .returned (.bool g2) ∧ Below q.to.heap.size q.to w') := fun q => by
        have := refhas_calls q.to V (HV.out.stay (HBw.out.trans (q.bel.mono HBw.out.size))) x
        rwa [hg2.out] at this
      obtain ⟨R, hR⟩ : ∃ R, Hid (R = (b || (g1 && (!g2)))) := ⟨_, rfl⟩
      have HN : Hid (R = (!m || (V.ws.take (k + 1)).any (winBad V))) := by
        have e : winBad V V.ws[k] = (g1 && (!g2)) := by
          unfold winBad
          rw [← hx.out, hg2.out, ← hg1.out]
          congr 1
          rw [Bool.eq_iff_iff]
          simp
        rw [Hid, HS.out, hR.out, Hb.out, e]
        cases m <;> cases (V.ws.take k).any (winBad V) <;> cases g1 <;> cases g2 <;> rfl
      go_wp2_with fail
      refine wp_region_vals (ra6 V w.heap.size k x b g1 g2) (ra6o V w.heap.size k x b g1 g2) [1, 4, 5] (by kernel_rfl) (by kernel_rfl) (by kernel_rfl) ⟨rfl, rfl, rfl, trivial⟩ ?_ ?_
      · refine opsAll_cons ?_ (opsAll_cons ?_ (opsAll_cons ?_ (opsAll_cons ?_ (opsAll_cons ?_ (opsAll_cons ?_ (opsAll_cons ?_ (opsAll_cons ?_ (opsAll_cons ?_ (opsAll_cons ?_ (opsAll_cons ?_ (opsAll_cons ?_ (opsAll_cons ?_ (opsAll_cons ?_ (opsAll_cons ?_ (opsAll_cons ?_ (opsAll_cons ?_ (opsAll_cons ?_ (opsAll_cons ?_ (opsAll_cons ?_ (opsAll_cons ?_ (opsAll_cons ?_ opsAll_nil)))))))))))))))))))))
        all_goals intro a hk
        · -- slot 24
          exact .inl ⟨wanted_free rfl, q_move (.tmp 4) rfl (show a.eval (.tmp 4) = (.bool b) from hk.old 4 (by kernel_rfl) (by kernel_rfl))⟩
        · -- slot 25
          exact .inl ⟨wanted_free rfl, q_move (.tmp 24) rfl (show a.eval (.tmp 24) = (.bool b) from hk.slot 24 (by kernel_rfl))⟩
        · -- slot 26
          cases b with
          | true =>
            exact .inr ⟨unwanted_by 25 false (by kernel_rfl) (show a.eval (.tmp 25) = (.bool true) from hk.slot 25 (by kernel_rfl)), rfl⟩
          | false =>
            exact .inl ⟨wanted_by 25 false (by kernel_rfl) (show a.eval (.tmp 25) = (.bool false) from hk.slot 25 (by kernel_rfl)), q_field (.tmp 1) rfl (show a.eval (.tmp 1) = (.pointer (some ⟨w.heap.size, 0, none⟩)) from hk.old 1 (by kernel_rfl) (by kernel_rfl)) (v := (.pointer (some ⟨w.heap.size, 0, none⟩))) (fun w => by kernel_rfl) rfl⟩
        · -- slot 27
          cases b with
          | true =>
            exact .inr ⟨unwanted_by 25 false (by kernel_rfl) (show a.eval (.tmp 25) = (.bool true) from hk.slot 25 (by kernel_rfl)), rfl⟩
          | false =>
            exact .inl ⟨wanted_by 25 false (by kernel_rfl) (show a.eval (.tmp 25) = (.bool false) from hk.slot 25 (by kernel_rfl)), q_load (.tmp 26) rfl (show a.eval (.tmp 26) = (.pointer (some ⟨w.heap.size, 0, none⟩)) from hk.slot 26 (by kernel_rfl)) (v := (.slice V.wa V.ws.length V.wc)) (fun q => load_at (fun w => by kernel_rfl) (keep q.bel c0)) rfl⟩
        · -- slot 28
          cases b with
          | true =>
            exact .inr ⟨unwanted_by 25 false (by kernel_rfl) (show a.eval (.tmp 25) = (.bool true) from hk.slot 25 (by kernel_rfl)), rfl⟩
          | false =>
            exact .inl ⟨wanted_by 25 false (by kernel_rfl) (show a.eval (.tmp 25) = (.bool false) from hk.slot 25 (by kernel_rfl)), q_move (.tmp 5) rfl (show a.eval (.tmp 5) = (.int .i64 (k : Int)) from hk.old 5 (by kernel_rfl) (by kernel_rfl))⟩
        · -- slot 29
          cases b with
          | true =>
            exact .inr ⟨unwanted_by 25 false (by kernel_rfl) (show a.eval (.tmp 25) = (.bool true) from hk.slot 25 (by kernel_rfl)), rfl⟩
          | false =>
            exact .inl ⟨wanted_by 25 false (by kernel_rfl) (show a.eval (.tmp 25) = (.bool false) from hk.slot 25 (by kernel_rfl)), q_index (.tmp 27) (.tmp 28) rfl (show a.eval (.tmp 27) = (.slice V.wa V.ws.length V.wc) from hk.slot 27 (by kernel_rfl)) (show a.eval (.tmp 28) = (.int .i64 (k : Int)) from hk.slot 28 (by kernel_rfl)) (v := (.pointer (some (ad V.wa (k * 2))))) (fun w => i0 w) rfl⟩
        · -- slot 30
          cases b with
          | true =>
            exact .inr ⟨unwanted_by 25 false (by kernel_rfl) (show a.eval (.tmp 25) = (.bool true) from hk.slot 25 (by kernel_rfl)), rfl⟩
          | false =>
            exact .inl ⟨wanted_by 25 false (by kernel_rfl) (show a.eval (.tmp 25) = (.bool false) from hk.slot 25 (by kernel_rfl)), q_field (.tmp 29) rfl (show a.eval (.tmp 29) = (.pointer (some (ad V.wa (k * 2)))) from hk.slot 29 (by kernel_rfl)) (v := (.pointer (some ⟨(ad V.wa (k * 2)).block, (ad V.wa (k * 2)).off + 1, none⟩))) (fun w => by kernel_rfl) rfl⟩
        · -- slot 31
          cases b with
          | true =>
            exact .inr ⟨unwanted_by 25 false (by kernel_rfl) (show a.eval (.tmp 25) = (.bool true) from hk.slot 25 (by kernel_rfl)), rfl⟩
          | false =>
            exact .inl ⟨wanted_by 25 false (by kernel_rfl) (show a.eval (.tmp 25) = (.bool false) from hk.slot 25 (by kernel_rfl)), q_load (.tmp 30) rfl (show a.eval (.tmp 30) = (.pointer (some ⟨(ad V.wa (k * 2)).block, (ad V.wa (k * 2)).off + 1, none⟩)) from hk.slot 30 (by kernel_rfl)) (v := (.int .i64 x)) (fun q => load_at (fun w => by kernel_rfl) (u1 q)) rfl⟩
        · -- slot 32
          cases b with
          | true =>
            exact .inr ⟨unwanted_by 25 false (by kernel_rfl) (show a.eval (.tmp 25) = (.bool true) from hk.slot 25 (by kernel_rfl)), rfl⟩
          | false =>
            exact .inl ⟨wanted_by 25 false (by kernel_rfl) (show a.eval (.tmp 25) = (.bool false) from hk.slot 25 (by kernel_rfl)), q_bin rfl (show a.eval (.tmp 31) = (.int .i64 x) from hk.slot 31 (by kernel_rfl)) rfl (v := .bool (((x : Int) != 0))) (fun w => by kernel_rfl) (congrArg Value.bool (hg1.out))⟩
        · -- slot 33
          cases b with
          | true =>
            exact .inr ⟨unwanted_by 25 false (by kernel_rfl) (show a.eval (.tmp 25) = (.bool true) from hk.slot 25 (by kernel_rfl)), rfl⟩
          | false =>
            exact .inl ⟨wanted_by 25 false (by kernel_rfl) (show a.eval (.tmp 25) = (.bool false) from hk.slot 25 (by kernel_rfl)), q_move (.tmp 32) rfl (show a.eval (.tmp 32) = (.bool g1) from hk.slot 32 (by kernel_rfl))⟩
        · -- slot 34
          cases b with
          | true =>
            exact .inr ⟨unwanted_undef 33 true (by kernel_rfl) (show a.eval (.tmp 33) = undef from hk.slot 33 (by kernel_rfl)), rfl⟩
          | false =>
            cases g1 with
            | true =>
              exact .inl ⟨wanted_by 33 true (by kernel_rfl) (show a.eval (.tmp 33) = (.bool true) from hk.slot 33 (by kernel_rfl)), q_load (.tmp 1) rfl (show a.eval (.tmp 1) = (.pointer (some ⟨w.heap.size, 0, none⟩)) from hk.old 1 (by kernel_rfl) (by kernel_rfl)) (v := (.agg #[.slice V.wa V.ws.length V.wc, .slice V.pa V.ps.length V.pc, .slice V.ca V.cs.length V.cc])) (fun q => load3 (fun w => by kernel_rfl) (fun w => by kernel_rfl) (keep q.bel c0) (keep q.bel c1) (keep q.bel c2)) rfl⟩
            | false =>
              exact .inr ⟨unwanted_by 33 true (by kernel_rfl) (show a.eval (.tmp 33) = (.bool false) from hk.slot 33 (by kernel_rfl)), rfl⟩
        · -- slot 35
          cases b with
          | true =>
            exact .inr ⟨unwanted_undef 33 true (by kernel_rfl) (show a.eval (.tmp 33) = undef from hk.slot 33 (by kernel_rfl)), rfl⟩
          | false =>
            cases g1 with
            | true =>
              exact .inl ⟨wanted_by 33 true (by kernel_rfl) (show a.eval (.tmp 33) = (.bool true) from hk.slot 33 (by kernel_rfl)), q_field (.tmp 1) rfl (show a.eval (.tmp 1) = (.pointer (some ⟨w.heap.size, 0, none⟩)) from hk.old 1 (by kernel_rfl) (by kernel_rfl)) (v := (.pointer (some ⟨w.heap.size, 0, none⟩))) (fun w => by kernel_rfl) rfl⟩
            | false =>
              exact .inr ⟨unwanted_by 33 true (by kernel_rfl) (show a.eval (.tmp 33) = (.bool false) from hk.slot 33 (by kernel_rfl)), rfl⟩
        · -- slot 36
          cases b with
          | true =>
            exact .inr ⟨unwanted_undef 33 true (by kernel_rfl) (show a.eval (.tmp 33) = undef from hk.slot 33 (by kernel_rfl)), rfl⟩
          | false =>
            cases g1 with
            | true =>
              exact .inl ⟨wanted_by 33 true (by kernel_rfl) (show a.eval (.tmp 33) = (.bool true) from hk.slot 33 (by kernel_rfl)), q_load (.tmp 35) rfl (show a.eval (.tmp 35) = (.pointer (some ⟨w.heap.size, 0, none⟩)) from hk.slot 35 (by kernel_rfl)) (v := (.slice V.wa V.ws.length V.wc)) (fun q => load_at (fun w => by kernel_rfl) (keep q.bel c0)) rfl⟩
            | false =>
              exact .inr ⟨unwanted_by 33 true (by kernel_rfl) (show a.eval (.tmp 33) = (.bool false) from hk.slot 33 (by kernel_rfl)), rfl⟩
        · -- slot 37
          cases b with
          | true =>
            exact .inr ⟨unwanted_undef 33 true (by kernel_rfl) (show a.eval (.tmp 33) = undef from hk.slot 33 (by kernel_rfl)), rfl⟩
          | false =>
            cases g1 with
            | true =>
              exact .inl ⟨wanted_by 33 true (by kernel_rfl) (show a.eval (.tmp 33) = (.bool true) from hk.slot 33 (by kernel_rfl)), q_move (.tmp 5) rfl (show a.eval (.tmp 5) = (.int .i64 (k : Int)) from hk.old 5 (by kernel_rfl) (by kernel_rfl))⟩
            | false =>
              exact .inr ⟨unwanted_by 33 true (by kernel_rfl) (show a.eval (.tmp 33) = (.bool false) from hk.slot 33 (by kernel_rfl)), rfl⟩
        · -- slot 38
          cases b with
          | true =>
            exact .inr ⟨unwanted_undef 33 true (by kernel_rfl) (show a.eval (.tmp 33) = undef from hk.slot 33 (by kernel_rfl)), rfl⟩
          | false =>
            cases g1 with
            | true =>
              exact .inl ⟨wanted_by 33 true (by kernel_rfl) (show a.eval (.tmp 33) = (.bool true) from hk.slot 33 (by kernel_rfl)), q_index (.tmp 36) (.tmp 37) rfl (show a.eval (.tmp 36) = (.slice V.wa V.ws.length V.wc) from hk.slot 36 (by kernel_rfl)) (show a.eval (.tmp 37) = (.int .i64 (k : Int)) from hk.slot 37 (by kernel_rfl)) (v := (.pointer (some (ad V.wa (k * 2))))) (fun w => i0 w) rfl⟩
            | false =>
              exact .inr ⟨unwanted_by 33 true (by kernel_rfl) (show a.eval (.tmp 33) = (.bool false) from hk.slot 33 (by kernel_rfl)), rfl⟩
        · -- slot 39
          cases b with
          | true =>
            exact .inr ⟨unwanted_undef 33 true (by kernel_rfl) (show a.eval (.tmp 33) = undef from hk.slot 33 (by kernel_rfl)), rfl⟩
          | false =>
            cases g1 with
            | true =>
              exact .inl ⟨wanted_by 33 true (by kernel_rfl) (show a.eval (.tmp 33) = (.bool true) from hk.slot 33 (by kernel_rfl)), q_field (.tmp 38) rfl (show a.eval (.tmp 38) = (.pointer (some (ad V.wa (k * 2)))) from hk.slot 38 (by kernel_rfl)) (v := (.pointer (some ⟨(ad V.wa (k * 2)).block, (ad V.wa (k * 2)).off + 1, none⟩))) (fun w => by kernel_rfl) rfl⟩
            | false =>
              exact .inr ⟨unwanted_by 33 true (by kernel_rfl) (show a.eval (.tmp 33) = (.bool false) from hk.slot 33 (by kernel_rfl)), rfl⟩
        · -- slot 40
          cases b with
          | true =>
            exact .inr ⟨unwanted_undef 33 true (by kernel_rfl) (show a.eval (.tmp 33) = undef from hk.slot 33 (by kernel_rfl)), rfl⟩
          | false =>
            cases g1 with
            | true =>
              exact .inl ⟨wanted_by 33 true (by kernel_rfl) (show a.eval (.tmp 33) = (.bool true) from hk.slot 33 (by kernel_rfl)), q_load (.tmp 39) rfl (show a.eval (.tmp 39) = (.pointer (some ⟨(ad V.wa (k * 2)).block, (ad V.wa (k * 2)).off + 1, none⟩)) from hk.slot 39 (by kernel_rfl)) (v := (.int .i64 x)) (fun q => load_at (fun w => by kernel_rfl) (u1 q)) rfl⟩
            | false =>
              exact .inr ⟨unwanted_by 33 true (by kernel_rfl) (show a.eval (.tmp 33) = (.bool false) from hk.slot 33 (by kernel_rfl)), rfl⟩
        · -- slot 41
          cases b with
          | true =>
            exact .inr ⟨unwanted_undef 33 true (by kernel_rfl) (show a.eval (.tmp 33) = undef from hk.slot 33 (by kernel_rfl)), rfl⟩
          | false =>
            cases g1 with
            | true =>
              exact .inl ⟨wanted_by 33 true (by kernel_rfl) (show a.eval (.tmp 33) = (.bool true) from hk.slot 33 (by kernel_rfl)), q_call rfl rfl #[(.agg #[.slice V.wa V.ws.length V.wc, .slice V.pa V.ps.length V.pc, .slice V.ca V.cs.length V.cc]), (.int .i64 x)] (fun w => by kernel_rfl) (by simp only [List.map_toArray, List.map_cons, List.map_nil, (show a.eval (.tmp 34) = (.agg #[.slice V.wa V.ws.length V.wc, .slice V.pa V.ps.length V.pc, .slice V.ca V.cs.length V.cc]) from hk.slot 34 (by kernel_rfl)), (show a.eval (.tmp 40) = (.int .i64 x) from hk.slot 40 (by kernel_rfl))]) (v := (.bool g2)) (fun q => HC2.out q) rfl⟩
            | false =>
              exact .inr ⟨unwanted_by 33 true (by kernel_rfl) (show a.eval (.tmp 33) = (.bool false) from hk.slot 33 (by kernel_rfl)), rfl⟩
        · -- slot 42
          cases b with
          | true =>
            exact .inr ⟨unwanted_undef 33 true (by kernel_rfl) (show a.eval (.tmp 33) = undef from hk.slot 33 (by kernel_rfl)), rfl⟩
          | false =>
            cases g1 with
            | true =>
              exact .inl ⟨wanted_by 33 true (by kernel_rfl) (show a.eval (.tmp 33) = (.bool true) from hk.slot 33 (by kernel_rfl)), q_not rfl _ (show a.eval (.tmp 41) = (.bool g2) from hk.slot 41 (by kernel_rfl)) rfl⟩
            | false =>
              exact .inr ⟨unwanted_by 33 true (by kernel_rfl) (show a.eval (.tmp 33) = (.bool false) from hk.slot 33 (by kernel_rfl)), rfl⟩
        · -- slot 43
          cases b with
          | true =>
            exact .inr ⟨unwanted_by 25 false (by kernel_rfl) (show a.eval (.tmp 25) = (.bool true) from hk.slot 25 (by kernel_rfl)), rfl⟩
          | false =>
            cases g1 with
            | true =>
              exact .inl ⟨wanted_by 25 false (by kernel_rfl) (show a.eval (.tmp 25) = (.bool false) from hk.slot 25 (by kernel_rfl)), q_pick rfl true (show a.eval (.tmp 33) = (.bool true) from hk.slot 33 (by kernel_rfl)) (show a.eval (.tmp 42) = (.bool (!g2)) from hk.slot 42 (by kernel_rfl))⟩
            | false =>
              exact .inl ⟨wanted_by 25 false (by kernel_rfl) (show a.eval (.tmp 25) = (.bool false) from hk.slot 25 (by kernel_rfl)), q_pick rfl false (show a.eval (.tmp 33) = (.bool false) from hk.slot 33 (by kernel_rfl)) rfl⟩
        · -- slot 44
          cases b with
          | true =>
            exact .inl ⟨wanted_free rfl, q_pick rfl true (show a.eval (.tmp 25) = (.bool true) from hk.slot 25 (by kernel_rfl)) rfl⟩
          | false =>
            exact .inl ⟨wanted_free rfl, q_pick rfl false (show a.eval (.tmp 25) = (.bool false) from hk.slot 25 (by kernel_rfl)) (show a.eval (.tmp 43) = (.bool (g1 && (!g2))) from hk.slot 43 (by kernel_rfl))⟩
        · -- slot 4
          exact .inl ⟨wanted_free rfl, q_assign (.tmp 44) rfl (show a.eval (.tmp 44) = (.bool (b || (g1 && (!g2)))) from hk.slot 44 (by kernel_rfl))⟩
      intro a ⟨w3, hb3⟩ hsame hall
      have he := act_same hsame [24, 25, 26, 27, 28, 29, 30, 31, 32, 33, 34, 35, 36, 37, 38, 39, 40, 41, 42, 43, 44, 4] (by kernel_rfl)
      simp only [List.foldl_cons, List.foldl_nil] at he
      rw [show a.eval (.tmp 4) = (.bool R) from (hall 4 (by kernel_rfl)).trans (congrArg Value.bool hR.out.symm)] at he
      generalize a.eval (.tmp 24) = x24 at he
      generalize a.eval (.tmp 25) = x25 at he
      generalize a.eval (.tmp 26) = x26 at he
      generalize a.eval (.tmp 27) = x27 at he
      generalize a.eval (.tmp 28) = x28 at he
      generalize a.eval (.tmp 29) = x29 at he
      generalize a.eval (.tmp 30) = x30 at he
      generalize a.eval (.tmp 31) = x31 at he
      generalize a.eval (.tmp 32) = x32 at he
      generalize a.eval (.tmp 33) = x33 at he
      generalize a.eval (.tmp 34) = x34 at he
      generalize a.eval (.tmp 35) = x35 at he
      generalize a.eval (.tmp 36) = x36 at he
      generalize a.eval (.tmp 37) = x37 at he
      generalize a.eval (.tmp 38) = x38 at he
      generalize a.eval (.tmp 39) = x39 at he
      generalize a.eval (.tmp 40) = x40 at he
      generalize a.eval (.tmp 41) = x41 at he
      generalize a.eval (.tmp 42) = x42 at he
      generalize a.eval (.tmp 43) = x43 at he
      generalize a.eval (.tmp 44) = x44 at he
      simp only [put_lit] at he
      dsimp only [List.set_cons_zero, List.set_cons_succ] at he
      subst he
      clear hsame hall
      go_wp2_with fail
      go_roundw
      case rel => exact ⟨k + 1, R, rfl, by go_num, by omega, HN.out, HBw.out.trans (hb3.mono HBw.out.size)⟩
      case measure => simp [intOf]; omega
    · have hk2 : k = V.ws.length := by omega
      have Hb : Hid (b = windowsBad V) := by rw [Hid, Hb.out, hk2, List.take_length, hm.out]; rfl
      skip
      have HBB := Lib.hid HBw.out
      clear hk2
      go_upto_if 45 with fail
      go_cut [3] (fun s3 wx => ∃ (a : Option Addr) (L : List Int) (c : Nat), s3 = .slice a L.length c ∧ Hid (L = errsTo V 1) ∧ Hid (L.length ≤ 1) ∧ VOwn cZ 1 3 w0.heap.size wx a L c ∧ Below w0.heap.size w0 wx)
      case first =>
        have HT := Lib.hid (errsTo_succ V 0 (show 0 < 5 by decide))
        cases b with
        | true =>
          have HL2 : Hid ([(90 : Int)] = errsTo V 1) := by rw [Hid, HT.out]; simp [errsTo, bads, ← Hb.out]
          have HOn := Lib.hid (VOwn.nil_ cZ 1 3 w0.heap.size wr)
          go_wp2_with ((with_reducible refine wpList_vapp1 (o := ⟨some 48, .call _, _, _, _, _⟩) etI cZ_len cZ_one (l := []) (y := 90) (.tmp 46) (.tmp 47) (by with_unfolding_all rfl) (by with_unfolding_all rfl) HOn.out (by with_unfolding_all rfl) (by decide) HBB.out.size (by with_unfolding_all rfl) (by with_unfolding_all rfl) ?_); intro a4 c4 w4 hO4 hg4 hn4; have HO4 := Lib.hid hO4; have HB4 := Lib.hid (HBB.out.trans (HOn.out.grown hg4 HBB.out.size)); clear hO4 hg4 hn4)
          go_meet
          exact ⟨a4, [90], c4, rfl, HL2.out, by rw [Hid]; decide, HO4.out, HB4.out⟩
        | false =>
          have HL2 : Hid (([] : List Int) = errsTo V 1) := by rw [Hid, HT.out]; simp [errsTo, bads, ← Hb.out]
          go_wp2_with fail
          go_meet
          exact ⟨none, [], 0, rfl, HL2.out, by rw [Hid]; decide, VOwn.nil_ _ _ _ _ _, HBB.out⟩
      case rest =>
        obtain ⟨a, L, c, rfl, HL, HLL, hO, hB⟩ := hcut
        clear Hb
        go_step
        exact sec2 w w0 wc V R HR HV HI HB0 hl1 hl2 hl3 a L c HL HLL hO hB _ _ _ _ _ _ _ _ _ _ _ _ _ _ _ _ _ _ _ _ _ _ _ _ _ _ _ _ _ _ _ _ _ _ _ _ _ _ _ _ _ _ _ _ _ _ _ _ _ _ _ _ _ _ _ _ _ _ _ _ _ _ _ _ _ _ _ _ _ _ _ _ _ _ _ _ _ _ _ _ _ _ _ _ _ _ _ _ _ _ _ _ _ _ _ _ _ _ _ _ _ _ _ _ _ _ _ _ _ _ _ _ _ _ _ _ _ _ _ _ _ _ _ _ _ _ _ _ _ _ _ _ _ _ _ _ _ _ _ _ _ _ _ _ _ _ _ _ _ _ _ _ _ _ _ _ _ _ _ _ _ _ _ _ _ _ _ _ _ _ _ _ _ _ _ _ _ _ _ _ _ _ _ _ _ _ _ _ _ _ _ _ _ _ _ _ _ _ _ _ _ _ _ _ _ _ _ _ _ _ _ _ _ _ _ _ _ _ _ _ _ _ _ _ _ _ _ _ _ _ _ _ _ _
theorem refAll_is : RefAllIs := fun w V h hs => (refall_calls w V h hs).mono fun _ _ ⟨a, c, he, hO, hb⟩ => ⟨a, c, he, hO.vec cZ_len, hb⟩
end Go.Proofs.Ytpnbaapjjchlbaa
