/- CompatLists: the walk of the law. -/
import Derived.Test.YtpnbaapjjchlbaaAwk13
import Derived.Test.YtpnbaapjjchlbaaGpMore
namespace Go.Proofs.Ytpnbaapjjchlbaa
open Go Go.RowKit Go.Cit

theorem same_eq (w : World) (a b : Option Addr) (L : List Int) (c d : Nat) (h : Vec cZ 1 w a L c) (k : Vec cZ 1 w b L d) : Calls Try.prog 38 #[.slice a L.length c, .slice b L.length d] w fun e w' => e = .returned (.bool true) ∧ Below w.heap.size w w' := by
  have := sameL_calls w a b L L c d h k
  rwa [decide_eq_true rfl] at this
theorem ints_eq {f : Nat} {args : Array Value} {w : World} {L M : List Int} {B : Nat} (h : Calls Try.prog f args w fun e w' => ∃ a' c', e = .returned (.slice a' L.length c') ∧ VOwn cZ 1 3 B w' a' L c' ∧ Below w.heap.size w w') (e : L = M) :
    Calls Try.prog f args w fun e w' => ∃ a' c', e = .returned (.slice a' M.length c') ∧ Vec cZ 1 w' a' M c' ∧ Below w.heap.size w w' := ints_is h e _ rfl
def cl3 (V W : CfgV) : Nat → Value → World → Prop
  | 11 => fun v _ => v = (.agg #[.slice V.wa V.ws.length V.wc, .slice V.pa V.ps.length V.pc, .slice V.ca V.cs.length V.cc])
  | 12 => fun v _ => v = (.agg #[.slice W.wa W.ws.length W.wc, .slice W.pa W.ps.length W.pc, .slice W.ca W.cs.length W.cc])
  | 13 => tE (chansK V W)
  | 14 => fun v _ => v = (.agg #[.slice V.wa V.ws.length V.wc, .slice V.pa V.ps.length V.pc, .slice V.ca V.cs.length V.cc])
  | 15 => fun v _ => v = (.agg #[.slice W.wa W.ws.length W.wc, .slice W.pa W.ps.length W.pc, .slice W.ca W.cs.length W.cc])
  | 16 => tE (chansK V W)
  | 17 => fun v _ => v = (.bool true)
  | 18 => fun v _ => v = (.bool true)
  | 19 => fun v _ => v = (.agg #[.slice V.wa V.ws.length V.wc, .slice V.pa V.ps.length V.pc, .slice V.ca V.cs.length V.cc])
  | 20 => fun v _ => v = (.agg #[.slice W.wa W.ws.length W.wc, .slice W.pa W.ps.length W.pc, .slice W.ca W.cs.length W.cc])
  | 21 => tE (leavK V W)
  | 22 => fun v _ => v = (.agg #[.slice V.wa V.ws.length V.wc, .slice V.pa V.ps.length V.pc, .slice V.ca V.cs.length V.cc])
  | 23 => fun v _ => v = (.agg #[.slice W.wa W.ws.length W.wc, .slice W.pa W.ps.length W.pc, .slice W.ca W.cs.length W.cc])
  | 24 => tE (leavK V W)
  | 25 => fun v _ => v = (.bool true)
  | 26 => fun v _ => v = (.bool true)
  | 27 => fun v _ => v = (.bool true)
  | 28 => fun v _ => v = (.bool true)
  | 29 => fun v _ => v = (.bool true)
  | 4 => fun v _ => v = (.bool true)
  | _ => fun _ _ => True
theorem cl3_stay (V W : CfgV) : ∀ d v w1 w2, Below w1.heap.size w1 w2 → cl3 V W d v w1 → cl3 V W d v w2 := by
  intro d v w1 w2 hb h
  unfold cl3 at h ⊢
  split at h <;> first | exact h | exact tE_stay hb h | trivial
set_option maxRecDepth 100000 in
set_option maxHeartbeats 4000000 in
theorem compatLists_law (w : World) (V W : CfgV) (h : V.At w) (hb : ∀ x ∈ V.ps, x.img.length ≤ 140737488351232) (k : W.At w) (kb : ∀ x ∈ W.ps, x.img.length ≤ 140737488351232) : Calls Try.prog 8 #[.agg #[.slice V.wa V.ws.length V.wc, .slice V.pa V.ps.length V.pc, .slice V.ca V.cs.length V.cc], .agg #[.slice W.wa W.ws.length W.wc, .slice W.pa W.ps.length W.pc, .slice W.ca W.cs.length W.cc]] w fun e w' => e = .returned (.bool true) ∧ Below w.heap.size w w' := by
  obtain ⟨w0, hw0⟩ : ∃ w0, w0 = (w.alloc (.cells #[.slice V.wa V.ws.length V.wc, .slice V.pa V.ps.length V.pc, .slice V.ca V.cs.length V.cc] 26)).alloc (.cells #[.slice W.wa W.ws.length W.wc, .slice W.pa W.ps.length W.pc, .slice W.ca W.cs.length W.cc] 26) := ⟨_, rfl⟩
  have B0 : Below w.heap.size w w0 := by rw [hw0]; exact ((Below.refl _ w).alloc (Nat.le_refl _) _).alloc (by simp) _
  have hI := two_box w V W
  rw [← hw0] at hI
  have HI := Lib.hid hI
  have HV := Lib.hid (h.stay B0)
  have HK := Lib.hid (k.stay B0)
  have HB0 := Lib.hid B0
  have HKB := Lib.hid kb
  obtain ⟨g1, hg1⟩ : ∃ g, Hid (g = greatV V) := ⟨_, rfl⟩
  obtain ⟨g2, hg2⟩ : ∃ g, Hid (g = greatV W) := ⟨_, rfl⟩
  have hc := cgreat_calls w0 V HV.out hb
  rw [← hg1.out] at hc
  have HC := Lib.hid hc
  clear h k B0 hI hb kb hc
  obtain ⟨⟨c0, c1, c2⟩, ⟨d0, d1, d2⟩⟩ := HI.out
  go_enter Try.func8, Try.ntmps8
  go_wp2_with fail
  rw [← hw0]
  clear hw0
  refine (HC.out).mono ?_
  rintro e w1 ⟨rfl, hb1⟩
  have HB1 := Lib.hid hb1
  clear c0 c1 c2 d0 d1 d2 HC hb1
  cases g1 with
  | true =>
    go_wp2_with fail
    go_ret
    exact ⟨rfl, HB0.out.trans (HB1.out.mono HB0.out.size)⟩
  | false =>
    obtain ⟨d0, d1, d2⟩ := HI.out.2.keep HB1.out
    have hc := cgreat_calls w1 W (HK.out.stay HB1.out) HKB.out
    rw [← hg2.out] at hc
    have HC := Lib.hid hc
    clear hc
    go_wp2_with fail
    refine (HC.out).mono ?_
    rintro e w2 ⟨rfl, hb2⟩
    have HB2 := Lib.hid (HB1.out.trans (hb2.mono HB1.out.size))
    clear d0 d1 d2 hb2 HC
    cases g2 with
    | true =>
      go_wp2_with fail
      go_ret
      exact ⟨rfl, HB0.out.trans (HB2.out.mono HB0.out.size)⟩
    | false =>
      have hs := small_of hg1.out.symm
      have ks := small_of hg2.out.symm
      have hV2 := HV.out.stay HB2.out
      have hW2 := HK.out.stay HB2.out
      have HC1 : Hid (∀ q : After w2, Calls Try.prog 42 #[.agg #[.slice V.wa V.ws.length V.wc, .slice V.pa V.ps.length V.pc, .slice V.ca V.cs.length V.cc], .agg #[.slice W.wa W.ws.length W.wc, .slice W.pa W.ps.length W.pc, .slice W.ca W.cs.length W.cc]] q.to fun e w' => ∃ a' c', e = .returned (.slice a' (chansK V W).length c') ∧ Vec cZ 1 w' a' (chansK V W) c' ∧ Below q.to.heap.size q.to w') := fun q => ints_eq (cchans_calls q.to V W (hV2.stay q.bel) (hW2.stay q.bel) hs ks) rfl
      have HC2 : Hid (∀ q : After w2, Calls Try.prog 43 #[.agg #[.slice V.wa V.ws.length V.wc, .slice V.pa V.ps.length V.pc, .slice V.ca V.cs.length V.cc], .agg #[.slice W.wa W.ws.length W.wc, .slice W.pa W.ps.length W.pc, .slice W.ca W.cs.length W.cc]] q.to fun e w' => ∃ a' c', e = .returned (.slice a' (chansK V W).length c') ∧ Vec cZ 1 w' a' (chansK V W) c' ∧ Below q.to.heap.size q.to w') := fun q => ints_eq (refchans_calls q.to V W (hV2.stay q.bel) (hW2.stay q.bel) hs ks) (chans_is V W).symm
      have HC3 : Hid (∀ q : After w2, Calls Try.prog 44 #[.agg #[.slice V.wa V.ws.length V.wc, .slice V.pa V.ps.length V.pc, .slice V.ca V.cs.length V.cc], .agg #[.slice W.wa W.ws.length W.wc, .slice W.pa W.ps.length W.pc, .slice W.ca W.cs.length W.cc]] q.to fun e w' => ∃ a' c', e = .returned (.slice a' (leavK V W).length c') ∧ Vec cZ 1 w' a' (leavK V W) c' ∧ Below q.to.heap.size q.to w') := fun q => ints_eq (cleav_calls q.to V W (hV2.stay q.bel) (hW2.stay q.bel) hs ks) rfl
      have HC4 : Hid (∀ q : After w2, Calls Try.prog 40 #[.agg #[.slice V.wa V.ws.length V.wc, .slice V.pa V.ps.length V.pc, .slice V.ca V.cs.length V.cc], .agg #[.slice W.wa W.ws.length W.wc, .slice W.pa W.ps.length W.pc, .slice W.ca W.cs.length W.cc], .bool true] q.to fun e w' => ∃ a' c', e = .returned (.slice a' (leavK V W).length c') ∧ Vec cZ 1 w' a' (leavK V W) c' ∧ Below q.to.heap.size q.to w') := fun q => ints_eq (refparts_calls q.to V W (hV2.stay q.bel) (hW2.stay q.bel) hs ks true) (leav_is V W).symm
      obtain ⟨c0, c1, c2⟩ := HI.out.1.keep HB2.out
      obtain ⟨d0, d1, d2⟩ := HI.out.2.keep HB2.out
      clear hs ks hV2 hW2
      go_upto_region 3 with fail
      refine wp_region_tyg (cl3 V W) (by kernel_rfl) (by kernel_rfl) (cl3_stay V W) ?_ ?_
      · refine opsAll_cons ?_ (opsAll_cons ?_ (opsAll_cons ?_ (opsAll_cons ?_ (opsAll_cons ?_ (opsAll_cons ?_ (opsAll_cons ?_ (opsAll_cons ?_ (opsAll_cons ?_ (opsAll_cons ?_ (opsAll_cons ?_ (opsAll_cons ?_ (opsAll_cons ?_ (opsAll_cons ?_ (opsAll_cons ?_ (opsAll_cons ?_ (opsAll_cons ?_ (opsAll_cons ?_ (opsAll_cons ?_ (opsAll_cons ?_ opsAll_nil)))))))))))))))))))
        all_goals intro a wx hk
        · exact .inl ⟨wanted_free rfl, gp_load (.tmp 2) rfl (show a.eval (.tmp 2) = (.pointer (some ⟨w.heap.size, 0, none⟩)) from ((hk.old 2 (by kernel_rfl)).trans rfl)) ((fun (q : After _) => load3 (fun w => by kernel_rfl) (fun w => by kernel_rfl) (keep q.bel c0) (keep q.bel c1) (keep q.bel c2)) ⟨wx, hk.below⟩) ⟨Below.refl _ _, rfl⟩⟩
        · exact .inl ⟨wanted_free rfl, gp_load (.tmp 3) rfl (show a.eval (.tmp 3) = (.pointer (some ⟨w.heap.size + 1, 0, none⟩)) from ((hk.old 3 (by kernel_rfl)).trans rfl)) ((fun (q : After _) => load3 (fun w => by kernel_rfl) (fun w => by kernel_rfl) (keep q.bel d0) (keep q.bel d1) (keep q.bel d2)) ⟨wx, hk.below⟩) ⟨Below.refl _ _, rfl⟩⟩
        · exact .inl ⟨wanted_free rfl, gp_call rfl (hk.fn _) #[.agg #[.slice V.wa V.ws.length V.wc, .slice V.pa V.ps.length V.pc, .slice V.ca V.cs.length V.cc], .agg #[.slice W.wa W.ws.length W.wc, .slice W.pa W.ps.length W.pc, .slice W.ca W.cs.length W.cc]] (fun w => by kernel_rfl) (by simp only [List.map_toArray, List.map_cons, List.map_nil, (show a.eval (.tmp 11) = (.agg #[.slice V.wa V.ws.length V.wc, .slice V.pa V.ps.length V.pc, .slice V.ca V.cs.length V.cc]) from hk.slot 11 (by kernel_rfl)), (show a.eval (.tmp 12) = (.agg #[.slice W.wa W.ws.length W.wc, .slice W.pa W.ps.length W.pc, .slice W.ca W.cs.length W.cc]) from hk.slot 12 (by kernel_rfl))]) (((fun (q : After _) => HC1.out q) ⟨wx, hk.below⟩).mono fun e w' ⟨b, c, he, hv, hb⟩ => ⟨_, he, hb, b, c, rfl, hv⟩)⟩
        · exact .inl ⟨wanted_free rfl, gp_load (.tmp 2) rfl (show a.eval (.tmp 2) = (.pointer (some ⟨w.heap.size, 0, none⟩)) from ((hk.old 2 (by kernel_rfl)).trans rfl)) ((fun (q : After _) => load3 (fun w => by kernel_rfl) (fun w => by kernel_rfl) (keep q.bel c0) (keep q.bel c1) (keep q.bel c2)) ⟨wx, hk.below⟩) ⟨Below.refl _ _, rfl⟩⟩
        · exact .inl ⟨wanted_free rfl, gp_load (.tmp 3) rfl (show a.eval (.tmp 3) = (.pointer (some ⟨w.heap.size + 1, 0, none⟩)) from ((hk.old 3 (by kernel_rfl)).trans rfl)) ((fun (q : After _) => load3 (fun w => by kernel_rfl) (fun w => by kernel_rfl) (keep q.bel d0) (keep q.bel d1) (keep q.bel d2)) ⟨wx, hk.below⟩) ⟨Below.refl _ _, rfl⟩⟩
        · exact .inl ⟨wanted_free rfl, gp_call rfl (hk.fn _) #[.agg #[.slice V.wa V.ws.length V.wc, .slice V.pa V.ps.length V.pc, .slice V.ca V.cs.length V.cc], .agg #[.slice W.wa W.ws.length W.wc, .slice W.pa W.ps.length W.pc, .slice W.ca W.cs.length W.cc]] (fun w => by kernel_rfl) (by simp only [List.map_toArray, List.map_cons, List.map_nil, (show a.eval (.tmp 14) = (.agg #[.slice V.wa V.ws.length V.wc, .slice V.pa V.ps.length V.pc, .slice V.ca V.cs.length V.cc]) from hk.slot 14 (by kernel_rfl)), (show a.eval (.tmp 15) = (.agg #[.slice W.wa W.ws.length W.wc, .slice W.pa W.ps.length W.pc, .slice W.ca W.cs.length W.cc]) from hk.slot 15 (by kernel_rfl))]) (((fun (q : After _) => HC2.out q) ⟨wx, hk.below⟩).mono fun e w' ⟨b, c, he, hv, hb⟩ => ⟨_, he, hb, b, c, rfl, hv⟩)⟩
        · obtain ⟨b1, k1, e1, q1⟩ := hk.slot 13 (by kernel_rfl)
          obtain ⟨b2, k2, e2, q2⟩ := hk.slot 16 (by kernel_rfl)
          exact .inl ⟨wanted_free rfl, gp_call rfl (hk.fn _) #[.slice b1 (chansK V W).length k1, .slice b2 (chansK V W).length k2] (fun w => by kernel_rfl) (by simp only [List.map_toArray, List.map_cons, List.map_nil, show a.eval (.tmp 13) = _ from e1, show a.eval (.tmp 16) = _ from e2]) ((same_eq wx b1 b2 _ k1 k2 q1 q2).mono fun e w' ⟨he, hb⟩ => ⟨_, he, hb, rfl⟩)⟩
        · exact .inl ⟨wanted_free rfl, gp_move (.tmp 17) rfl ⟨Below.refl _ _, hk.slot 17 (by kernel_rfl)⟩⟩
        · exact .inl ⟨wanted_by 18 true (by kernel_rfl) (show a.eval (.tmp 18) = .bool true from hk.slot 18 (by kernel_rfl)), gp_load (.tmp 2) rfl (show a.eval (.tmp 2) = (.pointer (some ⟨w.heap.size, 0, none⟩)) from ((hk.old 2 (by kernel_rfl)).trans rfl)) ((fun (q : After _) => load3 (fun w => by kernel_rfl) (fun w => by kernel_rfl) (keep q.bel c0) (keep q.bel c1) (keep q.bel c2)) ⟨wx, hk.below⟩) ⟨Below.refl _ _, rfl⟩⟩
        · exact .inl ⟨wanted_by 18 true (by kernel_rfl) (show a.eval (.tmp 18) = .bool true from hk.slot 18 (by kernel_rfl)), gp_load (.tmp 3) rfl (show a.eval (.tmp 3) = (.pointer (some ⟨w.heap.size + 1, 0, none⟩)) from ((hk.old 3 (by kernel_rfl)).trans rfl)) ((fun (q : After _) => load3 (fun w => by kernel_rfl) (fun w => by kernel_rfl) (keep q.bel d0) (keep q.bel d1) (keep q.bel d2)) ⟨wx, hk.below⟩) ⟨Below.refl _ _, rfl⟩⟩
        · exact .inl ⟨wanted_by 18 true (by kernel_rfl) (show a.eval (.tmp 18) = .bool true from hk.slot 18 (by kernel_rfl)), gp_call rfl (hk.fn _) #[.agg #[.slice V.wa V.ws.length V.wc, .slice V.pa V.ps.length V.pc, .slice V.ca V.cs.length V.cc], .agg #[.slice W.wa W.ws.length W.wc, .slice W.pa W.ps.length W.pc, .slice W.ca W.cs.length W.cc]] (fun w => by kernel_rfl) (by simp only [List.map_toArray, List.map_cons, List.map_nil, (show a.eval (.tmp 19) = (.agg #[.slice V.wa V.ws.length V.wc, .slice V.pa V.ps.length V.pc, .slice V.ca V.cs.length V.cc]) from hk.slot 19 (by kernel_rfl)), (show a.eval (.tmp 20) = (.agg #[.slice W.wa W.ws.length W.wc, .slice W.pa W.ps.length W.pc, .slice W.ca W.cs.length W.cc]) from hk.slot 20 (by kernel_rfl))]) (((fun (q : After _) => HC3.out q) ⟨wx, hk.below⟩).mono fun e w' ⟨b, c, he, hv, hb⟩ => ⟨_, he, hb, b, c, rfl, hv⟩)⟩
        · exact .inl ⟨wanted_by 18 true (by kernel_rfl) (show a.eval (.tmp 18) = .bool true from hk.slot 18 (by kernel_rfl)), gp_load (.tmp 2) rfl (show a.eval (.tmp 2) = (.pointer (some ⟨w.heap.size, 0, none⟩)) from ((hk.old 2 (by kernel_rfl)).trans rfl)) ((fun (q : After _) => load3 (fun w => by kernel_rfl) (fun w => by kernel_rfl) (keep q.bel c0) (keep q.bel c1) (keep q.bel c2)) ⟨wx, hk.below⟩) ⟨Below.refl _ _, rfl⟩⟩
        · exact .inl ⟨wanted_by 18 true (by kernel_rfl) (show a.eval (.tmp 18) = .bool true from hk.slot 18 (by kernel_rfl)), gp_load (.tmp 3) rfl (show a.eval (.tmp 3) = (.pointer (some ⟨w.heap.size + 1, 0, none⟩)) from ((hk.old 3 (by kernel_rfl)).trans rfl)) ((fun (q : After _) => load3 (fun w => by kernel_rfl) (fun w => by kernel_rfl) (keep q.bel d0) (keep q.bel d1) (keep q.bel d2)) ⟨wx, hk.below⟩) ⟨Below.refl _ _, rfl⟩⟩
        · exact .inl ⟨wanted_by 18 true (by kernel_rfl) (show a.eval (.tmp 18) = .bool true from hk.slot 18 (by kernel_rfl)), gp_call rfl (hk.fn _) #[.agg #[.slice V.wa V.ws.length V.wc, .slice V.pa V.ps.length V.pc, .slice V.ca V.cs.length V.cc], .agg #[.slice W.wa W.ws.length W.wc, .slice W.pa W.ps.length W.pc, .slice W.ca W.cs.length W.cc], .bool true] (fun w => by kernel_rfl) (by simp only [List.map_toArray, List.map_cons, List.map_nil, show ∀ v, a.eval (.const v) = v from hk.lit, (show a.eval (.tmp 22) = (.agg #[.slice V.wa V.ws.length V.wc, .slice V.pa V.ps.length V.pc, .slice V.ca V.cs.length V.cc]) from hk.slot 22 (by kernel_rfl)), (show a.eval (.tmp 23) = (.agg #[.slice W.wa W.ws.length W.wc, .slice W.pa W.ps.length W.pc, .slice W.ca W.cs.length W.cc]) from hk.slot 23 (by kernel_rfl))]) (((fun (q : After _) => HC4.out q) ⟨wx, hk.below⟩).mono fun e w' ⟨b, c, he, hv, hb⟩ => ⟨_, he, hb, b, c, rfl, hv⟩)⟩
        · obtain ⟨b1, k1, e1, q1⟩ := hk.slot 21 (by kernel_rfl)
          obtain ⟨b2, k2, e2, q2⟩ := hk.slot 24 (by kernel_rfl)
          exact .inl ⟨wanted_by 18 true (by kernel_rfl) (show a.eval (.tmp 18) = .bool true from hk.slot 18 (by kernel_rfl)), gp_call rfl (hk.fn _) #[.slice b1 (leavK V W).length k1, .slice b2 (leavK V W).length k2] (fun w => by kernel_rfl) (by simp only [List.map_toArray, List.map_cons, List.map_nil, show a.eval (.tmp 21) = _ from e1, show a.eval (.tmp 24) = _ from e2]) ((same_eq wx b1 b2 _ k1 k2 q1 q2).mono fun e w' ⟨he, hb⟩ => ⟨_, he, hb, rfl⟩)⟩
        · exact .inl ⟨wanted_free rfl, gp_pick rfl true (show a.eval (.tmp 18) = (.bool true) from hk.slot 18 (by kernel_rfl)) ⟨Below.refl _ _, (show a.eval (.tmp 25) = (.bool true) from hk.slot 25 (by kernel_rfl))⟩⟩
        · exact .inl ⟨wanted_free rfl, gp_move (.tmp 26) rfl ⟨Below.refl _ _, hk.slot 26 (by kernel_rfl)⟩⟩
        · exact .inl ⟨wanted_by 27 true (by kernel_rfl) (show a.eval (.tmp 27) = .bool true from hk.slot 27 (by kernel_rfl)), gp_call rfl (hk.fn _) #[] (fun w => by kernel_rfl) (by rw [List.map_toArray]; rfl) (((fun (q : After _) => awake13_calls q.to) ⟨wx, hk.below⟩).mono fun e w' ⟨he, hb⟩ => ⟨_, he, hb, rfl⟩)⟩
        · exact .inl ⟨wanted_free rfl, gp_pick rfl true (show a.eval (.tmp 27) = (.bool true) from hk.slot 27 (by kernel_rfl)) ⟨Below.refl _ _, (show a.eval (.tmp 28) = (.bool true) from hk.slot 28 (by kernel_rfl))⟩⟩
        · exact .inl ⟨wanted_free rfl, gp_assign (.tmp 29) rfl ⟨Below.refl _ _, hk.slot 29 (by kernel_rfl)⟩⟩
      intro a wz hbz hsame hall
      have he := act_same hsame [11, 12, 13, 14, 15, 16, 17, 18, 19, 20, 21, 22, 23, 24, 25, 26, 27, 28, 29, 4] (by kernel_rfl)
      simp only [List.foldl_cons, List.foldl_nil] at he
      rw [show a.eval (.tmp 4) = (.bool true) from hall 4 (by kernel_rfl)] at he
      generalize a.eval (.tmp 11) = y11 at he
      generalize a.eval (.tmp 12) = y12 at he
      generalize a.eval (.tmp 13) = y13 at he
      generalize a.eval (.tmp 14) = y14 at he
      generalize a.eval (.tmp 15) = y15 at he
      generalize a.eval (.tmp 16) = y16 at he
      generalize a.eval (.tmp 17) = y17 at he
      generalize a.eval (.tmp 18) = y18 at he
      generalize a.eval (.tmp 19) = y19 at he
      generalize a.eval (.tmp 20) = y20 at he
      generalize a.eval (.tmp 21) = y21 at he
      generalize a.eval (.tmp 22) = y22 at he
      generalize a.eval (.tmp 23) = y23 at he
      generalize a.eval (.tmp 24) = y24 at he
      generalize a.eval (.tmp 25) = y25 at he
      generalize a.eval (.tmp 26) = y26 at he
      generalize a.eval (.tmp 27) = y27 at he
      generalize a.eval (.tmp 28) = y28 at he
      generalize a.eval (.tmp 29) = y29 at he
      simp only [put_lit] at he
      dsimp only [List.set_cons_zero, List.set_cons_succ] at he
      subst he
      clear hsame hall
      have HZ := Lib.hid (HB2.out.trans (hbz.mono HB2.out.size))
      clear hbz c0 c1 c2 d0 d1 d2
      go_wp2_with fail
      go_ret
      exact ⟨rfl, HB0.out.trans (HZ.out.mono HB0.out.size)⟩
theorem compatLists_all (w : World) (V W : CfgV) (h : V.At w) (hb : ∀ x ∈ V.ps, x.img.length ≤ 140737488351232) (k : W.At w) (kb : ∀ x ∈ W.ps, x.img.length ≤ 140737488351232) : Calls Try.prog 8 #[.agg (cCfg V).toArray, .agg (cCfg W).toArray] w fun e w' => e = .returned (.bool true) ∧ Below w.heap.size w w' :=
  compatLists_law w V W h hb k kb
end Go.Proofs.Ytpnbaapjjchlbaa
