/- Texts of the proof, one behind the other: Pick1, PickP. No condition but those that each names. -/
import Derived.Test.YtpnbaapjjchlbaaGk
import Derived.Test.YtpnbaapjjchlbaaTicks
/- compat.Parts$1, compat.Leaving$1: walked. -/
namespace Go.Proofs.Ytpnbaapjjchlbaa
open Go Go.RowKit Go.Cit

def pk1 (V W : CfgV) (_ _ p : Nat) (i : Int) (s : Bool) : Nat → Value
  | 6 => (.pointer (some ⟨p, 0, none⟩))
  | 7 => (.int .i64 i)
  | 8 => (.agg #[.slice V.wa V.ws.length V.wc, .slice V.pa V.ps.length V.pc, .slice V.ca V.cs.length V.cc])
  | 9 => (.agg #[.slice W.wa W.ws.length W.wc, .slice W.pa W.ps.length W.pc, .slice W.ca W.cs.length W.cc])
  | 10 => (.pointer (some ⟨p, 0, none⟩))
  | 11 => (.int .i64 i)
  | 12 => (.bool s)
  | 4 => (.int .i64 i)
  | 5 => (.bool s)
  | _ => undef
def pk1o (_ _ : CfgV) (b1 b2 p : Nat) (_ : Int) (_ : Bool) : Nat → Value
  | 1 => (.pointer (some ⟨b1, 0, none⟩))
  | 2 => (.pointer (some ⟨b2, 0, none⟩))
  | 3 => (.pointer (some ⟨p, 0, none⟩))
  | _ => undef
set_option maxRecDepth 100000 in
set_option maxHeartbeats 2000000 in
theorem parts1_calls (w : World) (b1 b2 : Nat) (V W : CfgV) (hv : V.At w) (hw : W.At w) (hs : SmallV V) (ks : SmallV W) (h1 : InBox w b1 V) (h2 : InBox w b2 W) (x : PtV) :
    Calls Try.prog 80 (#[.agg #[.int .i64 x.id.1, .int .i64 x.reg.base.1, .int .i64 x.reg.size.1, .bool x.keep, .slice x.a x.img.length x.c]] ++ #[.pointer (some ⟨b1, 0, none⟩), .pointer (some ⟨b2, 0, none⟩)]) w fun e w' => e = .returned (.tuple #[.int .i64 x.id.1, .bool (survK V W x.id.1)]) ∧ Below w.heap.size w w' := by
  show Calls Try.prog 80 #[.agg (cA x), .pointer (some ⟨b1, 0, none⟩), .pointer (some ⟨b2, 0, none⟩)] w _
  obtain ⟨w0, hw0⟩ : ∃ w0, w0 = w.alloc (.cells (cA x) 43) := ⟨_, rfl⟩
  have B0 : Below w.heap.size w w0 := by rw [hw0]; exact (Below.refl _ w).alloc (Nat.le_refl _) _
  obtain ⟨p, hp⟩ : ∃ p, p = w.heap.size := ⟨_, rfl⟩
  have hX : w0.heap[p]? = some (.cells (cA x) 43 (0, 0)) := by rw [hw0, hp]; exact heap_alloc_new _ _
  obtain ⟨i, hi⟩ : ∃ i, Hid (i = x.id.1) := ⟨_, rfl⟩
  obtain ⟨s, hss⟩ : ∃ s, Hid (s = survK V W x.id.1) := ⟨_, rfl⟩
  have HS : Hid (∀ q : After w0, Calls Try.prog 36 #[.agg #[.slice V.wa V.ws.length V.wc, .slice V.pa V.ps.length V.pc, .slice V.ca V.cs.length V.cc], .agg #[.slice W.wa W.ws.length W.wc, .slice W.pa W.ps.length W.pc, .slice W.ca W.cs.length W.cc], .int .i64 i] q.to fun e w' => e = .returned (.bool s) ∧ Below q.to.heap.size q.to w') := fun q => by
    have := surv_calls q.to V W (hv.stay (B0.trans (q.bel.mono B0.size))) (hw.stay (B0.trans (q.bel.mono B0.size))) hs ks i
    rwa [hi.out, ← hss.out, ← hi.out] at this
  have e0 : ∀ q : After w0, q.to.cell? ⟨p, 0, none⟩ = some (.int .i64 i) := fun q => After.cell (by rw [World.cell?, hX, hi.out]; rfl) q
  obtain ⟨c0, c1, c2⟩ := h1.keep B0
  obtain ⟨d0, d1, d2⟩ := h2.keep B0
  have HB0 := Lib.hid B0
  rw [← hss.out, ← hi.out]
  clear hv hw h1 h2 B0 hX
  go_enter Try.func80, Try.ntmps80
  go_upto_region 1 with fail
  rw [← hw0, ← hp]
  clear hw0
  refine wp_region_vals (pk1 V W b1 b2 p i s) (pk1o V W b1 b2 p i s) [1, 2, 3] (by kernel_rfl) (by kernel_rfl) (by kernel_rfl) ⟨rfl, rfl, rfl, trivial⟩ ?_ ?_
  · refine opsAll_cons ?_ (opsAll_cons ?_ (opsAll_cons ?_ (opsAll_cons ?_ (opsAll_cons ?_ (opsAll_cons ?_ (opsAll_cons ?_ (opsAll_cons ?_ (opsAll_cons ?_ opsAll_nil))))))))
    all_goals intro a hk
    · -- slot 6
      exact .inl ⟨wanted_free rfl, q_field (.tmp 3) rfl (show a.eval (.tmp 3) = (.pointer (some ⟨p, 0, none⟩)) from hk.old 3 (by kernel_rfl) (by kernel_rfl)) (v := (.pointer (some ⟨p, 0, none⟩))) (fun w => by kernel_rfl) rfl⟩
    · -- slot 7
      exact .inl ⟨wanted_free rfl, q_load (.tmp 6) rfl (show a.eval (.tmp 6) = (.pointer (some ⟨p, 0, none⟩)) from hk.slot 6 (by kernel_rfl)) (v := (.int .i64 i)) (fun q => load_at (fun w => by kernel_rfl) (e0 q)) rfl⟩
    · -- slot 8
      exact .inl ⟨wanted_free rfl, q_load (.tmp 1) rfl (show a.eval (.tmp 1) = (.pointer (some ⟨b1, 0, none⟩)) from hk.old 1 (by kernel_rfl) (by kernel_rfl)) (v := (.agg #[.slice V.wa V.ws.length V.wc, .slice V.pa V.ps.length V.pc, .slice V.ca V.cs.length V.cc])) (fun q => load3 (fun w => by kernel_rfl) (fun w => by kernel_rfl) (keep q.bel c0) (keep q.bel c1) (keep q.bel c2)) rfl⟩
    · -- slot 9
      exact .inl ⟨wanted_free rfl, q_load (.tmp 2) rfl (show a.eval (.tmp 2) = (.pointer (some ⟨b2, 0, none⟩)) from hk.old 2 (by kernel_rfl) (by kernel_rfl)) (v := (.agg #[.slice W.wa W.ws.length W.wc, .slice W.pa W.ps.length W.pc, .slice W.ca W.cs.length W.cc])) (fun q => load3 (fun w => by kernel_rfl) (fun w => by kernel_rfl) (keep q.bel d0) (keep q.bel d1) (keep q.bel d2)) rfl⟩
    · -- slot 10
      exact .inl ⟨wanted_free rfl, q_field (.tmp 3) rfl (show a.eval (.tmp 3) = (.pointer (some ⟨p, 0, none⟩)) from hk.old 3 (by kernel_rfl) (by kernel_rfl)) (v := (.pointer (some ⟨p, 0, none⟩))) (fun w => by kernel_rfl) rfl⟩
    · -- slot 11
      exact .inl ⟨wanted_free rfl, q_load (.tmp 10) rfl (show a.eval (.tmp 10) = (.pointer (some ⟨p, 0, none⟩)) from hk.slot 10 (by kernel_rfl)) (v := (.int .i64 i)) (fun q => load_at (fun w => by kernel_rfl) (e0 q)) rfl⟩
    · -- slot 12
      exact .inl ⟨wanted_free rfl, q_call rfl rfl #[(.agg #[.slice V.wa V.ws.length V.wc, .slice V.pa V.ps.length V.pc, .slice V.ca V.cs.length V.cc]), (.agg #[.slice W.wa W.ws.length W.wc, .slice W.pa W.ps.length W.pc, .slice W.ca W.cs.length W.cc]), (.int .i64 i)] (fun w => by kernel_rfl) (by simp only [List.map_toArray, List.map_cons, List.map_nil, (show a.eval (.tmp 8) = (.agg #[.slice V.wa V.ws.length V.wc, .slice V.pa V.ps.length V.pc, .slice V.ca V.cs.length V.cc]) from hk.slot 8 (by kernel_rfl)), (show a.eval (.tmp 9) = (.agg #[.slice W.wa W.ws.length W.wc, .slice W.pa W.ps.length W.pc, .slice W.ca W.cs.length W.cc]) from hk.slot 9 (by kernel_rfl)), (show a.eval (.tmp 11) = (.int .i64 i) from hk.slot 11 (by kernel_rfl))]) (v := (.bool s)) (fun q => HS.out q) rfl⟩
    · -- slot 4
      exact .inl ⟨wanted_free rfl, q_assign (.tmp 7) rfl (show a.eval (.tmp 7) = (.int .i64 i) from hk.slot 7 (by kernel_rfl))⟩
    · -- slot 5
      exact .inl ⟨wanted_free rfl, q_assign (.tmp 12) rfl (show a.eval (.tmp 12) = (.bool s) from hk.slot 12 (by kernel_rfl))⟩
  intro a ⟨w3, hb3⟩ hsame hall
  have he := act_same hsame [6, 7, 8, 9, 10, 11, 12, 4, 5] (by kernel_rfl)
  simp only [List.foldl_cons, List.foldl_nil] at he
  rw [show a.eval (.tmp 4) = (.int .i64 i) from hall 4 (by kernel_rfl), show a.eval (.tmp 5) = (.bool s) from hall 5 (by kernel_rfl)] at he
  generalize a.eval (.tmp 6) = x6 at he
  generalize a.eval (.tmp 7) = x7 at he
  generalize a.eval (.tmp 8) = x8 at he
  generalize a.eval (.tmp 9) = x9 at he
  generalize a.eval (.tmp 10) = x10 at he
  generalize a.eval (.tmp 11) = x11 at he
  generalize a.eval (.tmp 12) = x12 at he
  simp only [put_lit] at he
  dsimp only [List.set_cons_zero, List.set_cons_succ] at he
  subst he
  clear hsame hall
  go_wp2_with fail
  go_ret2
  exact ⟨rfl, HB0.out.trans (hb3.mono HB0.out.size)⟩

def pk2 (V W : CfgV) (_ _ p : Nat) (i : Int) (s : Bool) : Nat → Value
  | 6 => (.pointer (some ⟨p, 0, none⟩))
  | 7 => (.int .i64 i)
  | 8 => (.agg #[.slice V.wa V.ws.length V.wc, .slice V.pa V.ps.length V.pc, .slice V.ca V.cs.length V.cc])
  | 9 => (.agg #[.slice W.wa W.ws.length W.wc, .slice W.pa W.ps.length W.pc, .slice W.ca W.cs.length W.cc])
  | 10 => (.pointer (some ⟨p, 0, none⟩))
  | 11 => (.int .i64 i)
  | 12 => (.bool s)
  | 13 => (.bool (!s))
  | 4 => (.int .i64 i)
  | 5 => (.bool (!s))
  | _ => undef
def pk2o (_ _ : CfgV) (b1 b2 p : Nat) (_ : Int) (_ : Bool) : Nat → Value
  | 1 => (.pointer (some ⟨b1, 0, none⟩))
  | 2 => (.pointer (some ⟨b2, 0, none⟩))
  | 3 => (.pointer (some ⟨p, 0, none⟩))
  | _ => undef
set_option maxRecDepth 100000 in
set_option maxHeartbeats 2000000 in
theorem leav1_calls (w : World) (b1 b2 : Nat) (V W : CfgV) (hv : V.At w) (hw : W.At w) (hs : SmallV V) (ks : SmallV W) (h1 : InBox w b1 V) (h2 : InBox w b2 W) (x : PtV) :
    Calls Try.prog 85 (#[.agg #[.int .i64 x.id.1, .int .i64 x.reg.base.1, .int .i64 x.reg.size.1, .bool x.keep, .slice x.a x.img.length x.c]] ++ #[.pointer (some ⟨b1, 0, none⟩), .pointer (some ⟨b2, 0, none⟩)]) w fun e w' => e = .returned (.tuple #[.int .i64 x.id.1, .bool (!survK V W x.id.1)]) ∧ Below w.heap.size w w' := by
  show Calls Try.prog 85 #[.agg (cA x), .pointer (some ⟨b1, 0, none⟩), .pointer (some ⟨b2, 0, none⟩)] w _
  obtain ⟨w0, hw0⟩ : ∃ w0, w0 = w.alloc (.cells (cA x) 43) := ⟨_, rfl⟩
  have B0 : Below w.heap.size w w0 := by rw [hw0]; exact (Below.refl _ w).alloc (Nat.le_refl _) _
  obtain ⟨p, hp⟩ : ∃ p, p = w.heap.size := ⟨_, rfl⟩
  have hX : w0.heap[p]? = some (.cells (cA x) 43 (0, 0)) := by rw [hw0, hp]; exact heap_alloc_new _ _
  obtain ⟨i, hi⟩ : ∃ i, Hid (i = x.id.1) := ⟨_, rfl⟩
  obtain ⟨s, hss⟩ : ∃ s, Hid (s = survK V W x.id.1) := ⟨_, rfl⟩
  have HS : Hid (∀ q : After w0, Calls Try.prog 36 #[.agg #[.slice V.wa V.ws.length V.wc, .slice V.pa V.ps.length V.pc, .slice V.ca V.cs.length V.cc], .agg #[.slice W.wa W.ws.length W.wc, .slice W.pa W.ps.length W.pc, .slice W.ca W.cs.length W.cc], .int .i64 i] q.to fun e w' => e = .returned (.bool s) ∧ Below q.to.heap.size q.to w') := fun q => by
    have := surv_calls q.to V W (hv.stay (B0.trans (q.bel.mono B0.size))) (hw.stay (B0.trans (q.bel.mono B0.size))) hs ks i
    rwa [hi.out, ← hss.out, ← hi.out] at this
  have e0 : ∀ q : After w0, q.to.cell? ⟨p, 0, none⟩ = some (.int .i64 i) := fun q => After.cell (by rw [World.cell?, hX, hi.out]; rfl) q
  obtain ⟨c0, c1, c2⟩ := h1.keep B0
  obtain ⟨d0, d1, d2⟩ := h2.keep B0
  have HB0 := Lib.hid B0
  rw [← hss.out, ← hi.out]
  clear hv hw h1 h2 B0 hX
  go_enter Try.func85, Try.ntmps85
  go_upto_region 1 with fail
  rw [← hw0, ← hp]
  clear hw0
  refine wp_region_vals (pk2 V W b1 b2 p i s) (pk2o V W b1 b2 p i s) [1, 2, 3] (by kernel_rfl) (by kernel_rfl) (by kernel_rfl) ⟨rfl, rfl, rfl, trivial⟩ ?_ ?_
  · refine opsAll_cons ?_ (opsAll_cons ?_ (opsAll_cons ?_ (opsAll_cons ?_ (opsAll_cons ?_ (opsAll_cons ?_ (opsAll_cons ?_ (opsAll_cons ?_ (opsAll_cons ?_ (opsAll_cons ?_ opsAll_nil)))))))))
    all_goals intro a hk
    · -- slot 6
      exact .inl ⟨wanted_free rfl, q_field (.tmp 3) rfl (show a.eval (.tmp 3) = (.pointer (some ⟨p, 0, none⟩)) from hk.old 3 (by kernel_rfl) (by kernel_rfl)) (v := (.pointer (some ⟨p, 0, none⟩))) (fun w => by kernel_rfl) rfl⟩
    · -- slot 7
      exact .inl ⟨wanted_free rfl, q_load (.tmp 6) rfl (show a.eval (.tmp 6) = (.pointer (some ⟨p, 0, none⟩)) from hk.slot 6 (by kernel_rfl)) (v := (.int .i64 i)) (fun q => load_at (fun w => by kernel_rfl) (e0 q)) rfl⟩
    · -- slot 8
      exact .inl ⟨wanted_free rfl, q_load (.tmp 1) rfl (show a.eval (.tmp 1) = (.pointer (some ⟨b1, 0, none⟩)) from hk.old 1 (by kernel_rfl) (by kernel_rfl)) (v := (.agg #[.slice V.wa V.ws.length V.wc, .slice V.pa V.ps.length V.pc, .slice V.ca V.cs.length V.cc])) (fun q => load3 (fun w => by kernel_rfl) (fun w => by kernel_rfl) (keep q.bel c0) (keep q.bel c1) (keep q.bel c2)) rfl⟩
    · -- slot 9
      exact .inl ⟨wanted_free rfl, q_load (.tmp 2) rfl (show a.eval (.tmp 2) = (.pointer (some ⟨b2, 0, none⟩)) from hk.old 2 (by kernel_rfl) (by kernel_rfl)) (v := (.agg #[.slice W.wa W.ws.length W.wc, .slice W.pa W.ps.length W.pc, .slice W.ca W.cs.length W.cc])) (fun q => load3 (fun w => by kernel_rfl) (fun w => by kernel_rfl) (keep q.bel d0) (keep q.bel d1) (keep q.bel d2)) rfl⟩
    · -- slot 10
      exact .inl ⟨wanted_free rfl, q_field (.tmp 3) rfl (show a.eval (.tmp 3) = (.pointer (some ⟨p, 0, none⟩)) from hk.old 3 (by kernel_rfl) (by kernel_rfl)) (v := (.pointer (some ⟨p, 0, none⟩))) (fun w => by kernel_rfl) rfl⟩
    · -- slot 11
      exact .inl ⟨wanted_free rfl, q_load (.tmp 10) rfl (show a.eval (.tmp 10) = (.pointer (some ⟨p, 0, none⟩)) from hk.slot 10 (by kernel_rfl)) (v := (.int .i64 i)) (fun q => load_at (fun w => by kernel_rfl) (e0 q)) rfl⟩
    · -- slot 12
      exact .inl ⟨wanted_free rfl, q_call rfl rfl #[(.agg #[.slice V.wa V.ws.length V.wc, .slice V.pa V.ps.length V.pc, .slice V.ca V.cs.length V.cc]), (.agg #[.slice W.wa W.ws.length W.wc, .slice W.pa W.ps.length W.pc, .slice W.ca W.cs.length W.cc]), (.int .i64 i)] (fun w => by kernel_rfl) (by simp only [List.map_toArray, List.map_cons, List.map_nil, (show a.eval (.tmp 8) = (.agg #[.slice V.wa V.ws.length V.wc, .slice V.pa V.ps.length V.pc, .slice V.ca V.cs.length V.cc]) from hk.slot 8 (by kernel_rfl)), (show a.eval (.tmp 9) = (.agg #[.slice W.wa W.ws.length W.wc, .slice W.pa W.ps.length W.pc, .slice W.ca W.cs.length W.cc]) from hk.slot 9 (by kernel_rfl)), (show a.eval (.tmp 11) = (.int .i64 i) from hk.slot 11 (by kernel_rfl))]) (v := (.bool s)) (fun q => HS.out q) rfl⟩
    · -- slot 13
      exact .inl ⟨wanted_free rfl, q_not rfl _ (show a.eval (.tmp 12) = (.bool s) from hk.slot 12 (by kernel_rfl)) rfl⟩
    · -- slot 4
      exact .inl ⟨wanted_free rfl, q_assign (.tmp 7) rfl (show a.eval (.tmp 7) = (.int .i64 i) from hk.slot 7 (by kernel_rfl))⟩
    · -- slot 5
      exact .inl ⟨wanted_free rfl, q_assign (.tmp 13) rfl (show a.eval (.tmp 13) = (.bool (!s)) from hk.slot 13 (by kernel_rfl))⟩
  intro a ⟨w3, hb3⟩ hsame hall
  have he := act_same hsame [6, 7, 8, 9, 10, 11, 12, 13, 4, 5] (by kernel_rfl)
  simp only [List.foldl_cons, List.foldl_nil] at he
  rw [show a.eval (.tmp 4) = (.int .i64 i) from hall 4 (by kernel_rfl), show a.eval (.tmp 5) = (.bool (!s)) from hall 5 (by kernel_rfl)] at he
  generalize a.eval (.tmp 6) = x6 at he
  generalize a.eval (.tmp 7) = x7 at he
  generalize a.eval (.tmp 8) = x8 at he
  generalize a.eval (.tmp 9) = x9 at he
  generalize a.eval (.tmp 10) = x10 at he
  generalize a.eval (.tmp 11) = x11 at he
  generalize a.eval (.tmp 12) = x12 at he
  generalize a.eval (.tmp 13) = x13 at he
  simp only [put_lit] at he
  dsimp only [List.set_cons_zero, List.set_cons_succ] at he
  subst he
  clear hsame hall
  go_wp2_with fail
  go_ret2
  exact ⟨rfl, HB0.out.trans (hb3.mono HB0.out.size)⟩

end Go.Proofs.Ytpnbaapjjchlbaa

/- compat.pick at partitions; compat.Parts, compat.Leaving: walked. -/
namespace Go.Proofs.Ytpnbaapjjchlbaa
open Go Go.RowKit Go.Cit

def pickL (p : PtV → Bool) (l : List PtV) : List Int := (l.filter p).map (·.id.1)
theorem pickL_succ (p : PtV → Bool) (l : List PtV) (k : Nat) (h : k < l.length) : pickL p (l.take (k + 1)) = pickL p (l.take k) ++ (if p l[k] then [l[k].id.1] else []) := by
  unfold pickL
  rw [List.take_succ_eq_append_getElem h, List.filter_append, List.map_append]
  cases hp : p l[k] <;> simp [hp]
theorem pickL_len (p : PtV → Bool) (l : List PtV) : (pickL p l).length ≤ l.length := by unfold pickL; rw [List.length_map]; exact List.length_filter_le _ _
set_option maxRecDepth 100000 in
set_option maxHeartbeats 4000000 in
theorem pick_calls {p : PtV → Bool} (g : Nat) (lb : Array Value) (eg : ∀ args w, (callFunc g args).run Try.prog w = .ok (.enter g args) w) (w : World) (V W : CfgV) (h : V.At w) (k : W.At w) (hs : SmallV V) (ks : SmallV W) (a : Option Addr) (l : List PtV) (c : Nat) (hl : Vec cPt 5 w a l c) (hl9 : l.length ≤ 100)
    (hp : ∀ (W' : World) (i : Nat) (hi : i < l.length), Below w.heap.size w W' → Calls Try.prog g (#[.agg #[.int .i64 l[i].id.1, .int .i64 l[i].reg.base.1, .int .i64 l[i].reg.size.1, .bool l[i].keep, .slice l[i].a l[i].img.length l[i].c]] ++ lb) W' fun e w' => e = .returned (.tuple #[.int .i64 l[i].id.1, .bool (p l[i])]) ∧ Below W'.heap.size W' w') :
    Calls Try.prog 79 #[.agg #[.slice V.wa V.ws.length V.wc, .slice V.pa V.ps.length V.pc, .slice V.ca V.cs.length V.cc], .agg #[.slice W.wa W.ws.length W.wc, .slice W.pa W.ps.length W.pc, .slice W.ca W.cs.length W.cc], .slice a l.length c, .func (.func g) #[] lb] w fun e w' => ∃ a' c', e = .returned (.slice a' (if mayK V W then pickL p l else []).length c') ∧ VOwn cZ 1 3 w.heap.size w' a' (if mayK V W then pickL p l else []) c' ∧ Below w.heap.size w w' := by
  obtain ⟨w0, hw0⟩ : ∃ w0, w0 = (w.alloc (.cells #[.slice V.wa V.ws.length V.wc, .slice V.pa V.ps.length V.pc, .slice V.ca V.cs.length V.cc] 26)).alloc (.cells #[.slice W.wa W.ws.length W.wc, .slice W.pa W.ps.length W.pc, .slice W.ca W.cs.length W.cc] 26) := ⟨_, rfl⟩
  have B0 : Below w.heap.size w w0 := by rw [hw0]; exact ((Below.refl _ w).alloc (Nat.le_refl _) _).alloc (by simp) _
  have hI := two_box w V W
  rw [← hw0] at hI
  have HI := Lib.hid hI
  have HH := Lib.hid hl
  have HP := Lib.hid hp
  have HB0 := Lib.hid B0
  have hf := cmay_calls w0 V W (h.stay B0) (k.stay B0) hs ks
  obtain ⟨f2, hf2⟩ : ∃ f, Hid (f = mayK V W) := ⟨_, rfl⟩
  rw [← hf2.out] at hf
  have HF := Lib.hid hf
  obtain ⟨R, hR⟩ : ∃ R, Hid (R = if mayK V W then pickL p l else []) := ⟨_, rfl⟩
  have HR : Hid (R = if f2 then pickL p l else []) := by rw [Hid, hR.out, hf2.out]
  rw [← hR.out]
  have hlen := hl.len_le
  clear h k B0 hI hf hl hp
  obtain ⟨⟨c0, c1, c2⟩, ⟨d0, d1, d2⟩⟩ := HI.out
  cases f2 with
  | false =>
    have HRF : Hid (R = []) := HR.out
    go_enter Try.func79, Try.ntmps79
    go_wp2_with fail
    rw [← hw0]
    clear hw0
    refine (HF.out).mono ?_
    rintro e w1 ⟨rfl, hb1⟩
    have HB1 := Lib.hid (HB0.out.trans (hb1.mono HB0.out.size))
    clear hb1 c0 c1 c2 d0 d1 d2
    go_wp2_with fail
    go_ret
    exact ⟨none, 0, by rw [HRF.out]; rfl, by rw [HRF.out]; exact VOwn.nil_ _ _ _ _ _, HB1.out⟩
  | true =>
    have HRF : Hid (R = pickL p l) := HR.out
    go_enter Try.func79, Try.ntmps79
    go_wp2_with fail
    rw [← hw0]
    clear hw0
    refine (HF.out).mono ?_
    rintro e w1 ⟨rfl, hb1⟩
    have HB1 := Lib.hid (HB0.out.trans (hb1.mono HB0.out.size))
    clear hb1 c0 c1 c2 d0 d1 d2
    go_wp2_with fail
    go_loopw [9, 20] (fun s i wr => ∃ (j : Nat) (a' : Option Addr) (L : List Int) (c' : Nat), s = .slice a' L.length c' ∧ i = .int .i64 j ∧ j ≤ l.length ∧ Hid (L = pickL p (l.take j)) ∧ VOwn cZ 1 3 w.heap.size wr a' L c' ∧ Below w.heap.size w wr) (fun _ i _ => l.length - (intOf i).toNat)
    case atStart => exact ⟨0, none, [], 0, rfl, rfl, Nat.zero_le _, rfl, VOwn.nil_ _ _ _ _ _, HB1.out⟩
    case round =>
      obtain ⟨j, a2, L, c3, rfl, rfl, hj, HL, hO, B⟩ := hrel
      by_cases hlt : j < l.length
      · have i0 := HH.out.index etP j hlt
        obtain ⟨u0, u1, u2, u3, u4⟩ := pts_cells HH.out B j hlt
        have HS := Lib.hid (pickL_succ p l j hlt)
        have HL9 : Hid (L.length ≤ 100) := by rw [Hid, HL.out]; have := pickL_len p (l.take j); rw [List.length_take] at this; omega
        have hpc := HP.out
        obtain ⟨x, hx⟩ : ∃ x, Hid (x = l[j]) := ⟨l[j], rfl⟩
        obtain ⟨wb, hwb⟩ : ∃ wb, wb = wr.alloc (.cells (cA x) 43) := ⟨_, rfl⟩
        have hbb : Below wr.heap.size wr wb := by rw [hwb]; exact (Below.refl _ _).alloc (Nat.le_refl _) _
        have hcall := hpc wb j hlt (B.trans (hbb.mono B.size))
        rw [← hx.out] at u0 u1 u2 u3 u4 HS hcall
        have HBb := Lib.hid (B.trans (hbb.mono B.size))
        have HOb := Lib.hid (hO.stay hbb)
        have HC := Lib.hid hcall
        clear hpc hbb hcall hO B
        cases hq : p x with
        | true =>
          have HN : Hid (L ++ [x.id.1] = pickL p (l.take (j + 1))) := by rw [Hid, HS.out, hq, ← HL.out]; rfl
          have hcall := HC.out
          rw [hq] at hcall
          have HC := Lib.hid hcall
          clear hq hcall
          go_wp2_with fail
          rw [← hwb]
          clear hwb
          refine (HC.out).mono ?_
          rintro e w5 ⟨rfl, hb5⟩
          have HB5 := Lib.hid (HBb.out.trans (hb5.mono HBb.out.size))
          have HO5 := Lib.hid (HOb.out.stay hb5)
          clear hb5 u0 u1 u2 u3 u4 i0
          go_wp2_with ((with_reducible refine wpList_vapp1 (o := ⟨some 34, .call _, _, _, _, _⟩) etI cZ_len cZ_one (y := x.id.1) (.tmp 31) (.tmp 33) (by with_unfolding_all rfl) (by with_unfolding_all rfl) HO5.out (by with_unfolding_all rfl) (by have := HL9.out; omega) HB5.out.size (by with_unfolding_all rfl) (by with_unfolding_all rfl) ?_); intro a4 k4 w6 hO4 hg4 hn4; have HO4 := Lib.hid (And.intro hO4 (HB5.out.trans (HO5.out.grown hg4 HB5.out.size))); clear hO4 hg4 hn4)
          go_roundw
          case rel => exact ⟨j + 1, a4, L ++ [x.id.1], k4, by simp, by go_num, by omega, HN.out, HO4.out.1, HO4.out.2⟩
          case measure => simp [intOf]; omega
        | false =>
          have HN : Hid (L = pickL p (l.take (j + 1))) := by rw [Hid, HS.out, hq, ← HL.out]; simp
          have hcall := HC.out
          rw [hq] at hcall
          have HC := Lib.hid hcall
          clear hq hcall
          go_wp2_with fail
          rw [← hwb]
          clear hwb
          refine (HC.out).mono ?_
          rintro e w5 ⟨rfl, hb5⟩
          have HB5 := Lib.hid (HBb.out.trans (hb5.mono HBb.out.size))
          have HO5 := Lib.hid (HOb.out.stay hb5)
          clear hb5 u0 u1 u2 u3 u4 i0
          go_wp2_with fail
          go_roundw
          case rel => exact ⟨j + 1, a2, L, c3, rfl, by go_num, by omega, HN.out, HO5.out, HB5.out⟩
          case measure => simp [intOf]; omega
      · have hk2 : j = l.length := by omega
        have HRT : Hid (R = L) := by rw [Hid, HRF.out, HL.out, hk2, List.take_length]
        have HO := Lib.hid (And.intro hO B)
        clear hk2 hO B
        go_wp2_with fail
        go_ret
        exact ⟨a2, c3, by rw [HRT.out]; rfl, by rw [HRT.out]; exact HO.out.1, HO.out.2⟩
def partsK (V W : CfgV) : List Int := if mayK V W then pickL (fun x => survK V W x.id.1) V.ps else []
def leavK (V W : CfgV) : List Int := if mayK V W then pickL (fun x => !survK V W x.id.1) V.ps else []

set_option maxRecDepth 100000 in
set_option maxHeartbeats 2000000 in
theorem cparts_calls (w : World) (V W : CfgV) (h : V.At w) (k : W.At w) (hs : SmallV V) (ks : SmallV W) : Calls Try.prog 39 #[.agg #[.slice V.wa V.ws.length V.wc, .slice V.pa V.ps.length V.pc, .slice V.ca V.cs.length V.cc], .agg #[.slice W.wa W.ws.length W.wc, .slice W.pa W.ps.length W.pc, .slice W.ca W.cs.length W.cc]] w fun e w' => ∃ a' c', e = .returned (.slice a' (partsK V W).length c') ∧ VOwn cZ 1 3 w.heap.size w' a' (partsK V W) c' ∧ Below w.heap.size w w' := by
  obtain ⟨w0, hw0⟩ : ∃ w0, w0 = (w.alloc (.cells #[.slice V.wa V.ws.length V.wc, .slice V.pa V.ps.length V.pc, .slice V.ca V.cs.length V.cc] 26)).alloc (.cells #[.slice W.wa W.ws.length W.wc, .slice W.pa W.ps.length W.pc, .slice W.ca W.cs.length W.cc] 26) := ⟨_, rfl⟩
  have B0 : Below w.heap.size w w0 := by rw [hw0]; exact ((Below.refl _ w).alloc (Nat.le_refl _) _).alloc (by simp) _
  have hI := two_box w V W
  rw [← hw0] at hI
  have HI := Lib.hid hI
  have HV := Lib.hid (h.stay B0)
  have HW := Lib.hid (k.stay B0)
  have HP := Lib.hid (pick_calls (p := (fun x => survK V W x.id.1)) 80 #[.pointer (some ⟨w.heap.size, 0, none⟩), .pointer (some ⟨w.heap.size + 1, 0, none⟩)] (enters_of Try.func80 (by kernel_rfl) rfl) w0 V W (h.stay B0) (k.stay B0) hs ks V.pa V.ps V.pc (h.stay B0).pts hs.pts
    (fun W' i hi hb => parts1_calls W' w.heap.size (w.heap.size + 1) V W (HV.out.stay hb) (HW.out.stay hb) hs ks (HI.out.1.keep hb) (HI.out.2.keep hb) V.ps[i]))
  obtain ⟨M, hM⟩ : ∃ M, Hid (M = partsK V W) := ⟨_, rfl⟩
  have HM : Hid ((if mayK V W then pickL (fun x => survK V W x.id.1) V.ps else []) = M) := hM.out.symm
  rw [HM.out] at HP
  rw [← hM.out]
  have HB0 := Lib.hid B0
  obtain ⟨⟨c0, c1, c2⟩, ⟨d0, d1, d2⟩⟩ := hI
  clear h k B0
  go_enter Try.func39, Try.ntmps39
  go_wp2_with fail
  rw [← hw0]
  clear hw0
  refine (HP.out).mono ?_
  rintro e w1 ⟨a1, k1, rfl, hO, hb1⟩
  have HO := Lib.hid (And.intro (hO.low HB0.out.size) (HB0.out.trans (hb1.mono HB0.out.size)))
  clear hO hb1 c0 c1 c2 d0 d1 d2
  go_wp2_with fail
  go_ret
  exact ⟨a1, k1, rfl, HO.out.1, HO.out.2⟩

set_option maxRecDepth 100000 in
set_option maxHeartbeats 2000000 in
theorem cleav_calls (w : World) (V W : CfgV) (h : V.At w) (k : W.At w) (hs : SmallV V) (ks : SmallV W) : Calls Try.prog 44 #[.agg #[.slice V.wa V.ws.length V.wc, .slice V.pa V.ps.length V.pc, .slice V.ca V.cs.length V.cc], .agg #[.slice W.wa W.ws.length W.wc, .slice W.pa W.ps.length W.pc, .slice W.ca W.cs.length W.cc]] w fun e w' => ∃ a' c', e = .returned (.slice a' (leavK V W).length c') ∧ VOwn cZ 1 3 w.heap.size w' a' (leavK V W) c' ∧ Below w.heap.size w w' := by
  obtain ⟨w0, hw0⟩ : ∃ w0, w0 = (w.alloc (.cells #[.slice V.wa V.ws.length V.wc, .slice V.pa V.ps.length V.pc, .slice V.ca V.cs.length V.cc] 26)).alloc (.cells #[.slice W.wa W.ws.length W.wc, .slice W.pa W.ps.length W.pc, .slice W.ca W.cs.length W.cc] 26) := ⟨_, rfl⟩
  have B0 : Below w.heap.size w w0 := by rw [hw0]; exact ((Below.refl _ w).alloc (Nat.le_refl _) _).alloc (by simp) _
  have hI := two_box w V W
  rw [← hw0] at hI
  have HI := Lib.hid hI
  have HV := Lib.hid (h.stay B0)
  have HW := Lib.hid (k.stay B0)
  have HP := Lib.hid (pick_calls (p := (fun x => !survK V W x.id.1)) 85 #[.pointer (some ⟨w.heap.size, 0, none⟩), .pointer (some ⟨w.heap.size + 1, 0, none⟩)] (enters_of Try.func85 (by kernel_rfl) rfl) w0 V W (h.stay B0) (k.stay B0) hs ks V.pa V.ps V.pc (h.stay B0).pts hs.pts
    (fun W' i hi hb => leav1_calls W' w.heap.size (w.heap.size + 1) V W (HV.out.stay hb) (HW.out.stay hb) hs ks (HI.out.1.keep hb) (HI.out.2.keep hb) V.ps[i]))
  obtain ⟨M, hM⟩ : ∃ M, Hid (M = leavK V W) := ⟨_, rfl⟩
  have HM : Hid ((if mayK V W then pickL (fun x => !survK V W x.id.1) V.ps else []) = M) := hM.out.symm
  rw [HM.out] at HP
  rw [← hM.out]
  have HB0 := Lib.hid B0
  obtain ⟨⟨c0, c1, c2⟩, ⟨d0, d1, d2⟩⟩ := hI
  clear h k B0
  go_enter Try.func44, Try.ntmps44
  go_wp2_with fail
  rw [← hw0]
  clear hw0
  refine (HP.out).mono ?_
  rintro e w1 ⟨a1, k1, rfl, hO, hb1⟩
  have HO := Lib.hid (And.intro (hO.low HB0.out.size) (HB0.out.trans (hb1.mono HB0.out.size)))
  clear hO hb1 c0 c1 c2 d0 d1 d2
  go_wp2_with fail
  go_ret
  exact ⟨a1, k1, rfl, HO.out.1, HO.out.2⟩
end Go.Proofs.Ytpnbaapjjchlbaa

