/- compat.pick at channels; compat.Channels: walked. -/
import Derived.Test.YtpnbaapjjchlbaaGq
import Derived.Test.YtpnbaapjjchlbaaChanGet
namespace Go.Proofs.Ytpnbaapjjchlbaa
open Go Go.RowKit Go.Cit

def pickC (p : Ch → Bool) (l : List Ch) : List Int := (l.filter p).map (·.id.1)
theorem pickC_succ (p : Ch → Bool) (l : List Ch) (k : Nat) (h : k < l.length) : pickC p (l.take (k + 1)) = pickC p (l.take k) ++ (if p l[k] then [l[k].id.1] else []) := by
  unfold pickC
  rw [List.take_succ_eq_append_getElem h, List.filter_append, List.map_append]
  cases hp : p l[k] <;> simp [hp]
theorem pickC_len (p : Ch → Bool) (l : List Ch) : (pickC p l).length ≤ l.length := by unfold pickC; rw [List.length_map]; exact List.length_filter_le _ _
set_option maxRecDepth 100000 in
set_option maxHeartbeats 4000000 in
theorem pickc_calls {p : Ch → Bool} (g : Nat) (lb : Array Value) (eg : ∀ args w, (callFunc g args).run Try.prog w = .ok (.enter g args) w) (w : World) (V W : CfgV) (h : V.At w) (k : W.At w) (hs : SmallV V) (ks : SmallV W) (a : Option Addr) (l : List Ch) (c : Nat) (hl : Vec cCh 5 w a l c) (hl9 : l.length ≤ 100)
    (hp : ∀ (W' : World) (i : Nat) (hi : i < l.length), Below w.heap.size w W' → Calls Try.prog g (#[.agg #[.int .i64 l[i].id.1, .int .i64 l[i].src.1, .int .i64 l[i].dst.1, .int .i64 l[i].cap.1, .int .i64 l[i].size.1]] ++ lb) W' fun e w' => e = .returned (.tuple #[.int .i64 l[i].id.1, .bool (p l[i])]) ∧ Below W'.heap.size W' w') :
    Calls Try.prog 82 #[.agg #[.slice V.wa V.ws.length V.wc, .slice V.pa V.ps.length V.pc, .slice V.ca V.cs.length V.cc], .agg #[.slice W.wa W.ws.length W.wc, .slice W.pa W.ps.length W.pc, .slice W.ca W.cs.length W.cc], .slice a l.length c, .func (.func g) #[] lb] w fun e w' => ∃ a' c', e = .returned (.slice a' (if mayK V W then pickC p l else []).length c') ∧ VOwn cZ 1 3 w.heap.size w' a' (if mayK V W then pickC p l else []) c' ∧ Below w.heap.size w w' := by
  obtain ⟨w0, hw0⟩ : ∃ w0, w0 = (w.alloc (.cells #[.slice V.wa V.ws.length V.wc, .slice V.pa V.ps.length V.pc, .slice V.ca V.cs.length V.cc] 26)).alloc (.cells #[.slice W.wa W.ws.length W.wc, .slice W.pa W.ps.length W.pc, .slice W.ca W.cs.length W.cc] 26) := ⟨_, rfl⟩
  have B0 : Below w.heap.size w w0 := by rw [hw0]; exact ((Below.refl _ w).alloc (Nat.le_refl _) _).alloc (by simp) _
  have hI := two_box w V W
  rw [← hw0] at hI
  have HI := Lib.hid hI
  have HH := Lib.hid hl
  have HP := Lib.hid hp
  have HB0 := Lib.hid B0
  have hf := cmay_calls w0 V W (h.stay B0) (k.stay B0) hs ks
  obtain ⟨f2, hf2⟩ : ∃ f, Hid (f = mayK V W) := ⟨_, rfl⟩
  rw [← hf2.out] at hf
  have HF := Lib.hid hf
  obtain ⟨R, hR⟩ : ∃ R, Hid (R = if mayK V W then pickC p l else []) := ⟨_, rfl⟩
  have HR : Hid (R = if f2 then pickC p l else []) := by rw [Hid, hR.out, hf2.out]
  rw [← hR.out]
  have hlen := hl.len_le
  clear h k B0 hI hf hl hp
  obtain ⟨⟨c0, c1, c2⟩, ⟨d0, d1, d2⟩⟩ := HI.out
  cases f2 with
  | false =>
    have HRF : Hid (R = []) := HR.out
    go_enter Try.func82, Try.ntmps82
    go_wp2_with fail
    rw [← hw0]
    clear hw0
    refine (HF.out).mono ?_
    rintro e w1 ⟨rfl, hb1⟩
    have HB1 := Lib.hid (HB0.out.trans (hb1.mono HB0.out.size))
    clear hb1 c0 c1 c2 d0 d1 d2
    go_wp2_with fail
    go_ret
    exact ⟨none, 0, by rw [HRF.out]; rfl, by rw [HRF.out]; exact VOwn.nil_ _ _ _ _ _, HB1.out⟩
  | true =>
    have HRF : Hid (R = pickC p l) := HR.out
    go_enter Try.func82, Try.ntmps82
    go_wp2_with fail
    rw [← hw0]
    clear hw0
    refine (HF.out).mono ?_
    rintro e w1 ⟨rfl, hb1⟩
    have HB1 := Lib.hid (HB0.out.trans (hb1.mono HB0.out.size))
    clear hb1 c0 c1 c2 d0 d1 d2
    go_wp2_with fail
    go_loopw [9, 20] (fun s i wr => ∃ (j : Nat) (a' : Option Addr) (L : List Int) (c' : Nat), s = .slice a' L.length c' ∧ i = .int .i64 j ∧ j ≤ l.length ∧ Hid (L = pickC p (l.take j)) ∧ VOwn cZ 1 3 w.heap.size wr a' L c' ∧ Below w.heap.size w wr) (fun _ i _ => l.length - (intOf i).toNat)
    case atStart => exact ⟨0, none, [], 0, rfl, rfl, Nat.zero_le _, rfl, VOwn.nil_ _ _ _ _ _, HB1.out⟩
    case round =>
      obtain ⟨j, a2, L, c3, rfl, rfl, hj, HL, hO, B⟩ := hrel
      by_cases hlt : j < l.length
      · have i0 := HH.out.index etC j hlt
        obtain ⟨u0, u1, u2, u3, u4⟩ := chs_cells HH.out B j hlt
        have HS := Lib.hid (pickC_succ p l j hlt)
        have HL9 : Hid (L.length ≤ 100) := by rw [Hid, HL.out]; have := pickC_len p (l.take j); rw [List.length_take] at this; omega
        have hpc := HP.out
        obtain ⟨x, hx⟩ : ∃ x, Hid (x = l[j]) := ⟨l[j], rfl⟩
        obtain ⟨wb, hwb⟩ : ∃ wb, wb = wr.alloc (.cells (cA5 x) 54) := ⟨_, rfl⟩
        have hbb : Below wr.heap.size wr wb := by rw [hwb]; exact (Below.refl _ _).alloc (Nat.le_refl _) _
        have hcall := hpc wb j hlt (B.trans (hbb.mono B.size))
        rw [← hx.out] at u0 u1 u2 u3 u4 HS hcall
        have HBb := Lib.hid (B.trans (hbb.mono B.size))
        have HOb := Lib.hid (hO.stay hbb)
        have HC := Lib.hid hcall
        clear hpc hbb hcall hO B
        cases hq : p x with
        | true =>
          have HN : Hid (L ++ [x.id.1] = pickC p (l.take (j + 1))) := by rw [Hid, HS.out, hq, ← HL.out]; rfl
          have hcall := HC.out
          rw [hq] at hcall
          have HC := Lib.hid hcall
          clear hq hcall
          go_wp2_with fail
          rw [← hwb]
          clear hwb
          refine (HC.out).mono ?_
          rintro e w5 ⟨rfl, hb5⟩
          have HB5 := Lib.hid (HBb.out.trans (hb5.mono HBb.out.size))
          have HO5 := Lib.hid (HOb.out.stay hb5)
          clear hb5 u0 u1 u2 u3 u4 i0
          go_wp2_with ((with_reducible refine wpList_vapp1 (o := ⟨some 34, .call _, _, _, _, _⟩) etI cZ_len cZ_one (y := x.id.1) (.tmp 31) (.tmp 33) (by with_unfolding_all rfl) (by with_unfolding_all rfl) HO5.out (by with_unfolding_all rfl) (by have := HL9.out; omega) HB5.out.size (by with_unfolding_all rfl) (by with_unfolding_all rfl) ?_); intro a4 k4 w6 hO4 hg4 hn4; have HO4 := Lib.hid (And.intro hO4 (HB5.out.trans (HO5.out.grown hg4 HB5.out.size))); clear hO4 hg4 hn4)
          go_roundw
          case rel => exact ⟨j + 1, a4, L ++ [x.id.1], k4, by simp, by go_num, by omega, HN.out, HO4.out.1, HO4.out.2⟩
          case measure => simp [intOf]; omega
        | false =>
          have HN : Hid (L = pickC p (l.take (j + 1))) := by rw [Hid, HS.out, hq, ← HL.out]; simp
          have hcall := HC.out
          rw [hq] at hcall
          have HC := Lib.hid hcall
          clear hq hcall
          go_wp2_with fail
          rw [← hwb]
          clear hwb
          refine (HC.out).mono ?_
          rintro e w5 ⟨rfl, hb5⟩
          have HB5 := Lib.hid (HBb.out.trans (hb5.mono HBb.out.size))
          have HO5 := Lib.hid (HOb.out.stay hb5)
          clear hb5 u0 u1 u2 u3 u4 i0
          go_wp2_with fail
          go_roundw
          case rel => exact ⟨j + 1, a2, L, c3, rfl, by go_num, by omega, HN.out, HO5.out, HB5.out⟩
          case measure => simp [intOf]; omega
      · have hk2 : j = l.length := by omega
        have HRT : Hid (R = L) := by rw [Hid, HRF.out, HL.out, hk2, List.take_length]
        have HO := Lib.hid (And.intro hO B)
        clear hk2 hO B
        go_wp2_with fail
        go_ret
        exact ⟨a2, c3, by rw [HRT.out]; rfl, by rw [HRT.out]; exact HO.out.1, HO.out.2⟩
/-- A channel survives. -/
def chanK (V W : CfgV) (x : Ch) : Bool := ((hasC W.cs x.id.1 && decide (x = getC W.cs x.id.1)) && survK V W x.src.1) && survK V W x.dst.1
theorem run_ch_eq (x y : Ch) (w : World) : (do eqGuard .eql 54 (.tmp 19) (.tmp 20) (.agg (cA5 x)) (.agg (cA5 y)); binOp .eql 54 (.agg (cA5 x)) (.agg (cA5 y)) : Sem Value).run Try.prog w = .ok (.bool (decide (x = y))) w := by
  have e : decide (x = y) = (x.id.1 == y.id.1 && (x.src.1 == y.src.1 && (x.dst.1 == y.dst.1 && (x.cap.1 == y.cap.1 && x.size.1 == y.size.1)))) := by
    obtain ⟨⟨a1, _⟩, ⟨a2, _⟩, ⟨a3, _⟩, ⟨a4, _⟩, ⟨a5, _⟩⟩ := x
    obtain ⟨⟨b1, _⟩, ⟨b2, _⟩, ⟨b3, _⟩, ⟨b4, _⟩, ⟨b5, _⟩⟩ := y
    rw [Bool.eq_iff_iff]
    simp
  rw [e]
  clear e
  go_simp
  (repeat' split) <;> simp_all
def pkc (V W : CfgV) (_ _ px _ : Nat) (x y : Ch) (h e s1 s2 : Bool) : Nat → Value
  | 15 => (.pointer (some ⟨px, 0, none⟩))
  | 16 => (.int .i64 x.id.1)
  | 17 => (.bool h)
  | 18 => (.bool h)
  | 19 => (bif h then (.agg #[.int .i64 x.id.1, .int .i64 x.src.1, .int .i64 x.dst.1, .int .i64 x.cap.1, .int .i64 x.size.1]) else undef)
  | 20 => (bif h then (.agg #[.int .i64 y.id.1, .int .i64 y.src.1, .int .i64 y.dst.1, .int .i64 y.cap.1, .int .i64 y.size.1]) else undef)
  | 21 => (bif h then (.bool e) else undef)
  | 22 => (.bool (h && e))
  | 23 => (.bool (h && e))
  | 24 => (bif (h && e) then (.agg #[.slice V.wa V.ws.length V.wc, .slice V.pa V.ps.length V.pc, .slice V.ca V.cs.length V.cc]) else undef)
  | 25 => (bif (h && e) then (.agg #[.slice W.wa W.ws.length W.wc, .slice W.pa W.ps.length W.pc, .slice W.ca W.cs.length W.cc]) else undef)
  | 26 => (bif (h && e) then (.pointer (some ⟨px, 1, none⟩)) else undef)
  | 27 => (bif (h && e) then (.int .i64 x.src.1) else undef)
  | 28 => (bif (h && e) then (.bool s1) else undef)
  | 29 => (.bool ((h && e) && s1))
  | 30 => (.bool ((h && e) && s1))
  | 31 => (bif ((h && e) && s1) then (.agg #[.slice V.wa V.ws.length V.wc, .slice V.pa V.ps.length V.pc, .slice V.ca V.cs.length V.cc]) else undef)
  | 32 => (bif ((h && e) && s1) then (.agg #[.slice W.wa W.ws.length W.wc, .slice W.pa W.ps.length W.pc, .slice W.ca W.cs.length W.cc]) else undef)
  | 33 => (bif ((h && e) && s1) then (.pointer (some ⟨px, 2, none⟩)) else undef)
  | 34 => (bif ((h && e) && s1) then (.int .i64 x.dst.1) else undef)
  | 35 => (bif ((h && e) && s1) then (.bool s2) else undef)
  | 36 => (.bool (((h && e) && s1) && s2))
  | 4 => (.int .i64 x.id.1)
  | 5 => (.bool (((h && e) && s1) && s2))
  | _ => undef
def pkco (_ _ : CfgV) (b1 b2 px py : Nat) (_ _ : Ch) (h _ _ _ : Bool) : Nat → Value
  | 1 => (.pointer (some ⟨b1, 0, none⟩))
  | 2 => (.pointer (some ⟨b2, 0, none⟩))
  | 3 => (.pointer (some ⟨px, 0, none⟩))
  | 6 => (.pointer (some ⟨py, 0, none⟩))
  | 7 => (.bool h)
  | _ => undef
set_option maxRecDepth 100000 in
set_option maxHeartbeats 2000000 in
theorem chan1_calls (w : World) (b1 b2 : Nat) (V W : CfgV) (hv : V.At w) (hw : W.At w) (hs : SmallV V) (ks : SmallV W) (h1 : InBox w b1 W) (h2 : InBox w b2 V) (x : Ch) :
    Calls Try.prog 83 (#[.agg #[.int .i64 x.id.1, .int .i64 x.src.1, .int .i64 x.dst.1, .int .i64 x.cap.1, .int .i64 x.size.1]] ++ #[.pointer (some ⟨b1, 0, none⟩), .pointer (some ⟨b2, 0, none⟩)]) w fun e w' => e = .returned (.tuple #[.int .i64 x.id.1, .bool (chanK V W x)]) ∧ Below w.heap.size w w' := by
  show Calls Try.prog 83 #[.agg (cA5 x), .pointer (some ⟨b1, 0, none⟩), .pointer (some ⟨b2, 0, none⟩)] w _
  obtain ⟨w0, hw0⟩ : ∃ w0, w0 = w.alloc (.cells (cA5 x) 54) := ⟨_, rfl⟩
  have B0 : Below w.heap.size w w0 := by rw [hw0]; exact (Below.refl _ w).alloc (Nat.le_refl _) _
  obtain ⟨px, hpx⟩ : ∃ p, p = w.heap.size := ⟨_, rfl⟩
  have hX : w0.heap[px]? = some (.cells (cA5 x) 54 (0, 0)) := by rw [hw0, hpx]; exact heap_alloc_new _ _
  obtain ⟨c0, c1, c2⟩ := h2.keep B0
  obtain ⟨d0, d1, d2⟩ := h1.keep B0
  have u0 : w0.cell? ⟨px, 0, none⟩ = some (.int .i64 x.id.1) := by rw [World.cell?, hX]; rfl
  have HG := Lib.hid (chan_get w0 W (hw.stay B0) x.id.1)
  obtain ⟨y, hy⟩ : ∃ y, Hid (y = getC W.cs x.id.1) := ⟨_, rfl⟩
  obtain ⟨h, hh⟩ : ∃ h, Hid (h = hasC W.cs x.id.1) := ⟨_, rfl⟩
  rw [← hy.out, ← hh.out] at HG
  obtain ⟨e, hee⟩ : ∃ e, Hid (decide (x = y) = e) := ⟨_, rfl⟩
  obtain ⟨s1, hs1⟩ : ∃ s, Hid (s = survK V W x.src.1) := ⟨_, rfl⟩
  obtain ⟨s2, hs2⟩ : ∃ s, Hid (s = survK V W x.dst.1) := ⟨_, rfl⟩
  obtain ⟨R, hR⟩ : ∃ R, Hid (R = (((h && e) && s1) && s2)) := ⟨_, rfl⟩
  have HR : Hid (R = chanK V W x) := by rw [Hid, hR.out, hh.out, ← hee.out, hs1.out, hs2.out, hy.out]; rfl
  have HI := Lib.hid (And.intro (h2.keep B0) (h1.keep B0))
  have HVW := Lib.hid (And.intro (hv.stay B0) (hw.stay B0))
  have HB0 := Lib.hid B0
  have HX := Lib.hid hX
  rw [← HR.out]
  rw [hw0] at c0 c1 c2 d0 d1 d2
  clear hv hw h1 h2 B0 hX u0
  go_enter Try.func83, Try.ntmps83
  go_wp2_with fail
  rw [← hw0, ← hpx]
  clear hw0 hpx
  refine (HG.out).mono ?_
  rintro e9 w1 ⟨rfl, hb1⟩
  obtain ⟨wa, hwa⟩ : ∃ wa, wa = w1.alloc (.cells (cA5 y) 54) := ⟨_, rfl⟩
  obtain ⟨py, hpy⟩ : ∃ p, p = w1.heap.size := ⟨_, rfl⟩
  have hba : Below w1.heap.size w1 wa := by rw [hwa]; exact (Below.refl _ w1).alloc (Nat.le_refl _) _
  have hY : wa.heap[py]? = some (.cells (cA5 y) 54 (0, 0)) := by rw [hwa, hpy]; exact heap_alloc_new _ _
  have hb01 := hb1.trans (hba.mono hb1.size)
  have hX1 := blk_stay HX.out hb01
  have HB1 := Lib.hid (HB0.out.trans (hb01.mono HB0.out.size))
  have HS1 : Hid (∀ q : After wa, Calls Try.prog 36 #[.agg #[.slice V.wa V.ws.length V.wc, .slice V.pa V.ps.length V.pc, .slice V.ca V.cs.length V.cc], .agg #[.slice W.wa W.ws.length W.wc, .slice W.pa W.ps.length W.pc, .slice W.ca W.cs.length W.cc], .int .i64 x.src.1] q.to fun e w' => e = .returned (.bool s1) ∧ Below q.to.heap.size q.to w') := fun q => by
    have := surv_calls q.to V W (HVW.out.1.stay (hb01.trans (q.bel.mono hb01.size))) (HVW.out.2.stay (hb01.trans (q.bel.mono hb01.size))) hs ks x.src.1
    rwa [← hs1.out] at this
  have HS2 : Hid (∀ q : After wa, Calls Try.prog 36 #[.agg #[.slice V.wa V.ws.length V.wc, .slice V.pa V.ps.length V.pc, .slice V.ca V.cs.length V.cc], .agg #[.slice W.wa W.ws.length W.wc, .slice W.pa W.ps.length W.pc, .slice W.ca W.cs.length W.cc], .int .i64 x.dst.1] q.to fun e w' => e = .returned (.bool s2) ∧ Below q.to.heap.size q.to w') := fun q => by
    have := surv_calls q.to V W (HVW.out.1.stay (hb01.trans (q.bel.mono hb01.size))) (HVW.out.2.stay (hb01.trans (q.bel.mono hb01.size))) hs ks x.dst.1
    rwa [← hs2.out] at this
  have x0 : ∀ q : After wa, _ := fun q => After.cell (cells_of hX1 0 rfl) q
  have y0 : ∀ q : After wa, _ := fun q => After.cell (cells_of hY 0 rfl) q
  have x1 : ∀ q : After wa, _ := fun q => After.cell (cells_of hX1 1 rfl) q
  have y1 : ∀ q : After wa, _ := fun q => After.cell (cells_of hY 1 rfl) q
  have x2 : ∀ q : After wa, _ := fun q => After.cell (cells_of hX1 2 rfl) q
  have y2 : ∀ q : After wa, _ := fun q => After.cell (cells_of hY 2 rfl) q
  have x3 : ∀ q : After wa, _ := fun q => After.cell (cells_of hX1 3 rfl) q
  have y3 : ∀ q : After wa, _ := fun q => After.cell (cells_of hY 3 rfl) q
  have x4 : ∀ q : After wa, _ := fun q => After.cell (cells_of hX1 4 rfl) q
  have y4 : ∀ q : After wa, _ := fun q => After.cell (cells_of hY 4 rfl) q
  clear c0 c1 c2 d0 d1 d2
  obtain ⟨c0, c1, c2⟩ := HI.out.1.keep hb01
  obtain ⟨d0, d1, d2⟩ := HI.out.2.keep hb01
  clear hb1 hba hX1 hY hb01
  go_upto_region 2 with fail
  rw [← hwa, ← hpy]
  clear hwa hpy
  refine wp_region_vals (pkc V W b1 b2 px py x y h e s1 s2) (pkco V W b1 b2 px py x y h e s1 s2) [1, 2, 3, 6, 7] (by kernel_rfl) (by kernel_rfl) (by kernel_rfl) ⟨rfl, rfl, rfl, rfl, rfl, trivial⟩ ?_ ?_
  · refine opsAll_cons ?_ (opsAll_cons ?_ (opsAll_cons ?_ (opsAll_cons ?_ (opsAll_cons ?_ (opsAll_cons ?_ (opsAll_cons ?_ (opsAll_cons ?_ (opsAll_cons ?_ (opsAll_cons ?_ (opsAll_cons ?_ (opsAll_cons ?_ (opsAll_cons ?_ (opsAll_cons ?_ (opsAll_cons ?_ (opsAll_cons ?_ (opsAll_cons ?_ (opsAll_cons ?_ (opsAll_cons ?_ (opsAll_cons ?_ (opsAll_cons ?_ (opsAll_cons ?_ (opsAll_cons ?_ (opsAll_cons ?_ opsAll_nil)))))))))))))))))))))))
    all_goals intro a hk
    · -- slot 15
      exact .inl ⟨wanted_free rfl, q_field (.tmp 3) rfl (show a.eval (.tmp 3) = (.pointer (some ⟨px, 0, none⟩)) from hk.old 3 (by kernel_rfl) (by kernel_rfl)) (v := (.pointer (some ⟨px, 0, none⟩))) (fun w => by kernel_rfl) rfl⟩
    · -- slot 16
      exact .inl ⟨wanted_free rfl, q_load (.tmp 15) rfl (show a.eval (.tmp 15) = (.pointer (some ⟨px, 0, none⟩)) from hk.slot 15 (by kernel_rfl)) (v := (.int .i64 x.id.1)) (fun q => load_at (fun w => by kernel_rfl) (x0 q)) rfl⟩
    · -- slot 17
      exact .inl ⟨wanted_free rfl, q_move (.tmp 7) rfl (show a.eval (.tmp 7) = (.bool h) from hk.old 7 (by kernel_rfl) (by kernel_rfl))⟩
    · -- slot 18
      exact .inl ⟨wanted_free rfl, q_move (.tmp 17) rfl (show a.eval (.tmp 17) = (.bool h) from hk.slot 17 (by kernel_rfl))⟩
    · -- slot 19
      cases h with
      | true =>
        exact .inl ⟨wanted_by 18 true (by kernel_rfl) (show a.eval (.tmp 18) = (.bool true) from hk.slot 18 (by kernel_rfl)), q_load (.tmp 3) rfl (show a.eval (.tmp 3) = (.pointer (some ⟨px, 0, none⟩)) from hk.old 3 (by kernel_rfl) (by kernel_rfl)) (v := (.agg #[.int .i64 x.id.1, .int .i64 x.src.1, .int .i64 x.dst.1, .int .i64 x.cap.1, .int .i64 x.size.1])) (fun q => load5 (fun w => by kernel_rfl) (fun w => by kernel_rfl) (x0 q) (x1 q) (x2 q) (x3 q) (x4 q)) rfl⟩
      | false =>
        exact .inr ⟨unwanted_by 18 true (by kernel_rfl) (show a.eval (.tmp 18) = (.bool false) from hk.slot 18 (by kernel_rfl)), rfl⟩
    · -- slot 20
      cases h with
      | true =>
        exact .inl ⟨wanted_by 18 true (by kernel_rfl) (show a.eval (.tmp 18) = (.bool true) from hk.slot 18 (by kernel_rfl)), q_load (.tmp 6) rfl (show a.eval (.tmp 6) = (.pointer (some ⟨py, 0, none⟩)) from hk.old 6 (by kernel_rfl) (by kernel_rfl)) (v := (.agg #[.int .i64 y.id.1, .int .i64 y.src.1, .int .i64 y.dst.1, .int .i64 y.cap.1, .int .i64 y.size.1])) (fun q => load5 (fun w => by kernel_rfl) (fun w => by kernel_rfl) (y0 q) (y1 q) (y2 q) (y3 q) (y4 q)) rfl⟩
      | false =>
        exact .inr ⟨unwanted_by 18 true (by kernel_rfl) (show a.eval (.tmp 18) = (.bool false) from hk.slot 18 (by kernel_rfl)), rfl⟩
    · -- slot 21
      cases h with
      | true =>
        exact .inl ⟨wanted_by 18 true (by kernel_rfl) (show a.eval (.tmp 18) = (.bool true) from hk.slot 18 (by kernel_rfl)), q_bin rfl (show a.eval (.tmp 19) = (.agg #[.int .i64 x.id.1, .int .i64 x.src.1, .int .i64 x.dst.1, .int .i64 x.cap.1, .int .i64 x.size.1]) from hk.slot 19 (by kernel_rfl)) (show a.eval (.tmp 20) = (.agg #[.int .i64 y.id.1, .int .i64 y.src.1, .int .i64 y.dst.1, .int .i64 y.cap.1, .int .i64 y.size.1]) from hk.slot 20 (by kernel_rfl)) (v := (.bool e)) (fun w => by rw [← hee.out]; exact run_ch_eq x y w) rfl⟩
      | false =>
        exact .inr ⟨unwanted_by 18 true (by kernel_rfl) (show a.eval (.tmp 18) = (.bool false) from hk.slot 18 (by kernel_rfl)), rfl⟩
    · -- slot 22
      cases h with
      | true =>
        exact .inl ⟨wanted_free rfl, q_pick rfl true (show a.eval (.tmp 18) = (.bool true) from hk.slot 18 (by kernel_rfl)) (show a.eval (.tmp 21) = (.bool e) from hk.slot 21 (by kernel_rfl))⟩
      | false =>
        exact .inl ⟨wanted_free rfl, q_pick rfl false (show a.eval (.tmp 18) = (.bool false) from hk.slot 18 (by kernel_rfl)) rfl⟩
    · -- slot 23
      exact .inl ⟨wanted_free rfl, q_move (.tmp 22) rfl (show a.eval (.tmp 22) = (.bool (h && e)) from hk.slot 22 (by kernel_rfl))⟩
    · -- slot 24
      cases h with
      | true =>
        cases e with
        | true =>
          exact .inl ⟨wanted_by 23 true (by kernel_rfl) (show a.eval (.tmp 23) = (.bool (true && true)) from hk.slot 23 (by kernel_rfl)), q_load (.tmp 2) rfl (show a.eval (.tmp 2) = (.pointer (some ⟨b2, 0, none⟩)) from hk.old 2 (by kernel_rfl) (by kernel_rfl)) (v := (.agg #[.slice V.wa V.ws.length V.wc, .slice V.pa V.ps.length V.pc, .slice V.ca V.cs.length V.cc])) (fun q => load3 (fun w => by kernel_rfl) (fun w => by kernel_rfl) (keep q.bel c0) (keep q.bel c1) (keep q.bel c2)) rfl⟩
        | false =>
          exact .inr ⟨unwanted_by 23 true (by kernel_rfl) (show a.eval (.tmp 23) = (.bool (true && false)) from hk.slot 23 (by kernel_rfl)), rfl⟩
      | false =>
        exact .inr ⟨unwanted_by 23 true (by kernel_rfl) (show a.eval (.tmp 23) = (.bool (false && e)) from hk.slot 23 (by kernel_rfl)), rfl⟩
    · -- slot 25
      cases h with
      | true =>
        cases e with
        | true =>
          exact .inl ⟨wanted_by 23 true (by kernel_rfl) (show a.eval (.tmp 23) = (.bool (true && true)) from hk.slot 23 (by kernel_rfl)), q_load (.tmp 1) rfl (show a.eval (.tmp 1) = (.pointer (some ⟨b1, 0, none⟩)) from hk.old 1 (by kernel_rfl) (by kernel_rfl)) (v := (.agg #[.slice W.wa W.ws.length W.wc, .slice W.pa W.ps.length W.pc, .slice W.ca W.cs.length W.cc])) (fun q => load3 (fun w => by kernel_rfl) (fun w => by kernel_rfl) (keep q.bel d0) (keep q.bel d1) (keep q.bel d2)) rfl⟩
        | false =>
          exact .inr ⟨unwanted_by 23 true (by kernel_rfl) (show a.eval (.tmp 23) = (.bool (true && false)) from hk.slot 23 (by kernel_rfl)), rfl⟩
      | false =>
        exact .inr ⟨unwanted_by 23 true (by kernel_rfl) (show a.eval (.tmp 23) = (.bool (false && e)) from hk.slot 23 (by kernel_rfl)), rfl⟩
    · -- slot 26
      cases h with
      | true =>
        cases e with
        | true =>
          exact .inl ⟨wanted_by 23 true (by kernel_rfl) (show a.eval (.tmp 23) = (.bool (true && true)) from hk.slot 23 (by kernel_rfl)), q_field (.tmp 3) rfl (show a.eval (.tmp 3) = (.pointer (some ⟨px, 0, none⟩)) from hk.old 3 (by kernel_rfl) (by kernel_rfl)) (v := (.pointer (some ⟨px, 1, none⟩))) (fun w => by kernel_rfl) rfl⟩
        | false =>
          exact .inr ⟨unwanted_by 23 true (by kernel_rfl) (show a.eval (.tmp 23) = (.bool (true && false)) from hk.slot 23 (by kernel_rfl)), rfl⟩
      | false =>
        exact .inr ⟨unwanted_by 23 true (by kernel_rfl) (show a.eval (.tmp 23) = (.bool (false && e)) from hk.slot 23 (by kernel_rfl)), rfl⟩
    · -- slot 27
      cases h with
      | true =>
        cases e with
        | true =>
          exact .inl ⟨wanted_by 23 true (by kernel_rfl) (show a.eval (.tmp 23) = (.bool (true && true)) from hk.slot 23 (by kernel_rfl)), q_load (.tmp 26) rfl (show a.eval (.tmp 26) = (.pointer (some ⟨px, 1, none⟩)) from hk.slot 26 (by kernel_rfl)) (v := (.int .i64 x.src.1)) (fun q => load_at (fun w => by kernel_rfl) (x1 q)) rfl⟩
        | false =>
          exact .inr ⟨unwanted_by 23 true (by kernel_rfl) (show a.eval (.tmp 23) = (.bool (true && false)) from hk.slot 23 (by kernel_rfl)), rfl⟩
      | false =>
        exact .inr ⟨unwanted_by 23 true (by kernel_rfl) (show a.eval (.tmp 23) = (.bool (false && e)) from hk.slot 23 (by kernel_rfl)), rfl⟩
    · -- slot 28
      cases h with
      | true =>
        cases e with
        | true =>
          exact .inl ⟨wanted_by 23 true (by kernel_rfl) (show a.eval (.tmp 23) = (.bool (true && true)) from hk.slot 23 (by kernel_rfl)), q_call rfl rfl #[(.agg #[.slice V.wa V.ws.length V.wc, .slice V.pa V.ps.length V.pc, .slice V.ca V.cs.length V.cc]), (.agg #[.slice W.wa W.ws.length W.wc, .slice W.pa W.ps.length W.pc, .slice W.ca W.cs.length W.cc]), (.int .i64 x.src.1)] (fun w => by kernel_rfl) (by simp only [List.map_toArray, List.map_cons, List.map_nil, (show a.eval (.tmp 24) = (.agg #[.slice V.wa V.ws.length V.wc, .slice V.pa V.ps.length V.pc, .slice V.ca V.cs.length V.cc]) from hk.slot 24 (by kernel_rfl)), (show a.eval (.tmp 25) = (.agg #[.slice W.wa W.ws.length W.wc, .slice W.pa W.ps.length W.pc, .slice W.ca W.cs.length W.cc]) from hk.slot 25 (by kernel_rfl)), (show a.eval (.tmp 27) = (.int .i64 x.src.1) from hk.slot 27 (by kernel_rfl))]) (v := (.bool s1)) (fun q => HS1.out q) rfl⟩
        | false =>
          exact .inr ⟨unwanted_by 23 true (by kernel_rfl) (show a.eval (.tmp 23) = (.bool (true && false)) from hk.slot 23 (by kernel_rfl)), rfl⟩
      | false =>
        exact .inr ⟨unwanted_by 23 true (by kernel_rfl) (show a.eval (.tmp 23) = (.bool (false && e)) from hk.slot 23 (by kernel_rfl)), rfl⟩
    · -- slot 29
      cases h with
      | true =>
        cases e with
        | true =>
          exact .inl ⟨wanted_free rfl, q_pick rfl true (show a.eval (.tmp 23) = (.bool (true && true)) from hk.slot 23 (by kernel_rfl)) (show a.eval (.tmp 28) = (.bool s1) from hk.slot 28 (by kernel_rfl))⟩
        | false =>
          exact .inl ⟨wanted_free rfl, q_pick rfl false (show a.eval (.tmp 23) = (.bool (true && false)) from hk.slot 23 (by kernel_rfl)) rfl⟩
      | false =>
        exact .inl ⟨wanted_free rfl, q_pick rfl false (show a.eval (.tmp 23) = (.bool (false && e)) from hk.slot 23 (by kernel_rfl)) rfl⟩
    · -- slot 30
      exact .inl ⟨wanted_free rfl, q_move (.tmp 29) rfl (show a.eval (.tmp 29) = (.bool ((h && e) && s1)) from hk.slot 29 (by kernel_rfl))⟩
    · -- slot 31
      cases h with
      | true =>
        cases e with
        | true =>
          cases s1 with
          | true =>
            exact .inl ⟨wanted_by 30 true (by kernel_rfl) (show a.eval (.tmp 30) = (.bool ((true && true) && true)) from hk.slot 30 (by kernel_rfl)), q_load (.tmp 2) rfl (show a.eval (.tmp 2) = (.pointer (some ⟨b2, 0, none⟩)) from hk.old 2 (by kernel_rfl) (by kernel_rfl)) (v := (.agg #[.slice V.wa V.ws.length V.wc, .slice V.pa V.ps.length V.pc, .slice V.ca V.cs.length V.cc])) (fun q => load3 (fun w => by kernel_rfl) (fun w => by kernel_rfl) (keep q.bel c0) (keep q.bel c1) (keep q.bel c2)) rfl⟩
          | false =>
            exact .inr ⟨unwanted_by 30 true (by kernel_rfl) (show a.eval (.tmp 30) = (.bool ((true && true) && false)) from hk.slot 30 (by kernel_rfl)), rfl⟩
        | false =>
          exact .inr ⟨unwanted_by 30 true (by kernel_rfl) (show a.eval (.tmp 30) = (.bool ((true && false) && s1)) from hk.slot 30 (by kernel_rfl)), rfl⟩
      | false =>
        exact .inr ⟨unwanted_by 30 true (by kernel_rfl) (show a.eval (.tmp 30) = (.bool ((false && e) && s1)) from hk.slot 30 (by kernel_rfl)), rfl⟩
    · -- slot 32
      cases h with
      | true =>
        cases e with
        | true =>
          cases s1 with
          | true =>
            exact .inl ⟨wanted_by 30 true (by kernel_rfl) (show a.eval (.tmp 30) = (.bool ((true && true) && true)) from hk.slot 30 (by kernel_rfl)), q_load (.tmp 1) rfl (show a.eval (.tmp 1) = (.pointer (some ⟨b1, 0, none⟩)) from hk.old 1 (by kernel_rfl) (by kernel_rfl)) (v := (.agg #[.slice W.wa W.ws.length W.wc, .slice W.pa W.ps.length W.pc, .slice W.ca W.cs.length W.cc])) (fun q => load3 (fun w => by kernel_rfl) (fun w => by kernel_rfl) (keep q.bel d0) (keep q.bel d1) (keep q.bel d2)) rfl⟩
          | false =>
            exact .inr ⟨unwanted_by 30 true (by kernel_rfl) (show a.eval (.tmp 30) = (.bool ((true && true) && false)) from hk.slot 30 (by kernel_rfl)), rfl⟩
        | false =>
          exact .inr ⟨unwanted_by 30 true (by kernel_rfl) (show a.eval (.tmp 30) = (.bool ((true && false) && s1)) from hk.slot 30 (by kernel_rfl)), rfl⟩
      | false =>
        exact .inr ⟨unwanted_by 30 true (by kernel_rfl) (show a.eval (.tmp 30) = (.bool ((false && e) && s1)) from hk.slot 30 (by kernel_rfl)), rfl⟩
    · -- slot 33
      cases h with
      | true =>
        cases e with
        | true =>
          cases s1 with
          | true =>
            exact .inl ⟨wanted_by 30 true (by kernel_rfl) (show a.eval (.tmp 30) = (.bool ((true && true) && true)) from hk.slot 30 (by kernel_rfl)), q_field (.tmp 3) rfl (show a.eval (.tmp 3) = (.pointer (some ⟨px, 0, none⟩)) from hk.old 3 (by kernel_rfl) (by kernel_rfl)) (v := (.pointer (some ⟨px, 2, none⟩))) (fun w => by kernel_rfl) rfl⟩
          | false =>
            exact .inr ⟨unwanted_by 30 true (by kernel_rfl) (show a.eval (.tmp 30) = (.bool ((true && true) && false)) from hk.slot 30 (by kernel_rfl)), rfl⟩
        | false =>
          exact .inr ⟨unwanted_by 30 true (by kernel_rfl) (show a.eval (.tmp 30) = (.bool ((true && false) && s1)) from hk.slot 30 (by kernel_rfl)), rfl⟩
      | false =>
        exact .inr ⟨unwanted_by 30 true (by kernel_rfl) (show a.eval (.tmp 30) = (.bool ((false && e) && s1)) from hk.slot 30 (by kernel_rfl)), rfl⟩
    · -- slot 34
      cases h with
      | true =>
        cases e with
        | true =>
          cases s1 with
          | true =>
            exact .inl ⟨wanted_by 30 true (by kernel_rfl) (show a.eval (.tmp 30) = (.bool ((true && true) && true)) from hk.slot 30 (by kernel_rfl)), q_load (.tmp 33) rfl (show a.eval (.tmp 33) = (.pointer (some ⟨px, 2, none⟩)) from hk.slot 33 (by kernel_rfl)) (v := (.int .i64 x.dst.1)) (fun q => load_at (fun w => by kernel_rfl) (x2 q)) rfl⟩
          | false =>
            exact .inr ⟨unwanted_by 30 true (by kernel_rfl) (show a.eval (.tmp 30) = (.bool ((true && true) && false)) from hk.slot 30 (by kernel_rfl)), rfl⟩
        | false =>
          exact .inr ⟨unwanted_by 30 true (by kernel_rfl) (show a.eval (.tmp 30) = (.bool ((true && false) && s1)) from hk.slot 30 (by kernel_rfl)), rfl⟩
      | false =>
        exact .inr ⟨unwanted_by 30 true (by kernel_rfl) (show a.eval (.tmp 30) = (.bool ((false && e) && s1)) from hk.slot 30 (by kernel_rfl)), rfl⟩
    · -- slot 35
      cases h with
      | true =>
        cases e with
        | true =>
          cases s1 with
          | true =>
            exact .inl ⟨wanted_by 30 true (by kernel_rfl) (show a.eval (.tmp 30) = (.bool ((true && true) && true)) from hk.slot 30 (by kernel_rfl)), q_call rfl rfl #[(.agg #[.slice V.wa V.ws.length V.wc, .slice V.pa V.ps.length V.pc, .slice V.ca V.cs.length V.cc]), (.agg #[.slice W.wa W.ws.length W.wc, .slice W.pa W.ps.length W.pc, .slice W.ca W.cs.length W.cc]), (.int .i64 x.dst.1)] (fun w => by kernel_rfl) (by simp only [List.map_toArray, List.map_cons, List.map_nil, (show a.eval (.tmp 31) = (.agg #[.slice V.wa V.ws.length V.wc, .slice V.pa V.ps.length V.pc, .slice V.ca V.cs.length V.cc]) from hk.slot 31 (by kernel_rfl)), (show a.eval (.tmp 32) = (.agg #[.slice W.wa W.ws.length W.wc, .slice W.pa W.ps.length W.pc, .slice W.ca W.cs.length W.cc]) from hk.slot 32 (by kernel_rfl)), (show a.eval (.tmp 34) = (.int .i64 x.dst.1) from hk.slot 34 (by kernel_rfl))]) (v := (.bool s2)) (fun q => HS2.out q) rfl⟩
          | false =>
            exact .inr ⟨unwanted_by 30 true (by kernel_rfl) (show a.eval (.tmp 30) = (.bool ((true && true) && false)) from hk.slot 30 (by kernel_rfl)), rfl⟩
        | false =>
          exact .inr ⟨unwanted_by 30 true (by kernel_rfl) (show a.eval (.tmp 30) = (.bool ((true && false) && s1)) from hk.slot 30 (by kernel_rfl)), rfl⟩
      | false =>
        exact .inr ⟨unwanted_by 30 true (by kernel_rfl) (show a.eval (.tmp 30) = (.bool ((false && e) && s1)) from hk.slot 30 (by kernel_rfl)), rfl⟩
    · -- slot 36
      cases h with
      | true =>
        cases e with
        | true =>
          cases s1 with
          | true =>
            exact .inl ⟨wanted_free rfl, q_pick rfl true (show a.eval (.tmp 30) = (.bool ((true && true) && true)) from hk.slot 30 (by kernel_rfl)) (show a.eval (.tmp 35) = (.bool s2) from hk.slot 35 (by kernel_rfl))⟩
          | false =>
            exact .inl ⟨wanted_free rfl, q_pick rfl false (show a.eval (.tmp 30) = (.bool ((true && true) && false)) from hk.slot 30 (by kernel_rfl)) rfl⟩
        | false =>
          exact .inl ⟨wanted_free rfl, q_pick rfl false (show a.eval (.tmp 30) = (.bool ((true && false) && s1)) from hk.slot 30 (by kernel_rfl)) rfl⟩
      | false =>
        exact .inl ⟨wanted_free rfl, q_pick rfl false (show a.eval (.tmp 30) = (.bool ((false && e) && s1)) from hk.slot 30 (by kernel_rfl)) rfl⟩
    · -- slot 4
      exact .inl ⟨wanted_free rfl, q_assign (.tmp 16) rfl (show a.eval (.tmp 16) = (.int .i64 x.id.1) from hk.slot 16 (by kernel_rfl))⟩
    · -- slot 5
      exact .inl ⟨wanted_free rfl, q_assign (.tmp 36) rfl (show a.eval (.tmp 36) = (.bool (((h && e) && s1) && s2)) from hk.slot 36 (by kernel_rfl))⟩
  intro a ⟨w3, hb3⟩ hsame hall
  have he := act_same hsame [15, 16, 17, 18, 19, 20, 21, 22, 23, 24, 25, 26, 27, 28, 29, 30, 31, 32, 33, 34, 35, 36, 4, 5] (by kernel_rfl)
  simp only [List.foldl_cons, List.foldl_nil] at he
  rw [show a.eval (.tmp 4) = (.int .i64 x.id.1) from hall 4 (by kernel_rfl), show a.eval (.tmp 5) = (.bool R) from (hall 5 (by kernel_rfl)).trans (congrArg Value.bool hR.out.symm)] at he
  generalize a.eval (.tmp 15) = x15 at he
  generalize a.eval (.tmp 16) = x16 at he
  generalize a.eval (.tmp 17) = x17 at he
  generalize a.eval (.tmp 18) = x18 at he
  generalize a.eval (.tmp 19) = x19 at he
  generalize a.eval (.tmp 20) = x20 at he
  generalize a.eval (.tmp 21) = x21 at he
  generalize a.eval (.tmp 22) = x22 at he
  generalize a.eval (.tmp 23) = x23 at he
  generalize a.eval (.tmp 24) = x24 at he
  generalize a.eval (.tmp 25) = x25 at he
  generalize a.eval (.tmp 26) = x26 at he
  generalize a.eval (.tmp 27) = x27 at he
  generalize a.eval (.tmp 28) = x28 at he
  generalize a.eval (.tmp 29) = x29 at he
  generalize a.eval (.tmp 30) = x30 at he
  generalize a.eval (.tmp 31) = x31 at he
  generalize a.eval (.tmp 32) = x32 at he
  generalize a.eval (.tmp 33) = x33 at he
  generalize a.eval (.tmp 34) = x34 at he
  generalize a.eval (.tmp 35) = x35 at he
  generalize a.eval (.tmp 36) = x36 at he
  simp only [put_lit] at he
  dsimp only [List.set_cons_zero, List.set_cons_succ] at he
  subst he
  clear hsame hall
  go_wp2_with fail
  go_ret2
  exact ⟨rfl, HB1.out.trans (hb3.mono HB1.out.size)⟩

def chansK (V W : CfgV) : List Int := if mayK V W then pickC (chanK V W) V.cs else []
set_option maxRecDepth 100000 in
set_option maxHeartbeats 2000000 in
theorem cchans_calls (w : World) (V W : CfgV) (h : V.At w) (k : W.At w) (hs : SmallV V) (ks : SmallV W) : Calls Try.prog 42 #[.agg #[.slice V.wa V.ws.length V.wc, .slice V.pa V.ps.length V.pc, .slice V.ca V.cs.length V.cc], .agg #[.slice W.wa W.ws.length W.wc, .slice W.pa W.ps.length W.pc, .slice W.ca W.cs.length W.cc]] w fun e w' => ∃ a' c', e = .returned (.slice a' (chansK V W).length c') ∧ VOwn cZ 1 3 w.heap.size w' a' (chansK V W) c' ∧ Below w.heap.size w w' := by
  obtain ⟨w0, hw0⟩ : ∃ w0, w0 = (w.alloc (.cells #[.slice V.wa V.ws.length V.wc, .slice V.pa V.ps.length V.pc, .slice V.ca V.cs.length V.cc] 26)).alloc (.cells #[.slice W.wa W.ws.length W.wc, .slice W.pa W.ps.length W.pc, .slice W.ca W.cs.length W.cc] 26) := ⟨_, rfl⟩
  have B0 : Below w.heap.size w w0 := by rw [hw0]; exact ((Below.refl _ w).alloc (Nat.le_refl _) _).alloc (by simp) _
  have hI := two_box w V W
  rw [← hw0] at hI
  have HI := Lib.hid hI
  have HV := Lib.hid (h.stay B0)
  have HW := Lib.hid (k.stay B0)
  have HP := Lib.hid (pickc_calls (p := chanK V W) 83 #[.pointer (some ⟨w.heap.size + 1, 0, none⟩), .pointer (some ⟨w.heap.size, 0, none⟩)] (enters_of Try.func83 (by kernel_rfl) rfl) w0 V W (h.stay B0) (k.stay B0) hs ks V.ca V.cs V.cc (h.stay B0).chs hs.chs
    (fun W' i hi hb => chan1_calls W' (w.heap.size + 1) w.heap.size V W (HV.out.stay hb) (HW.out.stay hb) hs ks (HI.out.2.keep hb) (HI.out.1.keep hb) V.cs[i]))
  obtain ⟨M, hM⟩ : ∃ M, Hid (M = chansK V W) := ⟨_, rfl⟩
  have HM : Hid ((if mayK V W then pickC (chanK V W) V.cs else []) = M) := hM.out.symm
  rw [HM.out] at HP
  rw [← hM.out]
  have HB0 := Lib.hid B0
  obtain ⟨⟨c0, c1, c2⟩, ⟨d0, d1, d2⟩⟩ := hI
  clear h k B0
  go_enter Try.func42, Try.ntmps42
  go_wp2_with fail
  rw [← hw0]
  clear hw0
  refine (HP.out).mono ?_
  rintro e w1 ⟨a1, k1, rfl, hO, hb1⟩
  have HO := Lib.hid (And.intro (hO.low HB0.out.size) (HB0.out.trans (hb1.mono HB0.out.size)))
  clear hO hb1 c0 c1 c2 d0 d1 d2
  go_wp2_with fail
  go_ret
  exact ⟨a1, k1, rfl, HO.out.1, HO.out.2⟩
end Go.Proofs.Ytpnbaapjjchlbaa
